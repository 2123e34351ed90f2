/- Printed by the turned printer (wip/fltpatch.py, wip/tools/pp.sh) out of the translation: what functions compute, and their walks. -/
import Derived.Test.YtmeogadkbbeglaaK1
import Derived.Test.YtmeogadkbbeglaaK5
import Derived.Test.YtmeogadkbbeglaaK4
namespace Go.Proofs.YtmeogadkbbeglaaQ
open Go.RowKit Go.Proofs.YtmeogadkbbeglaaW.PrintWords Go.Proofs.YtmeogadkbbeglaaW.PrintLast Go.Proofs.YtmeogadkbbeglaaW.PrintMore
attribute [local go_sem] max2_int min2_int max_two min_two max_three min_three max_four min_four   -- for this text's walks alone
set_option linter.unusedVariables false
set_option linter.unusedSimpArgs false
def fareboxref07_Span.l0 : Nat → Int → Int → Int → List (S35) → List (S39) → List (S48) → Nat → Int → Int → Int → Int → Int → Int → Int → Int → Int → Int → Option (Int × Int × Int × Int × Int × Bool)
  | 0, _, _, _, _, _, _, _, _, _, _, _, _, _, _, _, _, _ => none
  | k + 1, x1, x2, x8, x464000, x464001, x464002, x464003, x464004, x464005, x464006, x464007, x464008, x464009, x464010, x464011, x464012, x464013 => if x8 < (x464001.length : Int) then (if 0 ≤ x8 then (if ((rd_T39 x464001 x8).f0) = (mn x1 x2) then (if ((rd_T39 x464001 x8).f1) = (mx x1 x2) then (some ((rd_T39 x464001 x8).f0, (rd_T39 x464001 x8).f1, (rd_T39 x464001 x8).f2, (rd_T39 x464001 x8).f3, (rd_T39 x464001 x8).f4, true)) else (fareboxref07_Span.l0 k x1 x2 (wrap64 (x8 + 1)) x464000 x464001 x464002 x464003 x464004 x464005 x464006 x464007 x464008 x464009 x464010 x464011 x464012 x464013)) else (fareboxref07_Span.l0 k x1 x2 (wrap64 (x8 + 1)) x464000 x464001 x464002 x464003 x464004 x464005 x464006 x464007 x464008 x464009 x464010 x464011 x464012 x464013)) else (none)) else (some (0, 0, 0, 0, 0, false))
def fareboxref07_Span.f (k : Nat) (l0_0 : List (S35)) (l0_1 : List (S39)) (l0_2 : List (S48)) (a0_3 : Nat) (a0_4 : Int) (a0_5 : Int) (a0_6 : Int) (a0_7 : Int) (a0_8 : Int) (a0_9 : Int) (a0_10 : Int) (a0_11 : Int) (a0_12 : Int) (a0_13 : Int) (a1 : Int) (a2 : Int) : Option (Int × Int × Int × Int × Int × Bool) := fareboxref07_Span.l0 k a1 a2 0 l0_0 l0_1 l0_2 a0_3 a0_4 a0_5 a0_6 a0_7 a0_8 a0_9 a0_10 a0_11 a0_12 a0_13
set_option maxHeartbeats 8000000 in
set_option maxRecDepth 100000 in
theorem fareboxref07_Span.calls (k : Nat) (A0_0 : Option Addr) (c0_0 : Nat) (l0_0 : List (S35)) (A0_1 : Option Addr) (c0_1 : Nat) (l0_1 : List (S39)) (A0_2 : Option Addr) (c0_2 : Nat) (l0_2 : List (S48)) (a0_3 : Nat) (a0_4 : Int) (a0_5 : Int) (a0_6 : Int) (a0_7 : Int) (a0_8 : Int) (a0_9 : Int) (a0_10 : Int) (a0_11 : Int) (a0_12 : Int) (a0_13 : Int) (a1 : Int) (a2 : Int) (r1 : Int) (r2 : Int) (r3 : Int) (r4 : Int) (r5 : Int) (r6 : Bool) (w : World) (hr0_0 : Kd.C k35 w A0_0 l0_0.length l0_0) (hc0_0 : l0_0.length ≤ c0_0) (hr0_1 : Kd.C k39 w A0_1 l0_1.length l0_1) (hc0_1 : l0_1.length ≤ c0_1) (hr0_2 : Kd.C k48 w A0_2 l0_2.length l0_2) (hc0_2 : l0_2.length ≤ c0_2) (h : fareboxref07_Span.f k l0_0 l0_1 l0_2 a0_3 a0_4 a0_5 a0_6 a0_7 a0_8 a0_9 a0_10 a0_11 a0_12 a0_13 a1 a2 = some (r1, r2, r3, r4, r5, r6)) :
    Calls Try.prog 35 #[.agg #[.slice A0_0 l0_0.length c0_0, .slice A0_1 l0_1.length c0_1, .slice A0_2 l0_2.length c0_2, .float .f64 a0_3, .int .i64 a0_4, .int .i64 a0_5, .int .i64 a0_6, .int .i64 a0_7, .int .i64 a0_8, .int .i64 a0_9, .int .i64 a0_10, .int .i64 a0_11, .int .i64 a0_12, .int .i64 a0_13], .int .i64 a1, .int .i64 a2] w fun e w' => e = .returned (.tuple #[.agg #[.int .i64 r1, .int .i64 r2, .int .i64 r3, .int .i64 r4, .int .i64 r5], .bool r6]) ∧ Below w.heap.size w w' := by
  have hu27 := Try.underlying27
  have hu39 := Try.underlying39
  have HR0_0 := Aside0.mk hr0_0
  have HC0_0 := Aside0.mk hc0_0
  clear hr0_0 hc0_0
  have HR0_1 := Aside0.mk hr0_1
  have HC0_1 := Aside0.mk hc0_1
  clear hr0_1 hc0_1
  have HR0_2 := Aside0.mk hr0_2
  have HC0_2 := Aside0.mk hc0_2
  clear hr0_2 hc0_2
  have HB := Aside0.mk (Below.refl w.heap.size w)
  have H : (fareboxref07_Span.l0 k a1 a2 0 l0_0 l0_1 l0_2 a0_3 a0_4 a0_5 a0_6 a0_7 a0_8 a0_9 a0_10 a0_11 a0_12 a0_13) = some (r1, r2, r3, r4, r5, r6) := h
  clear h
  have H' := Aside0.mk H
  clear H
  go_enter Try.func35, Try.ntmps35
  go_wp2_with (first | ((with_reducible refine gate_dst (N := 3) rfl ?_); (try (refine gate_guard (by rfl) ?_; dsimp only)); refine box_event ?hg (N := 3) ?hd (cs := #[.slice A0_0 l0_0.length c0_0, .slice A0_1 l0_1.length c0_1, .slice A0_2 l0_2.length c0_2, .float .f64 a0_3, .int .i64 a0_4, .int .i64 a0_5, .int .i64 a0_6, .int .i64 a0_7, .int .i64 a0_8, .int .i64 a0_9, .int .i64 a0_10, .int .i64 a0_11, .int .i64 a0_12, .int .i64 a0_13]) (t := 27) ?hr ?_; (case hd => rfl); (case hg => rfl); (case hr => first | (go_simp; done) | (go_simp; rfl)); intro gb463 hg w4 hbox hb; have n0_ := Aside0.mk (below_step (by repeat (first | (with_reducible first | exact HB.out | apply below_alloc | apply pw_below_drewN | apply below_drew1) | exact HB.out)) hb); have n1_ := Aside0.mk (hbox); have n2_ := Aside0.mk ((by rw [hg]; exact (below_size (by repeat (first | (with_reducible first | exact HB.out | apply below_alloc | apply pw_below_drewN | apply below_drew1) | exact HB.out))) : w.heap.size ≤ gb463)); have n3_ := Aside0.mk ((by rw [hg]; exact (below_size (by repeat (first | (with_reducible first | exact HB.out | apply below_alloc | apply pw_below_drewN | apply below_drew1) | exact HB.out))) : w.heap.size ≤ gb463)); clear HB; have HB := n0_; have BK463 := n1_; have GW463 := n2_; have GE463 := n3_; clear n0_ n1_ n2_ n3_; clear hb hbox hg) | ((with_reducible refine gate_dst (N := 6) rfl ?_); (try (refine gate_guard (by rfl) ?_; dsimp only)); refine box_event ?hg (N := 6) ?hd (cs := #[.int .i64 0, .int .i64 0, .int .i64 0, .int .i64 0, .int .i64 0]) (t := 39) ?hr ?_; (case hd => rfl); (case hg => rfl); (case hr => first | (go_simp; done) | (go_simp; rfl)); intro gb464 hg w5 hbox hb; have n0_ := Aside0.mk (blk_below (g := gb463) (o := .cells #[.slice A0_0 l0_0.length c0_0, .slice A0_1 l0_1.length c0_1, .slice A0_2 l0_2.length c0_2, .float .f64 a0_3, .int .i64 a0_4, .int .i64 a0_5, .int .i64 a0_6, .int .i64 a0_7, .int .i64 a0_8, .int .i64 a0_9, .int .i64 a0_10, .int .i64 a0_11, .int .i64 a0_12, .int .i64 a0_13] 27 (0, 0)) (by (with_reducible repeat (first | refine blk_drewN ?_ _ | refine blk_drew ?_ | refine blk_alloc ?_ _)); exact BK463.out) hb); have n1_ := Aside0.mk (below_step (by repeat (first | (with_reducible first | exact HB.out | apply below_alloc | apply pw_below_drewN | apply below_drew1 | refine below_set ?_ GE463.out) | exact HB.out)) hb); have n2_ := Aside0.mk (hbox); have n3_ := Aside0.mk ((by rw [hg]; exact (below_size (by repeat (first | (with_reducible first | exact HB.out | apply below_alloc | apply pw_below_drewN | apply below_drew1 | refine below_set ?_ GE463.out) | exact HB.out))) : w.heap.size ≤ gb464)); have n4_ := Aside0.mk ((by rw [hg]; exact (below_size (by repeat (first | (with_reducible first | exact HB.out | apply below_alloc | apply pw_below_drewN | apply below_drew1 | refine below_set ?_ GE463.out) | exact HB.out))) : w.heap.size ≤ gb464)); have n5_ := Aside0.mk ((by rw [hg]; exact Nat.ne_of_lt (blk_lt (g := gb463) (o := .cells #[.slice A0_0 l0_0.length c0_0, .slice A0_1 l0_1.length c0_1, .slice A0_2 l0_2.length c0_2, .float .f64 a0_3, .int .i64 a0_4, .int .i64 a0_5, .int .i64 a0_6, .int .i64 a0_7, .int .i64 a0_8, .int .i64 a0_9, .int .i64 a0_10, .int .i64 a0_11, .int .i64 a0_12, .int .i64 a0_13] 27 (0, 0)) (by (with_reducible repeat (first | refine blk_drewN ?_ _ | refine blk_drew ?_ | refine blk_alloc ?_ _)); exact BK463.out)) : gb463 ≠ gb464)); have n6_ := Aside0.mk ((by rw [hg]; exact Nat.ne_of_gt (blk_lt (g := gb463) (o := .cells #[.slice A0_0 l0_0.length c0_0, .slice A0_1 l0_1.length c0_1, .slice A0_2 l0_2.length c0_2, .float .f64 a0_3, .int .i64 a0_4, .int .i64 a0_5, .int .i64 a0_6, .int .i64 a0_7, .int .i64 a0_8, .int .i64 a0_9, .int .i64 a0_10, .int .i64 a0_11, .int .i64 a0_12, .int .i64 a0_13] 27 (0, 0)) (by (with_reducible repeat (first | refine blk_drewN ?_ _ | refine blk_drew ?_ | refine blk_alloc ?_ _)); exact BK463.out)) : gb464 ≠ gb463)); clear BK463; clear HB; have BK463 := n0_; have HB := n1_; have BK464 := n2_; have GW464 := n3_; have GE464 := n4_; have NB463_464 := n5_; have NB464_463 := n6_; clear n0_ n1_ n2_ n3_ n4_ n5_ n6_; clear hb hbox hg))
  go_loopg [8] k (fun kq v8 w' => ∃ (x8_1 : Int) (x465000_1 : Int) (x465001_1 : Int) (x465002_1 : Int) (x465003_1 : Int) (x465004_1 : Int), v8 = .int .i64 x8_1 ∧ Aside0 (fareboxref07_Span.l0 kq a1 a2 x8_1 l0_0 l0_1 l0_2 a0_3 a0_4 a0_5 a0_6 a0_7 a0_8 a0_9 a0_10 a0_11 a0_12 a0_13 = some (r1, r2, r3, r4, r5, r6)) ∧ Aside0 (kq ≤ k) ∧ Aside0 (w'.heap[gb463]? = some (.cells #[(.slice A0_0 l0_0.length c0_0), (.slice A0_1 l0_1.length c0_1), (.slice A0_2 l0_2.length c0_2), .float .f64 a0_3, .int .i64 a0_4, .int .i64 a0_5, .int .i64 a0_6, .int .i64 a0_7, .int .i64 a0_8, .int .i64 a0_9, .int .i64 a0_10, .int .i64 a0_11, .int .i64 a0_12, .int .i64 a0_13] 27 (0, 0))) ∧ Aside0 (w'.heap[gb464]? = some (.cells #[.int .i64 x465000_1, .int .i64 x465001_1, .int .i64 x465002_1, .int .i64 x465003_1, .int .i64 x465004_1] 39 (0, 0))) ∧ Aside0 (Below w.heap.size w w'))
  case atStart => exact ⟨(0), (0), (0), (0), (0), (0), (by first | rfl | (simp; done) | (simp [*]; done)), H', ⟨Nat.le_refl _⟩, ⟨by (with_reducible repeat (first | refine blk_drewN ?_ _ | refine blk_drew ?_ | refine blk_alloc ?_ _)); exact BK463.out⟩, ⟨by (with_reducible repeat (first | refine blk_drewN ?_ _ | refine blk_drew ?_ | refine blk_alloc ?_ _)); exact BK464.out⟩, ⟨by repeat (first | (with_reducible first | exact HB.out | apply below_alloc | apply pw_below_drewN | apply below_drew1 | refine below_set ?_ GE463.out | refine below_set ?_ GE464.out) | exact HB.out)⟩⟩
  case round =>
    clear H'
    try clear p2
    try clear c3
    obtain ⟨x8_1, x465000_1, x465001_1, x465002_1, x465003_1, x465004_1, rfl, HA, HK1, BK463, BK464, HB⟩ := hrel
    cases gk with
    | zero => exact absurd HA.out (by simp [fareboxref07_Span.l0])
    | succ k1 =>
      have H := HA.out
      clear HA
      simp only [fareboxref07_Span.l0] at H
      by_cases c6 : x8_1 < (l0_1.length : Int)
      · rw [if_pos c6] at H
        have c6b0 : decide (x8_1 < (l0_1.length : Int)) = true := decide_eq_true c6
        clear c6
        by_cases c7 : 0 ≤ x8_1
        · rw [if_pos c7] at H
          have c7b0 : decide (0 ≤ x8_1) = true := decide_eq_true c7
          clear c7
          obtain ⟨ji8, hji8⟩ : ∃ j_ : Int, (mn a1 a2) = j_ := ⟨_, rfl⟩
          replace H : (if ((rd_T39 l0_1 x8_1).f0) = (ji8) then (if ((rd_T39 l0_1 x8_1).f1) = (mx a1 a2) then (some ((rd_T39 l0_1 x8_1).f0, (rd_T39 l0_1 x8_1).f1, (rd_T39 l0_1 x8_1).f2, (rd_T39 l0_1 x8_1).f3, (rd_T39 l0_1 x8_1).f4, true)) else (fareboxref07_Span.l0 k1 a1 a2 (wrap64 (x8_1 + 1)) l0_0 l0_1 l0_2 a0_3 a0_4 a0_5 a0_6 a0_7 a0_8 a0_9 a0_10 a0_11 a0_12 a0_13)) else (fareboxref07_Span.l0 k1 a1 a2 (wrap64 (x8_1 + 1)) l0_0 l0_1 l0_2 a0_3 a0_4 a0_5 a0_6 a0_7 a0_8 a0_9 a0_10 a0_11 a0_12 a0_13)) = some (r1, r2, r3, r4, r5, r6) := by first | (rw [hji8] at H; exact H) | (simp only [hji8] at H ⊢; exact H)
          have hji8_ : (if a2 < a1 then a2 else a1) = ji8 := hji8
          by_cases c9 : ((rd_T39 l0_1 x8_1).f0) = (ji8)
          · rw [if_pos c9] at H
            have c9b0 : (((rd_T39 l0_1 x8_1).f0) == (ji8)) = true := beq_iff_eq.mpr c9
            have c9b1 : (((rd_T39 l0_1 x8_1).f0) != (ji8)) = false := bne_eq_false_iff_eq.mpr c9
            clear c9
            obtain ⟨ji10, hji10⟩ : ∃ j_ : Int, (mx a1 a2) = j_ := ⟨_, rfl⟩
            replace H : (if ((rd_T39 l0_1 x8_1).f1) = (ji10) then (some ((rd_T39 l0_1 x8_1).f0, (rd_T39 l0_1 x8_1).f1, (rd_T39 l0_1 x8_1).f2, (rd_T39 l0_1 x8_1).f3, (rd_T39 l0_1 x8_1).f4, true)) else (fareboxref07_Span.l0 k1 a1 a2 (wrap64 (x8_1 + 1)) l0_0 l0_1 l0_2 a0_3 a0_4 a0_5 a0_6 a0_7 a0_8 a0_9 a0_10 a0_11 a0_12 a0_13)) = some (r1, r2, r3, r4, r5, r6) := by first | (rw [hji10] at H; exact H) | (simp only [hji10] at H ⊢; exact H)
            have hji10_ : (if a1 < a2 then a2 else a1) = ji10 := hji10
            by_cases c11 : ((rd_T39 l0_1 x8_1).f1) = (ji10)
            · rw [if_pos c11] at H
              have c11b0 : (((rd_T39 l0_1 x8_1).f1) == (ji10)) = true := beq_iff_eq.mpr c11
              have c11b1 : (((rd_T39 l0_1 x8_1).f1) != (ji10)) = false := bne_eq_false_iff_eq.mpr c11
              clear c11
              simp only [Option.some.injEq, Prod.mk.injEq] at H
              obtain ⟨rfl, rfl, rfl, rfl, rfl, rfl⟩ := H
              have hnb12 := NB463_464.out
              have hnc12 := NB464_463.out
              have hcz13_0 : wr.cell? ⟨gb463, 0, none⟩ = some (.slice A0_0 l0_0.length c0_0) := (blk_cell BK463.out 0).trans rfl
              have hcz13_1 : wr.cell? ⟨gb463, 1, none⟩ = some (.slice A0_1 l0_1.length c0_1) := (blk_cell BK463.out 1).trans rfl
              have hcz13_2 : wr.cell? ⟨gb463, 2, none⟩ = some (.slice A0_2 l0_2.length c0_2) := (blk_cell BK463.out 2).trans rfl
              have hcz13_3 : wr.cell? ⟨gb463, 3, none⟩ = some (.float .f64 a0_3) := (blk_cell BK463.out 3).trans rfl
              have hcz13_4 : wr.cell? ⟨gb463, 4, none⟩ = some (.int .i64 a0_4) := (blk_cell BK463.out 4).trans rfl
              have hcz13_5 : wr.cell? ⟨gb463, 5, none⟩ = some (.int .i64 a0_5) := (blk_cell BK463.out 5).trans rfl
              have hcz13_6 : wr.cell? ⟨gb463, 6, none⟩ = some (.int .i64 a0_6) := (blk_cell BK463.out 6).trans rfl
              have hcz13_7 : wr.cell? ⟨gb463, 7, none⟩ = some (.int .i64 a0_7) := (blk_cell BK463.out 7).trans rfl
              have hcz13_8 : wr.cell? ⟨gb463, 8, none⟩ = some (.int .i64 a0_8) := (blk_cell BK463.out 8).trans rfl
              have hcz13_9 : wr.cell? ⟨gb463, 9, none⟩ = some (.int .i64 a0_9) := (blk_cell BK463.out 9).trans rfl
              have hcz13_10 : wr.cell? ⟨gb463, 10, none⟩ = some (.int .i64 a0_10) := (blk_cell BK463.out 10).trans rfl
              have hcz13_11 : wr.cell? ⟨gb463, 11, none⟩ = some (.int .i64 a0_11) := (blk_cell BK463.out 11).trans rfl
              have hcz13_12 : wr.cell? ⟨gb463, 12, none⟩ = some (.int .i64 a0_12) := (blk_cell BK463.out 12).trans rfl
              have hcz13_13 : wr.cell? ⟨gb463, 13, none⟩ = some (.int .i64 a0_13) := (blk_cell BK463.out 13).trans rfl
              have hfz13_0 := blk_frozen BK463.out 0
              have hfz13_1 := blk_frozen BK463.out 1
              have hfz13_2 := blk_frozen BK463.out 2
              have hfz13_3 := blk_frozen BK463.out 3
              have hfz13_4 := blk_frozen BK463.out 4
              have hfz13_5 := blk_frozen BK463.out 5
              have hfz13_6 := blk_frozen BK463.out 6
              have hfz13_7 := blk_frozen BK463.out 7
              have hfz13_8 := blk_frozen BK463.out 8
              have hfz13_9 := blk_frozen BK463.out 9
              have hfz13_10 := blk_frozen BK463.out 10
              have hfz13_11 := blk_frozen BK463.out 11
              have hfz13_12 := blk_frozen BK463.out 12
              have hfz13_13 := blk_frozen BK463.out 13
              have p465 : 0 ≤ (x8_1 : Int) := of_decide_eq_true (by first | (with_reducible assumption) | assumption)
              have q465 : x8_1 < (l0_1.length : Int) := of_decide_eq_true (by first | (with_reducible assumption) | assumption)
              obtain ⟨ad465, e465, hx465_0, hx465_1, hx465_2, hx465_3, hx465_4⟩ := at_T39 HR0_1.out x8_1 p465 q465
              cases e465
              replace hx465_0 := (HB.out.cell (World.block_lt_of_cell? w _ hx465_0)).trans hx465_0
              replace hx465_1 := (HB.out.cell (World.block_lt_of_cell? w _ hx465_1)).trans hx465_1
              replace hx465_2 := (HB.out.cell (World.block_lt_of_cell? w _ hx465_2)).trans hx465_2
              replace hx465_3 := (HB.out.cell (World.block_lt_of_cell? w _ hx465_3)).trans hx465_3
              replace hx465_4 := (HB.out.cell (World.block_lt_of_cell? w _ hx465_4)).trans hx465_4
              replace p465 := eq_true p465
              replace q465 := eq_true q465
              have p466 : 0 ≤ (x8_1 : Int) := of_decide_eq_true (by first | (with_reducible assumption) | assumption)
              have q466 : x8_1 < (l0_1.length : Int) := of_decide_eq_true (by first | (with_reducible assumption) | assumption)
              obtain ⟨ad466, e466, hx466_0, hx466_1, hx466_2, hx466_3, hx466_4⟩ := at_T39 HR0_1.out x8_1 p466 q466
              obtain rfl : ad465 = ad466 := (by injection e466)
              replace hx466_0 := (HB.out.cell (World.block_lt_of_cell? w _ hx466_0)).trans hx466_0
              replace hx466_1 := (HB.out.cell (World.block_lt_of_cell? w _ hx466_1)).trans hx466_1
              replace hx466_2 := (HB.out.cell (World.block_lt_of_cell? w _ hx466_2)).trans hx466_2
              replace hx466_3 := (HB.out.cell (World.block_lt_of_cell? w _ hx466_3)).trans hx466_3
              replace hx466_4 := (HB.out.cell (World.block_lt_of_cell? w _ hx466_4)).trans hx466_4
              replace p466 := eq_true p466
              replace q466 := eq_true q466
              have p467 : 0 ≤ (x8_1 : Int) := of_decide_eq_true (by first | (with_reducible assumption) | assumption)
              have q467 : x8_1 < (l0_1.length : Int) := of_decide_eq_true (by first | (with_reducible assumption) | assumption)
              obtain ⟨ad467, e467, hx467_0, hx467_1, hx467_2, hx467_3, hx467_4⟩ := at_T39 HR0_1.out x8_1 p467 q467
              obtain rfl : ad465 = ad467 := (by injection e467)
              replace hx467_0 := (HB.out.cell (World.block_lt_of_cell? w _ hx467_0)).trans hx467_0
              replace hx467_1 := (HB.out.cell (World.block_lt_of_cell? w _ hx467_1)).trans hx467_1
              replace hx467_2 := (HB.out.cell (World.block_lt_of_cell? w _ hx467_2)).trans hx467_2
              replace hx467_3 := (HB.out.cell (World.block_lt_of_cell? w _ hx467_3)).trans hx467_3
              replace hx467_4 := (HB.out.cell (World.block_lt_of_cell? w _ hx467_4)).trans hx467_4
              replace p467 := eq_true p467
              replace q467 := eq_true q467
              have hcz14_0 : wr.cell? ⟨gb464, 0, none⟩ = some (.int .i64 x465000_1) := (blk_cell BK464.out 0).trans rfl
              have hcz14_1 : wr.cell? ⟨gb464, 1, none⟩ = some (.int .i64 x465001_1) := (blk_cell BK464.out 1).trans rfl
              have hcz14_2 : wr.cell? ⟨gb464, 2, none⟩ = some (.int .i64 x465002_1) := (blk_cell BK464.out 2).trans rfl
              have hcz14_3 : wr.cell? ⟨gb464, 3, none⟩ = some (.int .i64 x465003_1) := (blk_cell BK464.out 3).trans rfl
              have hcz14_4 : wr.cell? ⟨gb464, 4, none⟩ = some (.int .i64 x465004_1) := (blk_cell BK464.out 4).trans rfl
              have hfz14_0 := blk_frozen BK464.out 0
              have hfz14_1 := blk_frozen BK464.out 1
              have hfz14_2 := blk_frozen BK464.out 2
              have hfz14_3 := blk_frozen BK464.out 3
              have hfz14_4 := blk_frozen BK464.out 4
              go_wp2
              refine bodyPost_ret (results_ct rfl _ _ gb464 39 #[.int .i64 ((rd_T39 l0_1 x8_1).f0), .int .i64 ((rd_T39 l0_1 x8_1).f1), .int .i64 ((rd_T39 l0_1 x8_1).f2), .int .i64 ((rd_T39 l0_1 x8_1).f3), .int .i64 ((rd_T39 l0_1 x8_1).f4)] (0, 0) _ rfl (by (with_reducible repeat (first | refine blk_drewN ?_ _ | refine blk_drew ?_ | refine blk_alloc ?_ _)); refine blk_put (cs := #[.int .i64 ((rd_T39 l0_1 x8_1).f0), .int .i64 ((rd_T39 l0_1 x8_1).f1), .int .i64 ((rd_T39 l0_1 x8_1).f2), .int .i64 ((rd_T39 l0_1 x8_1).f3), .int .i64 x465004_1]) ?_ 4 _ rfl; (with_reducible repeat (first | refine blk_drewN ?_ _ | refine blk_drew ?_ | refine blk_alloc ?_ _)); refine blk_put (cs := #[.int .i64 ((rd_T39 l0_1 x8_1).f0), .int .i64 ((rd_T39 l0_1 x8_1).f1), .int .i64 ((rd_T39 l0_1 x8_1).f2), .int .i64 x465003_1, .int .i64 x465004_1]) ?_ 3 _ rfl; (with_reducible repeat (first | refine blk_drewN ?_ _ | refine blk_drew ?_ | refine blk_alloc ?_ _)); refine blk_put (cs := #[.int .i64 ((rd_T39 l0_1 x8_1).f0), .int .i64 ((rd_T39 l0_1 x8_1).f1), .int .i64 x465002_1, .int .i64 x465003_1, .int .i64 x465004_1]) ?_ 2 _ rfl; (with_reducible repeat (first | refine blk_drewN ?_ _ | refine blk_drew ?_ | refine blk_alloc ?_ _)); refine blk_put (cs := #[.int .i64 ((rd_T39 l0_1 x8_1).f0), .int .i64 x465001_1, .int .i64 x465002_1, .int .i64 x465003_1, .int .i64 x465004_1]) ?_ 1 _ rfl; (with_reducible repeat (first | refine blk_drewN ?_ _ | refine blk_drew ?_ | refine blk_alloc ?_ _)); refine blk_put (cs := #[.int .i64 x465000_1, .int .i64 x465001_1, .int .i64 x465002_1, .int .i64 x465003_1, .int .i64 x465004_1]) ?_ 0 _ rfl; (with_reducible repeat (first | refine blk_drewN ?_ _ | refine blk_drew ?_ | refine blk_alloc ?_ _)); exact BK464.out) Try.underlying39 rfl (by kernel_rfl)) rfl ?_
              exact ⟨by first | rfl | (simp [errW_none, errW_some] <;> rfl) | (simp only [← hji8, ← hji10]; first | rfl | (simp [errW_none, errW_some] <;> rfl)) | (simp [*, errW_none, errW_some] <;> rfl), by repeat (first | (with_reducible first | exact HB.out | apply below_alloc | apply pw_below_drewN | apply below_drew1 | refine below_set ?_ GE463.out | refine below_set ?_ GE464.out) | exact HB.out)⟩
            · rw [if_neg c11] at H
              have c11b0 : (((rd_T39 l0_1 x8_1).f1) == (ji10)) = false := beq_eq_false_iff_ne.mpr c11
              have c11b1 : (((rd_T39 l0_1 x8_1).f1) != (ji10)) = true := bne_iff_ne.mpr c11
              have H' := Aside0.mk H
              clear H
              have hnb15 := NB463_464.out
              have hnc15 := NB464_463.out
              have hcz16_0 : wr.cell? ⟨gb463, 0, none⟩ = some (.slice A0_0 l0_0.length c0_0) := (blk_cell BK463.out 0).trans rfl
              have hcz16_1 : wr.cell? ⟨gb463, 1, none⟩ = some (.slice A0_1 l0_1.length c0_1) := (blk_cell BK463.out 1).trans rfl
              have hcz16_2 : wr.cell? ⟨gb463, 2, none⟩ = some (.slice A0_2 l0_2.length c0_2) := (blk_cell BK463.out 2).trans rfl
              have hcz16_3 : wr.cell? ⟨gb463, 3, none⟩ = some (.float .f64 a0_3) := (blk_cell BK463.out 3).trans rfl
              have hcz16_4 : wr.cell? ⟨gb463, 4, none⟩ = some (.int .i64 a0_4) := (blk_cell BK463.out 4).trans rfl
              have hcz16_5 : wr.cell? ⟨gb463, 5, none⟩ = some (.int .i64 a0_5) := (blk_cell BK463.out 5).trans rfl
              have hcz16_6 : wr.cell? ⟨gb463, 6, none⟩ = some (.int .i64 a0_6) := (blk_cell BK463.out 6).trans rfl
              have hcz16_7 : wr.cell? ⟨gb463, 7, none⟩ = some (.int .i64 a0_7) := (blk_cell BK463.out 7).trans rfl
              have hcz16_8 : wr.cell? ⟨gb463, 8, none⟩ = some (.int .i64 a0_8) := (blk_cell BK463.out 8).trans rfl
              have hcz16_9 : wr.cell? ⟨gb463, 9, none⟩ = some (.int .i64 a0_9) := (blk_cell BK463.out 9).trans rfl
              have hcz16_10 : wr.cell? ⟨gb463, 10, none⟩ = some (.int .i64 a0_10) := (blk_cell BK463.out 10).trans rfl
              have hcz16_11 : wr.cell? ⟨gb463, 11, none⟩ = some (.int .i64 a0_11) := (blk_cell BK463.out 11).trans rfl
              have hcz16_12 : wr.cell? ⟨gb463, 12, none⟩ = some (.int .i64 a0_12) := (blk_cell BK463.out 12).trans rfl
              have hcz16_13 : wr.cell? ⟨gb463, 13, none⟩ = some (.int .i64 a0_13) := (blk_cell BK463.out 13).trans rfl
              have hfz16_0 := blk_frozen BK463.out 0
              have hfz16_1 := blk_frozen BK463.out 1
              have hfz16_2 := blk_frozen BK463.out 2
              have hfz16_3 := blk_frozen BK463.out 3
              have hfz16_4 := blk_frozen BK463.out 4
              have hfz16_5 := blk_frozen BK463.out 5
              have hfz16_6 := blk_frozen BK463.out 6
              have hfz16_7 := blk_frozen BK463.out 7
              have hfz16_8 := blk_frozen BK463.out 8
              have hfz16_9 := blk_frozen BK463.out 9
              have hfz16_10 := blk_frozen BK463.out 10
              have hfz16_11 := blk_frozen BK463.out 11
              have hfz16_12 := blk_frozen BK463.out 12
              have hfz16_13 := blk_frozen BK463.out 13
              have p465 : 0 ≤ (x8_1 : Int) := of_decide_eq_true (by first | (with_reducible assumption) | assumption)
              have q465 : x8_1 < (l0_1.length : Int) := of_decide_eq_true (by first | (with_reducible assumption) | assumption)
              obtain ⟨ad465, e465, hx465_0, hx465_1, hx465_2, hx465_3, hx465_4⟩ := at_T39 HR0_1.out x8_1 p465 q465
              cases e465
              replace hx465_0 := (HB.out.cell (World.block_lt_of_cell? w _ hx465_0)).trans hx465_0
              replace hx465_1 := (HB.out.cell (World.block_lt_of_cell? w _ hx465_1)).trans hx465_1
              replace hx465_2 := (HB.out.cell (World.block_lt_of_cell? w _ hx465_2)).trans hx465_2
              replace hx465_3 := (HB.out.cell (World.block_lt_of_cell? w _ hx465_3)).trans hx465_3
              replace hx465_4 := (HB.out.cell (World.block_lt_of_cell? w _ hx465_4)).trans hx465_4
              replace p465 := eq_true p465
              replace q465 := eq_true q465
              have p466 : 0 ≤ (x8_1 : Int) := of_decide_eq_true (by first | (with_reducible assumption) | assumption)
              have q466 : x8_1 < (l0_1.length : Int) := of_decide_eq_true (by first | (with_reducible assumption) | assumption)
              obtain ⟨ad466, e466, hx466_0, hx466_1, hx466_2, hx466_3, hx466_4⟩ := at_T39 HR0_1.out x8_1 p466 q466
              obtain rfl : ad465 = ad466 := (by injection e466)
              replace hx466_0 := (HB.out.cell (World.block_lt_of_cell? w _ hx466_0)).trans hx466_0
              replace hx466_1 := (HB.out.cell (World.block_lt_of_cell? w _ hx466_1)).trans hx466_1
              replace hx466_2 := (HB.out.cell (World.block_lt_of_cell? w _ hx466_2)).trans hx466_2
              replace hx466_3 := (HB.out.cell (World.block_lt_of_cell? w _ hx466_3)).trans hx466_3
              replace hx466_4 := (HB.out.cell (World.block_lt_of_cell? w _ hx466_4)).trans hx466_4
              replace p466 := eq_true p466
              replace q466 := eq_true q466
              go_wp2
              go_roundg k1
              case measure => have := HK1.out; omega
              case rel => exact ⟨(wrap64 (x8_1 + 1)), (x465000_1), (x465001_1), (x465002_1), (x465003_1), (x465004_1), (by first | rfl | (simp; done) | (simp [*]; done)), H', ⟨by have := HK1.out; omega⟩, ⟨by (with_reducible repeat (first | refine blk_drewN ?_ _ | refine blk_drew ?_ | refine blk_alloc ?_ _)); exact BK463.out⟩, ⟨by (with_reducible repeat (first | refine blk_drewN ?_ _ | refine blk_drew ?_ | refine blk_alloc ?_ _)); exact BK464.out⟩, ⟨by repeat (first | (with_reducible first | exact HB.out | apply below_alloc | apply pw_below_drewN | apply below_drew1 | refine below_set ?_ GE463.out | refine below_set ?_ GE464.out) | exact HB.out)⟩⟩
          · rw [if_neg c9] at H
            have c9b0 : (((rd_T39 l0_1 x8_1).f0) == (ji8)) = false := beq_eq_false_iff_ne.mpr c9
            have c9b1 : (((rd_T39 l0_1 x8_1).f0) != (ji8)) = true := bne_iff_ne.mpr c9
            have H' := Aside0.mk H
            clear H
            have hnb17 := NB463_464.out
            have hnc17 := NB464_463.out
            have hcz18_0 : wr.cell? ⟨gb463, 0, none⟩ = some (.slice A0_0 l0_0.length c0_0) := (blk_cell BK463.out 0).trans rfl
            have hcz18_1 : wr.cell? ⟨gb463, 1, none⟩ = some (.slice A0_1 l0_1.length c0_1) := (blk_cell BK463.out 1).trans rfl
            have hcz18_2 : wr.cell? ⟨gb463, 2, none⟩ = some (.slice A0_2 l0_2.length c0_2) := (blk_cell BK463.out 2).trans rfl
            have hcz18_3 : wr.cell? ⟨gb463, 3, none⟩ = some (.float .f64 a0_3) := (blk_cell BK463.out 3).trans rfl
            have hcz18_4 : wr.cell? ⟨gb463, 4, none⟩ = some (.int .i64 a0_4) := (blk_cell BK463.out 4).trans rfl
            have hcz18_5 : wr.cell? ⟨gb463, 5, none⟩ = some (.int .i64 a0_5) := (blk_cell BK463.out 5).trans rfl
            have hcz18_6 : wr.cell? ⟨gb463, 6, none⟩ = some (.int .i64 a0_6) := (blk_cell BK463.out 6).trans rfl
            have hcz18_7 : wr.cell? ⟨gb463, 7, none⟩ = some (.int .i64 a0_7) := (blk_cell BK463.out 7).trans rfl
            have hcz18_8 : wr.cell? ⟨gb463, 8, none⟩ = some (.int .i64 a0_8) := (blk_cell BK463.out 8).trans rfl
            have hcz18_9 : wr.cell? ⟨gb463, 9, none⟩ = some (.int .i64 a0_9) := (blk_cell BK463.out 9).trans rfl
            have hcz18_10 : wr.cell? ⟨gb463, 10, none⟩ = some (.int .i64 a0_10) := (blk_cell BK463.out 10).trans rfl
            have hcz18_11 : wr.cell? ⟨gb463, 11, none⟩ = some (.int .i64 a0_11) := (blk_cell BK463.out 11).trans rfl
            have hcz18_12 : wr.cell? ⟨gb463, 12, none⟩ = some (.int .i64 a0_12) := (blk_cell BK463.out 12).trans rfl
            have hcz18_13 : wr.cell? ⟨gb463, 13, none⟩ = some (.int .i64 a0_13) := (blk_cell BK463.out 13).trans rfl
            have hfz18_0 := blk_frozen BK463.out 0
            have hfz18_1 := blk_frozen BK463.out 1
            have hfz18_2 := blk_frozen BK463.out 2
            have hfz18_3 := blk_frozen BK463.out 3
            have hfz18_4 := blk_frozen BK463.out 4
            have hfz18_5 := blk_frozen BK463.out 5
            have hfz18_6 := blk_frozen BK463.out 6
            have hfz18_7 := blk_frozen BK463.out 7
            have hfz18_8 := blk_frozen BK463.out 8
            have hfz18_9 := blk_frozen BK463.out 9
            have hfz18_10 := blk_frozen BK463.out 10
            have hfz18_11 := blk_frozen BK463.out 11
            have hfz18_12 := blk_frozen BK463.out 12
            have hfz18_13 := blk_frozen BK463.out 13
            have p465 : 0 ≤ (x8_1 : Int) := of_decide_eq_true (by first | (with_reducible assumption) | assumption)
            have q465 : x8_1 < (l0_1.length : Int) := of_decide_eq_true (by first | (with_reducible assumption) | assumption)
            obtain ⟨ad465, e465, hx465_0, hx465_1, hx465_2, hx465_3, hx465_4⟩ := at_T39 HR0_1.out x8_1 p465 q465
            cases e465
            replace hx465_0 := (HB.out.cell (World.block_lt_of_cell? w _ hx465_0)).trans hx465_0
            replace hx465_1 := (HB.out.cell (World.block_lt_of_cell? w _ hx465_1)).trans hx465_1
            replace hx465_2 := (HB.out.cell (World.block_lt_of_cell? w _ hx465_2)).trans hx465_2
            replace hx465_3 := (HB.out.cell (World.block_lt_of_cell? w _ hx465_3)).trans hx465_3
            replace hx465_4 := (HB.out.cell (World.block_lt_of_cell? w _ hx465_4)).trans hx465_4
            replace p465 := eq_true p465
            replace q465 := eq_true q465
            go_wp2
            go_roundg k1
            case measure => have := HK1.out; omega
            case rel => exact ⟨(wrap64 (x8_1 + 1)), (x465000_1), (x465001_1), (x465002_1), (x465003_1), (x465004_1), (by first | rfl | (simp; done) | (simp [*]; done)), H', ⟨by have := HK1.out; omega⟩, ⟨by (with_reducible repeat (first | refine blk_drewN ?_ _ | refine blk_drew ?_ | refine blk_alloc ?_ _)); exact BK463.out⟩, ⟨by (with_reducible repeat (first | refine blk_drewN ?_ _ | refine blk_drew ?_ | refine blk_alloc ?_ _)); exact BK464.out⟩, ⟨by repeat (first | (with_reducible first | exact HB.out | apply below_alloc | apply pw_below_drewN | apply below_drew1 | refine below_set ?_ GE463.out | refine below_set ?_ GE464.out) | exact HB.out)⟩⟩
        · rw [if_neg c7] at H
          exact absurd H (by simp)
      · rw [if_neg c6] at H
        have c6b0 : decide (x8_1 < (l0_1.length : Int)) = false := decide_eq_false c6
        clear c6
        simp only [Option.some.injEq, Prod.mk.injEq] at H
        obtain ⟨rfl, rfl, rfl, rfl, rfl, rfl⟩ := H
        have hnb19 := NB463_464.out
        have hnc19 := NB464_463.out
        have hcz20_0 : wr.cell? ⟨gb463, 0, none⟩ = some (.slice A0_0 l0_0.length c0_0) := (blk_cell BK463.out 0).trans rfl
        have hcz20_1 : wr.cell? ⟨gb463, 1, none⟩ = some (.slice A0_1 l0_1.length c0_1) := (blk_cell BK463.out 1).trans rfl
        have hcz20_2 : wr.cell? ⟨gb463, 2, none⟩ = some (.slice A0_2 l0_2.length c0_2) := (blk_cell BK463.out 2).trans rfl
        have hcz20_3 : wr.cell? ⟨gb463, 3, none⟩ = some (.float .f64 a0_3) := (blk_cell BK463.out 3).trans rfl
        have hcz20_4 : wr.cell? ⟨gb463, 4, none⟩ = some (.int .i64 a0_4) := (blk_cell BK463.out 4).trans rfl
        have hcz20_5 : wr.cell? ⟨gb463, 5, none⟩ = some (.int .i64 a0_5) := (blk_cell BK463.out 5).trans rfl
        have hcz20_6 : wr.cell? ⟨gb463, 6, none⟩ = some (.int .i64 a0_6) := (blk_cell BK463.out 6).trans rfl
        have hcz20_7 : wr.cell? ⟨gb463, 7, none⟩ = some (.int .i64 a0_7) := (blk_cell BK463.out 7).trans rfl
        have hcz20_8 : wr.cell? ⟨gb463, 8, none⟩ = some (.int .i64 a0_8) := (blk_cell BK463.out 8).trans rfl
        have hcz20_9 : wr.cell? ⟨gb463, 9, none⟩ = some (.int .i64 a0_9) := (blk_cell BK463.out 9).trans rfl
        have hcz20_10 : wr.cell? ⟨gb463, 10, none⟩ = some (.int .i64 a0_10) := (blk_cell BK463.out 10).trans rfl
        have hcz20_11 : wr.cell? ⟨gb463, 11, none⟩ = some (.int .i64 a0_11) := (blk_cell BK463.out 11).trans rfl
        have hcz20_12 : wr.cell? ⟨gb463, 12, none⟩ = some (.int .i64 a0_12) := (blk_cell BK463.out 12).trans rfl
        have hcz20_13 : wr.cell? ⟨gb463, 13, none⟩ = some (.int .i64 a0_13) := (blk_cell BK463.out 13).trans rfl
        have hfz20_0 := blk_frozen BK463.out 0
        have hfz20_1 := blk_frozen BK463.out 1
        have hfz20_2 := blk_frozen BK463.out 2
        have hfz20_3 := blk_frozen BK463.out 3
        have hfz20_4 := blk_frozen BK463.out 4
        have hfz20_5 := blk_frozen BK463.out 5
        have hfz20_6 := blk_frozen BK463.out 6
        have hfz20_7 := blk_frozen BK463.out 7
        have hfz20_8 := blk_frozen BK463.out 8
        have hfz20_9 := blk_frozen BK463.out 9
        have hfz20_10 := blk_frozen BK463.out 10
        have hfz20_11 := blk_frozen BK463.out 11
        have hfz20_12 := blk_frozen BK463.out 12
        have hfz20_13 := blk_frozen BK463.out 13
        have hcz21_0 : wr.cell? ⟨gb464, 0, none⟩ = some (.int .i64 x465000_1) := (blk_cell BK464.out 0).trans rfl
        have hcz21_1 : wr.cell? ⟨gb464, 1, none⟩ = some (.int .i64 x465001_1) := (blk_cell BK464.out 1).trans rfl
        have hcz21_2 : wr.cell? ⟨gb464, 2, none⟩ = some (.int .i64 x465002_1) := (blk_cell BK464.out 2).trans rfl
        have hcz21_3 : wr.cell? ⟨gb464, 3, none⟩ = some (.int .i64 x465003_1) := (blk_cell BK464.out 3).trans rfl
        have hcz21_4 : wr.cell? ⟨gb464, 4, none⟩ = some (.int .i64 x465004_1) := (blk_cell BK464.out 4).trans rfl
        have hfz21_0 := blk_frozen BK464.out 0
        have hfz21_1 := blk_frozen BK464.out 1
        have hfz21_2 := blk_frozen BK464.out 2
        have hfz21_3 := blk_frozen BK464.out 3
        have hfz21_4 := blk_frozen BK464.out 4
        go_wp2
        refine bodyPost_ret (results_ct rfl _ _ gb464 39 #[.int .i64 0, .int .i64 0, .int .i64 0, .int .i64 0, .int .i64 0] (0, 0) _ rfl (by (with_reducible repeat (first | refine blk_drewN ?_ _ | refine blk_drew ?_ | refine blk_alloc ?_ _)); refine blk_put (cs := #[.int .i64 0, .int .i64 0, .int .i64 0, .int .i64 0, .int .i64 x465004_1]) ?_ 4 _ rfl; (with_reducible repeat (first | refine blk_drewN ?_ _ | refine blk_drew ?_ | refine blk_alloc ?_ _)); refine blk_put (cs := #[.int .i64 0, .int .i64 0, .int .i64 0, .int .i64 x465003_1, .int .i64 x465004_1]) ?_ 3 _ rfl; (with_reducible repeat (first | refine blk_drewN ?_ _ | refine blk_drew ?_ | refine blk_alloc ?_ _)); refine blk_put (cs := #[.int .i64 0, .int .i64 0, .int .i64 x465002_1, .int .i64 x465003_1, .int .i64 x465004_1]) ?_ 2 _ rfl; (with_reducible repeat (first | refine blk_drewN ?_ _ | refine blk_drew ?_ | refine blk_alloc ?_ _)); refine blk_put (cs := #[.int .i64 0, .int .i64 x465001_1, .int .i64 x465002_1, .int .i64 x465003_1, .int .i64 x465004_1]) ?_ 1 _ rfl; (with_reducible repeat (first | refine blk_drewN ?_ _ | refine blk_drew ?_ | refine blk_alloc ?_ _)); refine blk_put (cs := #[.int .i64 x465000_1, .int .i64 x465001_1, .int .i64 x465002_1, .int .i64 x465003_1, .int .i64 x465004_1]) ?_ 0 _ rfl; (with_reducible repeat (first | refine blk_drewN ?_ _ | refine blk_drew ?_ | refine blk_alloc ?_ _)); exact BK464.out) Try.underlying39 rfl (by kernel_rfl)) rfl ?_
        exact ⟨by first | rfl | (simp [errW_none, errW_some] <;> rfl) | (simp [*, errW_none, errW_some] <;> rfl), by repeat (first | (with_reducible first | exact HB.out | apply below_alloc | apply pw_below_drewN | apply below_drew1 | refine below_set ?_ GE463.out | refine below_set ?_ GE464.out) | exact HB.out)⟩
def fareboxref05_Right.f (a0 : Int) : Option (Bool) := if a0 ≥ (-9007199254740992) then (some (decide (a0 ≤ 9007199254740992))) else (some false)
set_option maxHeartbeats 8000000 in
set_option maxRecDepth 100000 in
theorem fareboxref05_Right.calls (a0 : Int) (r : Bool) (w : World) (h : fareboxref05_Right.f a0 = some r) :
    Calls Try.prog 136 #[.int .i64 a0] w fun e w' => e = .returned (.bool r) ∧ Drawn0 w w' := by
  have H : (if a0 ≥ (-9007199254740992) then (some (decide (a0 ≤ 9007199254740992))) else (some false)) = some r := h
  clear h
  by_cases c2 : a0 ≥ (-9007199254740992)
  · rw [if_pos c2] at H
    have c2b0 : decide ((-9007199254740992) ≤ a0) = true := decide_eq_true c2
    clear c2
    obtain rfl := Option.some.inj H
    go_enter Try.func136, Try.ntmps136
    go_wp2
    go_ret
    exact ⟨by first | rfl | (simp; done) | (simp [*]; done), by repeat (first | exact Drawn0.refl _ | apply Drawn0.step)⟩
  · rw [if_neg c2] at H
    have c2b0 : decide ((-9007199254740992) ≤ a0) = false := decide_eq_false c2
    clear c2
    obtain rfl := Option.some.inj H
    go_enter Try.func136, Try.ntmps136
    go_wp2
    go_ret
    exact ⟨by first | rfl | (simp; done) | (simp [*]; done), by repeat (first | exact Drawn0.refl _ | apply Drawn0.step)⟩
mutual
def fareboxref05_Scale.j0 : Nat → Int → Nat → Bool → Option (Int × Int)
  | 0, _, _, _ => none
  | k + 1, x0, x1, x26 => if x26 = true then (some (0, 50)) else ((fareboxref05_Rate.f x1).bind fun t469 => (if t469 = true then ((fareboxref05_parts.f x1).bind fun bt470 => ((some (([Int.tmod (IntKind.u64.wrap ((Int.tmod (IntKind.u64.wrap (x0)) 4294967296) * (Int.tmod bt470.2.1 4294967296))) 4294967296, Int.tmod (IntKind.u64.wrap ((IntKind.u64.wrap ((IntKind.u64.wrap ((IntKind.u64.wrap (Int.tdiv (IntKind.u64.wrap (x0)) 4294967296)) * (Int.tmod bt470.2.1 4294967296))) + (IntKind.u64.wrap ((IntKind.u64.wrap (Int.tdiv bt470.2.1 4294967296)) * (Int.tmod (IntKind.u64.wrap (x0)) 4294967296))))) + (IntKind.u64.wrap (Int.tdiv (IntKind.u64.wrap ((Int.tmod (IntKind.u64.wrap (x0)) 4294967296) * (Int.tmod bt470.2.1 4294967296))) 4294967296)))) 4294967296, IntKind.u64.wrap ((IntKind.u64.wrap ((IntKind.u64.wrap (Int.tdiv (IntKind.u64.wrap (x0)) 4294967296)) * (IntKind.u64.wrap (Int.tdiv bt470.2.1 4294967296)))) + (IntKind.u64.wrap (Int.tdiv (IntKind.u64.wrap ((IntKind.u64.wrap ((IntKind.u64.wrap ((IntKind.u64.wrap (Int.tdiv (IntKind.u64.wrap (x0)) 4294967296)) * (Int.tmod bt470.2.1 4294967296))) + (IntKind.u64.wrap ((IntKind.u64.wrap (Int.tdiv bt470.2.1 4294967296)) * (Int.tmod (IntKind.u64.wrap (x0)) 4294967296))))) + (IntKind.u64.wrap (Int.tdiv (IntKind.u64.wrap ((Int.tmod (IntKind.u64.wrap (x0)) 4294967296) * (Int.tmod bt470.2.1 4294967296))) 4294967296)))) 4294967296))), 0] : List Int) : List Int)).bind fun y474 => (if 2 < (y474.length : Int) then (if 3 < (y474.length : Int) then ((some (y474.set (3 : Int).toNat (IntKind.u64.wrap (Int.tdiv (rd y474 2) 4294967296)) : List Int)).bind fun y478 => (fareboxref05_Scale.l0 k bt470.2.2.1 (y478.set (2 : Int).toNat (Int.tmod (rd y478 2) 4294967296)) 0)) else (none)) else (none)))) else (some (0, 51))))
def fareboxref05_Scale.l0 : Nat → Int → List Int → Int → Option (Int × Int)
  | 0, _, _, _ => none
  | k + 1, x10, x15, x16 => if x10 < 0 then (if 0 < (x15.length : Int) then (fareboxref05_Scale.l1 k x10 x15 (Int.tmod (rd x15 0) 2) 0) else (none)) else (if 1 < (x15.length : Int) then (if 0 < (x15.length : Int) then (some (wrap64 (IntKind.u64.wrap ((IntKind.u64.wrap ((IntKind.u64.wrap ((rd x15 1) * 4294967296)) + (rd x15 0))) + x16)), 0)) else (none)) else (none))
def fareboxref05_Scale.l1 : Nat → Int → List Int → Int → Int → Option (Int × Int)
  | 0, _, _, _, _ => none
  | k + 1, x10, x15, x16, x17 => if x17 < 4 then (if x17 < 3 then (if 0 ≤ (wrap64 (x17 + 1)) then (if (wrap64 (x17 + 1)) < (x15.length : Int) then (if 0 ≤ x17 then (if x17 < (x15.length : Int) then (fareboxref05_Scale.l1 k x10 (x15.set (x17 : Int).toNat (IntKind.u64.wrap ((IntKind.u64.wrap (Int.tdiv (rd x15 x17) 2)) + (IntKind.u64.wrap ((Int.tmod (rd x15 (wrap64 (x17 + 1))) 2) * 2147483648))))) x16 (wrap64 (x17 + 1))) else (none)) else (none)) else (none)) else (none)) else (if 0 ≤ x17 then (if x17 < (x15.length : Int) then (fareboxref05_Scale.l1 k x10 (x15.set (x17 : Int).toNat (IntKind.u64.wrap ((IntKind.u64.wrap (Int.tdiv (rd x15 x17) 2)) + (0 * 2147483648)))) x16 (wrap64 (x17 + 1))) else (none)) else (none))) else (fareboxref05_Scale.l0 k (wrap64 (x10 + 1)) x15 x16)
end
def fareboxref05_Scale.f (k : Nat) (a0 : Int) (a1 : Nat) : Option (Int × Int) := (fareboxref05_Right.f a0).bind fun t468 => (if t468 = true then (fareboxref05_Scale.j0 k a0 a1 (decide (a0 < 0))) else (fareboxref05_Scale.j0 k a0 a1 true))
set_option maxHeartbeats 8000000 in
set_option maxRecDepth 100000 in
theorem fareboxref05_Scale.calls (k : Nat) (a0 : Int) (a1 : Nat) (r1 : Int) (r2 : Int) (w : World) (h : fareboxref05_Scale.f k a0 a1 = some (r1, r2)) :
    Calls Try.prog 91 #[.int .i64 a0, .float .f64 a1] w fun e w' => e = .returned (.tuple #[.int .i64 r1, .int .i64 r2]) ∧ Below w.heap.size w w' := by
  have HB := Aside0.mk (Below.refl w.heap.size w)
  have H : ((fareboxref05_Right.f a0).bind fun t468 => (if t468 = true then (fareboxref05_Scale.j0 k a0 a1 (decide (a0 < 0))) else (fareboxref05_Scale.j0 k a0 a1 true))) = some (r1, r2) := h
  clear h
  replace H := Option.bind_eq_some_iff.mp H
  obtain ⟨t468, A30, H⟩ := H
  replace H : (if t468 = true then (fareboxref05_Scale.j0 k a0 a1 (decide (a0 < 0))) else (fareboxref05_Scale.j0 k a0 a1 true)) = some (r1, r2) := H
  have A3 := Aside0.mk A30
  clear A30
  have HC4 := Aside0.mk H
  clear H
  go_enter Try.func91, Try.ntmps91
  go_upto_region 2 with (first | (go_at_call 136; (with_reducible refine (fareboxref05_Right.calls a0 t468 _ A3.out).mono ?_); rintro e w' ⟨rfl, ⟨nd, rfl⟩⟩; (try first | exact ⟨rfl, _, World.drewN_drewN _ _ _⟩ | exact ⟨rfl, _, Eq.trans (World.drewN_drewN _ _ _) (congrArg (World.drewN _) (Nat.add_assoc _ _ _))⟩)))
  repeat (go_quiet (first | (go_at_call 136; (with_reducible refine (fareboxref05_Right.calls a0 t468 _ A3.out).mono ?_); rintro e w' ⟨rfl, ⟨nd, rfl⟩⟩; (try first | exact ⟨rfl, _, World.drewN_drewN _ _ _⟩ | exact ⟨rfl, _, Eq.trans (World.drewN_drewN _ _ _) (congrArg (World.drewN _) (Nat.add_assoc _ _ _))⟩))); go_upto_region 2 with (first | (go_at_call 136; (with_reducible refine (fareboxref05_Right.calls a0 t468 _ A3.out).mono ?_); rintro e w' ⟨rfl, ⟨nd, rfl⟩⟩; (try first | exact ⟨rfl, _, World.drewN_drewN _ _ _⟩ | exact ⟨rfl, _, Eq.trans (World.drewN_drewN _ _ _) (congrArg (World.drewN _) (Nat.add_assoc _ _ _))⟩))))
  (try simp only [Act.put, List.setIfInBounds_toArray, List.set_cons_zero, List.set_cons_succ])
  go_cut [26] (fun v26 wc => ∃ (kq : Nat) (x26_3 : Bool), v26 = .bool x26_3 ∧ Aside0 (fareboxref05_Scale.j0 kq a0 a1 x26_3 = some (r1, r2)) ∧ Aside0 (kq ≤ k) ∧ Aside0 (Below w.heap.size w wc))
  case first =>
    have H := HC4.out
    clear HC4
    by_cases c5 : t468 = true
    · subst c5
      have H1 : (fareboxref05_Scale.j0 k a0 a1 (decide (a0 < 0))) = some (r1, r2) := by rw [if_pos rfl] at H; exact H
      clear H
      have H := H1
      clear H1
      have H' := Aside0.mk H
      clear H
      go_wp2
      repeat (go_quiet (fail); try go_wp2)
      go_meet
      case rel => exact ⟨_, (decide (a0 < 0)), (by first | rfl | (simp; done) | (simp [*]; done)), H', ⟨by first | omega | exact Nat.le_refl _⟩, ⟨by repeat (first | (with_reducible first | exact HB.out | apply below_alloc | apply pw_below_drewN | apply below_drew1) | exact HB.out)⟩⟩
    · replace c5 := Bool.eq_false_iff.mpr c5
      subst c5
      have H1 : (fareboxref05_Scale.j0 k a0 a1 true) = some (r1, r2) := by rw [if_neg (show ¬ (false = true) by decide)] at H; exact H
      clear H
      have H := H1
      clear H1
      have H' := Aside0.mk H
      clear H
      go_wp2
      repeat (go_quiet (fail); try go_wp2)
      go_meet
      case rel => exact ⟨_, (true), (by first | rfl | (simp; done) | (simp [*]; done)), H', ⟨by first | omega | exact Nat.le_refl _⟩, ⟨by repeat (first | (with_reducible first | exact HB.out | apply below_alloc | apply pw_below_drewN | apply below_drew1) | exact HB.out)⟩⟩
  case rest =>
    clear HC4
    try clear p2
    try clear c5
    obtain ⟨kq, x26_3, rfl, HA, HJ3, HB⟩ := hcut
    cases kq with
    | zero => exact absurd HA.out (by simp [fareboxref05_Scale.j0])
    | succ kj3 =>
      have H := HA.out
      clear HA
      simp only [fareboxref05_Scale.j0] at H
      by_cases c6 : x26_3 = true
      · subst c6
        have H1 : (some (0, 50)) = some (r1, r2) := by rw [if_pos rfl] at H; exact H
        clear H
        have H := H1
        clear H1
        simp only [Option.some.injEq, Prod.mk.injEq] at H
        obtain ⟨rfl, rfl⟩ := H
        go_wp2
        repeat (go_quiet (fail); try go_wp2)
        go_ret2
        exact ⟨by first | rfl | (simp [errW_none, errW_some] <;> rfl) | (simp [*, errW_none, errW_some] <;> rfl), by repeat (first | (with_reducible first | exact HB.out | apply below_alloc | apply pw_below_drewN | apply below_drew1) | exact HB.out)⟩
      · replace c6 := Bool.eq_false_iff.mpr c6
        subst c6
        have H1 : ((fareboxref05_Rate.f a1).bind fun t469 => (if t469 = true then ((fareboxref05_parts.f a1).bind fun bt470 => ((some (([Int.tmod (IntKind.u64.wrap ((Int.tmod (IntKind.u64.wrap (a0)) 4294967296) * (Int.tmod bt470.2.1 4294967296))) 4294967296, Int.tmod (IntKind.u64.wrap ((IntKind.u64.wrap ((IntKind.u64.wrap ((IntKind.u64.wrap (Int.tdiv (IntKind.u64.wrap (a0)) 4294967296)) * (Int.tmod bt470.2.1 4294967296))) + (IntKind.u64.wrap ((IntKind.u64.wrap (Int.tdiv bt470.2.1 4294967296)) * (Int.tmod (IntKind.u64.wrap (a0)) 4294967296))))) + (IntKind.u64.wrap (Int.tdiv (IntKind.u64.wrap ((Int.tmod (IntKind.u64.wrap (a0)) 4294967296) * (Int.tmod bt470.2.1 4294967296))) 4294967296)))) 4294967296, IntKind.u64.wrap ((IntKind.u64.wrap ((IntKind.u64.wrap (Int.tdiv (IntKind.u64.wrap (a0)) 4294967296)) * (IntKind.u64.wrap (Int.tdiv bt470.2.1 4294967296)))) + (IntKind.u64.wrap (Int.tdiv (IntKind.u64.wrap ((IntKind.u64.wrap ((IntKind.u64.wrap ((IntKind.u64.wrap (Int.tdiv (IntKind.u64.wrap (a0)) 4294967296)) * (Int.tmod bt470.2.1 4294967296))) + (IntKind.u64.wrap ((IntKind.u64.wrap (Int.tdiv bt470.2.1 4294967296)) * (Int.tmod (IntKind.u64.wrap (a0)) 4294967296))))) + (IntKind.u64.wrap (Int.tdiv (IntKind.u64.wrap ((Int.tmod (IntKind.u64.wrap (a0)) 4294967296) * (Int.tmod bt470.2.1 4294967296))) 4294967296)))) 4294967296))), 0] : List Int) : List Int)).bind fun y474 => (if 2 < (y474.length : Int) then (if 3 < (y474.length : Int) then ((some (y474.set (3 : Int).toNat (IntKind.u64.wrap (Int.tdiv (rd y474 2) 4294967296)) : List Int)).bind fun y478 => (fareboxref05_Scale.l0 kj3 bt470.2.2.1 (y478.set (2 : Int).toNat (Int.tmod (rd y478 2) 4294967296)) 0)) else (none)) else (none)))) else (some (0, 51)))) = some (r1, r2) := by rw [if_neg (show ¬ (false = true) by decide)] at H; exact H
        clear H
        have H := H1
        clear H1
        replace H := Option.bind_eq_some_iff.mp H
        obtain ⟨t469, A70, H⟩ := H
        replace H : (if t469 = true then ((fareboxref05_parts.f a1).bind fun bt470 => ((some (([Int.tmod (IntKind.u64.wrap ((Int.tmod (IntKind.u64.wrap (a0)) 4294967296) * (Int.tmod bt470.2.1 4294967296))) 4294967296, Int.tmod (IntKind.u64.wrap ((IntKind.u64.wrap ((IntKind.u64.wrap ((IntKind.u64.wrap (Int.tdiv (IntKind.u64.wrap (a0)) 4294967296)) * (Int.tmod bt470.2.1 4294967296))) + (IntKind.u64.wrap ((IntKind.u64.wrap (Int.tdiv bt470.2.1 4294967296)) * (Int.tmod (IntKind.u64.wrap (a0)) 4294967296))))) + (IntKind.u64.wrap (Int.tdiv (IntKind.u64.wrap ((Int.tmod (IntKind.u64.wrap (a0)) 4294967296) * (Int.tmod bt470.2.1 4294967296))) 4294967296)))) 4294967296, IntKind.u64.wrap ((IntKind.u64.wrap ((IntKind.u64.wrap (Int.tdiv (IntKind.u64.wrap (a0)) 4294967296)) * (IntKind.u64.wrap (Int.tdiv bt470.2.1 4294967296)))) + (IntKind.u64.wrap (Int.tdiv (IntKind.u64.wrap ((IntKind.u64.wrap ((IntKind.u64.wrap ((IntKind.u64.wrap (Int.tdiv (IntKind.u64.wrap (a0)) 4294967296)) * (Int.tmod bt470.2.1 4294967296))) + (IntKind.u64.wrap ((IntKind.u64.wrap (Int.tdiv bt470.2.1 4294967296)) * (Int.tmod (IntKind.u64.wrap (a0)) 4294967296))))) + (IntKind.u64.wrap (Int.tdiv (IntKind.u64.wrap ((Int.tmod (IntKind.u64.wrap (a0)) 4294967296) * (Int.tmod bt470.2.1 4294967296))) 4294967296)))) 4294967296))), 0] : List Int) : List Int)).bind fun y474 => (if 2 < (y474.length : Int) then (if 3 < (y474.length : Int) then ((some (y474.set (3 : Int).toNat (IntKind.u64.wrap (Int.tdiv (rd y474 2) 4294967296)) : List Int)).bind fun y478 => (fareboxref05_Scale.l0 kj3 bt470.2.2.1 (y478.set (2 : Int).toNat (Int.tmod (rd y478 2) 4294967296)) 0)) else (none)) else (none)))) else (some (0, 51))) = some (r1, r2) := H
        have A7 := Aside0.mk A70
        clear A70
        by_cases c8 : t469 = true
        · subst c8
          have H1 : ((fareboxref05_parts.f a1).bind fun bt470 => ((some (([Int.tmod (IntKind.u64.wrap ((Int.tmod (IntKind.u64.wrap (a0)) 4294967296) * (Int.tmod bt470.2.1 4294967296))) 4294967296, Int.tmod (IntKind.u64.wrap ((IntKind.u64.wrap ((IntKind.u64.wrap ((IntKind.u64.wrap (Int.tdiv (IntKind.u64.wrap (a0)) 4294967296)) * (Int.tmod bt470.2.1 4294967296))) + (IntKind.u64.wrap ((IntKind.u64.wrap (Int.tdiv bt470.2.1 4294967296)) * (Int.tmod (IntKind.u64.wrap (a0)) 4294967296))))) + (IntKind.u64.wrap (Int.tdiv (IntKind.u64.wrap ((Int.tmod (IntKind.u64.wrap (a0)) 4294967296) * (Int.tmod bt470.2.1 4294967296))) 4294967296)))) 4294967296, IntKind.u64.wrap ((IntKind.u64.wrap ((IntKind.u64.wrap (Int.tdiv (IntKind.u64.wrap (a0)) 4294967296)) * (IntKind.u64.wrap (Int.tdiv bt470.2.1 4294967296)))) + (IntKind.u64.wrap (Int.tdiv (IntKind.u64.wrap ((IntKind.u64.wrap ((IntKind.u64.wrap ((IntKind.u64.wrap (Int.tdiv (IntKind.u64.wrap (a0)) 4294967296)) * (Int.tmod bt470.2.1 4294967296))) + (IntKind.u64.wrap ((IntKind.u64.wrap (Int.tdiv bt470.2.1 4294967296)) * (Int.tmod (IntKind.u64.wrap (a0)) 4294967296))))) + (IntKind.u64.wrap (Int.tdiv (IntKind.u64.wrap ((Int.tmod (IntKind.u64.wrap (a0)) 4294967296) * (Int.tmod bt470.2.1 4294967296))) 4294967296)))) 4294967296))), 0] : List Int) : List Int)).bind fun y474 => (if 2 < (y474.length : Int) then (if 3 < (y474.length : Int) then ((some (y474.set (3 : Int).toNat (IntKind.u64.wrap (Int.tdiv (rd y474 2) 4294967296)) : List Int)).bind fun y478 => (fareboxref05_Scale.l0 kj3 bt470.2.2.1 (y478.set (2 : Int).toNat (Int.tmod (rd y478 2) 4294967296)) 0)) else (none)) else (none)))) = some (r1, r2) := by rw [if_pos rfl] at H; exact H
          clear H
          have H := H1
          clear H1
          replace H := Option.bind_eq_some_iff.mp H
          obtain ⟨⟨t470, t471, t472, t473⟩, A90, H⟩ := H
          replace H : ((some (([Int.tmod (IntKind.u64.wrap ((Int.tmod (IntKind.u64.wrap (a0)) 4294967296) * (Int.tmod t471 4294967296))) 4294967296, Int.tmod (IntKind.u64.wrap ((IntKind.u64.wrap ((IntKind.u64.wrap ((IntKind.u64.wrap (Int.tdiv (IntKind.u64.wrap (a0)) 4294967296)) * (Int.tmod t471 4294967296))) + (IntKind.u64.wrap ((IntKind.u64.wrap (Int.tdiv t471 4294967296)) * (Int.tmod (IntKind.u64.wrap (a0)) 4294967296))))) + (IntKind.u64.wrap (Int.tdiv (IntKind.u64.wrap ((Int.tmod (IntKind.u64.wrap (a0)) 4294967296) * (Int.tmod t471 4294967296))) 4294967296)))) 4294967296, IntKind.u64.wrap ((IntKind.u64.wrap ((IntKind.u64.wrap (Int.tdiv (IntKind.u64.wrap (a0)) 4294967296)) * (IntKind.u64.wrap (Int.tdiv t471 4294967296)))) + (IntKind.u64.wrap (Int.tdiv (IntKind.u64.wrap ((IntKind.u64.wrap ((IntKind.u64.wrap ((IntKind.u64.wrap (Int.tdiv (IntKind.u64.wrap (a0)) 4294967296)) * (Int.tmod t471 4294967296))) + (IntKind.u64.wrap ((IntKind.u64.wrap (Int.tdiv t471 4294967296)) * (Int.tmod (IntKind.u64.wrap (a0)) 4294967296))))) + (IntKind.u64.wrap (Int.tdiv (IntKind.u64.wrap ((Int.tmod (IntKind.u64.wrap (a0)) 4294967296) * (Int.tmod t471 4294967296))) 4294967296)))) 4294967296))), 0] : List Int) : List Int)).bind fun y474 => (if 2 < (y474.length : Int) then (if 3 < (y474.length : Int) then ((some (y474.set (3 : Int).toNat (IntKind.u64.wrap (Int.tdiv (rd y474 2) 4294967296)) : List Int)).bind fun y478 => (fareboxref05_Scale.l0 kj3 t472 (y478.set (2 : Int).toNat (Int.tmod (rd y478 2) 4294967296)) 0)) else (none)) else (none))) = some (r1, r2) := H
          have A9 := Aside0.mk A90
          clear A90
          obtain ⟨y474, hy474⟩ : ∃ y_ : List Int, y_ = (([Int.tmod (IntKind.u64.wrap ((Int.tmod (IntKind.u64.wrap (a0)) 4294967296) * (Int.tmod t471 4294967296))) 4294967296, Int.tmod (IntKind.u64.wrap ((IntKind.u64.wrap ((IntKind.u64.wrap ((IntKind.u64.wrap (Int.tdiv (IntKind.u64.wrap (a0)) 4294967296)) * (Int.tmod t471 4294967296))) + (IntKind.u64.wrap ((IntKind.u64.wrap (Int.tdiv t471 4294967296)) * (Int.tmod (IntKind.u64.wrap (a0)) 4294967296))))) + (IntKind.u64.wrap (Int.tdiv (IntKind.u64.wrap ((Int.tmod (IntKind.u64.wrap (a0)) 4294967296) * (Int.tmod t471 4294967296))) 4294967296)))) 4294967296, IntKind.u64.wrap ((IntKind.u64.wrap ((IntKind.u64.wrap (Int.tdiv (IntKind.u64.wrap (a0)) 4294967296)) * (IntKind.u64.wrap (Int.tdiv t471 4294967296)))) + (IntKind.u64.wrap (Int.tdiv (IntKind.u64.wrap ((IntKind.u64.wrap ((IntKind.u64.wrap ((IntKind.u64.wrap (Int.tdiv (IntKind.u64.wrap (a0)) 4294967296)) * (Int.tmod t471 4294967296))) + (IntKind.u64.wrap ((IntKind.u64.wrap (Int.tdiv t471 4294967296)) * (Int.tmod (IntKind.u64.wrap (a0)) 4294967296))))) + (IntKind.u64.wrap (Int.tdiv (IntKind.u64.wrap ((Int.tmod (IntKind.u64.wrap (a0)) 4294967296) * (Int.tmod t471 4294967296))) 4294967296)))) 4294967296))), 0] : List Int)) := ⟨_, rfl⟩
          replace H : (if 2 < (y474.length : Int) then (if 3 < (y474.length : Int) then ((some (y474.set (3 : Int).toNat (IntKind.u64.wrap (Int.tdiv (rd y474 2) 4294967296)) : List Int)).bind fun y478 => (fareboxref05_Scale.l0 kj3 t472 (y478.set (2 : Int).toNat (Int.tmod (rd y478 2) 4294967296)) 0)) else (none)) else (none)) = some (r1, r2) := by first | (rw [hy474]; with_reducible exact H) | (have H2_ := (Option.bind_some _ _).symm.trans H; rw [hy474]; with_reducible exact H2_) | (have H2_ := (Option.bind_some _ _).symm.trans H; with_reducible exact H2_) | with_reducible exact H | (rw [hy474]; exact H) | exact H
          have Ny474 := Aside0.mk hy474
          clear hy474
          by_cases c10 : 2 < (y474.length : Int)
          · rw [if_pos c10] at H
            have c10b0 : decide (2 < (y474.length : Int)) = true := decide_eq_true c10
            have c10b1 : decide (2 < y474.length) = true := decide_eq_true (by omega)
            clear c10
            by_cases c11 : 3 < (y474.length : Int)
            · rw [if_pos c11] at H
              have c11b0 : decide (3 < (y474.length : Int)) = true := decide_eq_true c11
              have c11b1 : decide (3 < y474.length) = true := decide_eq_true (by omega)
              clear c11
              obtain ⟨y478, hy478⟩ : ∃ y_ : List Int, y_ = (y474.set (3 : Int).toNat (IntKind.u64.wrap (Int.tdiv (rd y474 2) 4294967296))) := ⟨_, rfl⟩
              replace H : (fareboxref05_Scale.l0 kj3 t472 (y478.set (2 : Int).toNat (Int.tmod (rd y478 2) 4294967296)) 0) = some (r1, r2) := by first | (rw [hy478]; with_reducible exact H) | (have H2_ := (Option.bind_some _ _).symm.trans H; rw [hy478]; with_reducible exact H2_) | (have H2_ := (Option.bind_some _ _).symm.trans H; with_reducible exact H2_) | with_reducible exact H | (rw [hy478]; exact H) | exact H
              have Ny478 := Aside0.mk hy478
              clear hy478
              obtain ⟨y480, hy480⟩ : ∃ y_ : List Int, y_ = (y478.set (2 : Int).toNat (Int.tmod (rd y478 2) 4294967296)) := ⟨_, rfl⟩
              replace H : (fareboxref05_Scale.l0 kj3 t472 y480 0) = some (r1, r2) := by first | (rw [hy480]; with_reducible exact H) | (have H2_ := (Option.bind_some _ _).symm.trans H; rw [hy480]; with_reducible exact H2_) | (have H2_ := (Option.bind_some _ _).symm.trans H; with_reducible exact H2_) | with_reducible exact H | (rw [hy480]; exact H) | exact H
              have Ny480 := Aside0.mk hy480
              clear hy480
              have H' := Aside0.mk H
              clear H
              go_wp2_with (first | (go_at_call 83; (with_reducible refine (fareboxref05_Rate.calls a1 true _ A7.out).mono ?_); rintro e w' ⟨rfl, ⟨nd, rfl⟩⟩; (try first | exact ⟨rfl, _, World.drewN_drewN _ _ _⟩ | exact ⟨rfl, _, Eq.trans (World.drewN_drewN _ _ _) (congrArg (World.drewN _) (Nat.add_assoc _ _ _))⟩)) | (go_at_call 132; (with_reducible refine (fareboxref05_parts.calls a1 t470 t471 t472 t473 _ A9.out).mono ?_); rintro e w' ⟨rfl, ⟨nd, rfl⟩⟩; (try first | exact ⟨rfl, _, World.drewN_drewN _ _ _⟩ | exact ⟨rfl, _, Eq.trans (World.drewN_drewN _ _ _) (congrArg (World.drewN _) (Nat.add_assoc _ _ _))⟩)) | ((with_reducible refine gate_dst (N := 71) rfl ?_); refine Kd.R_lit (Kd.int .u64) _ 162 ?hg (N := 71) ?hd (xs := ([Int.tmod (IntKind.u64.wrap ((Int.tmod (IntKind.u64.wrap (a0)) 4294967296) * (Int.tmod t471 4294967296))) 4294967296, Int.tmod (IntKind.u64.wrap ((IntKind.u64.wrap ((IntKind.u64.wrap ((IntKind.u64.wrap (Int.tdiv (IntKind.u64.wrap (a0)) 4294967296)) * (Int.tmod t471 4294967296))) + (IntKind.u64.wrap ((IntKind.u64.wrap (Int.tdiv t471 4294967296)) * (Int.tmod (IntKind.u64.wrap (a0)) 4294967296))))) + (IntKind.u64.wrap (Int.tdiv (IntKind.u64.wrap ((Int.tmod (IntKind.u64.wrap (a0)) 4294967296) * (Int.tmod t471 4294967296))) 4294967296)))) 4294967296, IntKind.u64.wrap ((IntKind.u64.wrap ((IntKind.u64.wrap (Int.tdiv (IntKind.u64.wrap (a0)) 4294967296)) * (IntKind.u64.wrap (Int.tdiv t471 4294967296)))) + (IntKind.u64.wrap (Int.tdiv (IntKind.u64.wrap ((IntKind.u64.wrap ((IntKind.u64.wrap ((IntKind.u64.wrap (Int.tdiv (IntKind.u64.wrap (a0)) 4294967296)) * (Int.tmod t471 4294967296))) + (IntKind.u64.wrap ((IntKind.u64.wrap (Int.tdiv t471 4294967296)) * (Int.tmod (IntKind.u64.wrap (a0)) 4294967296))))) + (IntKind.u64.wrap (Int.tdiv (IntKind.u64.wrap ((Int.tmod (IntKind.u64.wrap (a0)) 4294967296) * (Int.tmod t471 4294967296))) 4294967296)))) 4294967296))), 0] : List Int)) (inner := [.int .u64 (Int.tmod (IntKind.u64.wrap ((Int.tmod (IntKind.u64.wrap (a0)) 4294967296) * (Int.tmod t471 4294967296))) 4294967296), .int .u64 (Int.tmod (IntKind.u64.wrap ((IntKind.u64.wrap ((IntKind.u64.wrap ((IntKind.u64.wrap (Int.tdiv (IntKind.u64.wrap (a0)) 4294967296)) * (Int.tmod t471 4294967296))) + (IntKind.u64.wrap ((IntKind.u64.wrap (Int.tdiv t471 4294967296)) * (Int.tmod (IntKind.u64.wrap (a0)) 4294967296))))) + (IntKind.u64.wrap (Int.tdiv (IntKind.u64.wrap ((Int.tmod (IntKind.u64.wrap (a0)) 4294967296) * (Int.tmod t471 4294967296))) 4294967296)))) 4294967296), .int .u64 (IntKind.u64.wrap ((IntKind.u64.wrap ((IntKind.u64.wrap (Int.tdiv (IntKind.u64.wrap (a0)) 4294967296)) * (IntKind.u64.wrap (Int.tdiv t471 4294967296)))) + (IntKind.u64.wrap (Int.tdiv (IntKind.u64.wrap ((IntKind.u64.wrap ((IntKind.u64.wrap ((IntKind.u64.wrap (Int.tdiv (IntKind.u64.wrap (a0)) 4294967296)) * (Int.tmod t471 4294967296))) + (IntKind.u64.wrap ((IntKind.u64.wrap (Int.tdiv t471 4294967296)) * (Int.tmod (IntKind.u64.wrap (a0)) 4294967296))))) + (IntKind.u64.wrap (Int.tdiv (IntKind.u64.wrap ((Int.tmod (IntKind.u64.wrap (a0)) 4294967296) * (Int.tmod t471 4294967296))) 4294967296)))) 4294967296)))), .int .u64 0]) (ok := fun _ => True) (okp := fun _ => True) ?hr ?hp (fun _ hk => hk) trivial (Below.refl _ _) (Nat.le_refl _) (by simp) ?_; (case hd => rfl); (case hg => rfl); (case hr => first | (go_simp; done) | (go_simp; rfl)); (case hp => exact (Reps.one (show Kd.M (Kd.int .u64) _ _ _ (Int.tmod (IntKind.u64.wrap ((Int.tmod (IntKind.u64.wrap (a0)) 4294967296) * (Int.tmod t471 4294967296))) 4294967296) [.int .u64 (Int.tmod (IntKind.u64.wrap ((Int.tmod (IntKind.u64.wrap (a0)) 4294967296) * (Int.tmod t471 4294967296))) 4294967296)] from rfl) (Reps.one (show Kd.M (Kd.int .u64) _ _ _ (Int.tmod (IntKind.u64.wrap ((IntKind.u64.wrap ((IntKind.u64.wrap ((IntKind.u64.wrap (Int.tdiv (IntKind.u64.wrap (a0)) 4294967296)) * (Int.tmod t471 4294967296))) + (IntKind.u64.wrap ((IntKind.u64.wrap (Int.tdiv t471 4294967296)) * (Int.tmod (IntKind.u64.wrap (a0)) 4294967296))))) + (IntKind.u64.wrap (Int.tdiv (IntKind.u64.wrap ((Int.tmod (IntKind.u64.wrap (a0)) 4294967296) * (Int.tmod t471 4294967296))) 4294967296)))) 4294967296) [.int .u64 (Int.tmod (IntKind.u64.wrap ((IntKind.u64.wrap ((IntKind.u64.wrap ((IntKind.u64.wrap (Int.tdiv (IntKind.u64.wrap (a0)) 4294967296)) * (Int.tmod t471 4294967296))) + (IntKind.u64.wrap ((IntKind.u64.wrap (Int.tdiv t471 4294967296)) * (Int.tmod (IntKind.u64.wrap (a0)) 4294967296))))) + (IntKind.u64.wrap (Int.tdiv (IntKind.u64.wrap ((Int.tmod (IntKind.u64.wrap (a0)) 4294967296) * (Int.tmod t471 4294967296))) 4294967296)))) 4294967296)] from rfl) (Reps.one (show Kd.M (Kd.int .u64) _ _ _ (IntKind.u64.wrap ((IntKind.u64.wrap ((IntKind.u64.wrap (Int.tdiv (IntKind.u64.wrap (a0)) 4294967296)) * (IntKind.u64.wrap (Int.tdiv t471 4294967296)))) + (IntKind.u64.wrap (Int.tdiv (IntKind.u64.wrap ((IntKind.u64.wrap ((IntKind.u64.wrap ((IntKind.u64.wrap (Int.tdiv (IntKind.u64.wrap (a0)) 4294967296)) * (Int.tmod t471 4294967296))) + (IntKind.u64.wrap ((IntKind.u64.wrap (Int.tdiv t471 4294967296)) * (Int.tmod (IntKind.u64.wrap (a0)) 4294967296))))) + (IntKind.u64.wrap (Int.tdiv (IntKind.u64.wrap ((Int.tmod (IntKind.u64.wrap (a0)) 4294967296) * (Int.tmod t471 4294967296))) 4294967296)))) 4294967296)))) [.int .u64 (IntKind.u64.wrap ((IntKind.u64.wrap ((IntKind.u64.wrap (Int.tdiv (IntKind.u64.wrap (a0)) 4294967296)) * (IntKind.u64.wrap (Int.tdiv t471 4294967296)))) + (IntKind.u64.wrap (Int.tdiv (IntKind.u64.wrap ((IntKind.u64.wrap ((IntKind.u64.wrap ((IntKind.u64.wrap (Int.tdiv (IntKind.u64.wrap (a0)) 4294967296)) * (Int.tmod t471 4294967296))) + (IntKind.u64.wrap ((IntKind.u64.wrap (Int.tdiv t471 4294967296)) * (Int.tmod (IntKind.u64.wrap (a0)) 4294967296))))) + (IntKind.u64.wrap (Int.tdiv (IntKind.u64.wrap ((Int.tmod (IntKind.u64.wrap (a0)) 4294967296) * (Int.tmod t471 4294967296))) 4294967296)))) 4294967296))))] from rfl) (Reps.one (show Kd.M (Kd.int .u64) _ _ _ 0 [.int .u64 0] from rfl) (Reps.none _ _)))))); intro v475 w14 ho15 hb hg_ hnew_; clear hg_ hnew_; (first | rw [← Ny474.out] at ho15 | (simp only [Int.reduceToNat] at ho15; rw [← Ny474.out] at ho15)); have n0_ := Aside0.mk (Kd.R_lower ho15 (below_size (by repeat (first | (with_reducible first | exact HB.out | apply below_alloc | apply pw_below_drewN | apply below_drew1) | exact HB.out)))); have n1_ := Aside0.mk (below_step (by repeat (first | (with_reducible first | exact HB.out | apply below_alloc | apply pw_below_drewN | apply below_drew1) | exact HB.out)) hb); clear HB; have HO476 := n0_; have HB := n1_; clear n0_ n1_; clear hb ho15; obtain ⟨Ao16, co16, eo16⟩ := Kd.R_slice HO476.out; subst eo16; have p477 : 0 ≤ (2 : Int) := (by omega); have q477 : 2 < (y474.length : Int) := of_decide_eq_true (by first | (with_reducible assumption) | assumption); obtain ⟨ad477, e477, hx477_0⟩ := Kd.at_int (Kd.R_reads' HO476.out).2.2 2 p477 q477; cases e477; (try simp only [show (2 : Int).toNat = 2 from rfl, Nat.reduceMul, Nat.reduceEqDiff, Go.Addr.add, ↓reduceIte] at hx477_0); have qi477 : (2 < y474.length) = True := eq_true (by omega); (try rw [show ((2 : Int)).toNat = 2 from rfl] at hx477_0); replace p477 := eq_true p477; replace q477 := eq_true q477; have p12 : 0 ≤ (3 : Int) := (by omega); have q12 : (3 : Int) < ((y474.length : Int) : Int) := of_decide_eq_true (by first | (with_reducible assumption) | assumption); have qi12 : (3 < y474.length) = True := eq_true (by omega); obtain ⟨go12, co12, eo12, gb12, gl12, cl12, HG12⟩ := Kd.R_form HO476.out (by omega); (first | cases eo12 | (injection eo12 with ea_ en_ ec_; (first | subst ea_ | (injection ea_ with ea_; subst ea_)); subst ec_; clear en_)); have GB12 := Aside0.mk gb12; have GG12 := Aside0.mk HG12; clear gb12 gl12 HG12; (first | simp only [add_plain] at hx477_0 | skip); obtain ⟨hx12_0, hf12_0⟩ := Kd.R_celln 0 HO476.out (3 : Int) p12 q12; (try rw [show ((3 : Int)).toNat = 3 from rfl] at hx12_0); (try simp only [Nat.reduceMul, Nat.zero_mul, Nat.zero_add, Nat.reduceAdd] at hx12_0); (try rw [show ((3 : Int)).toNat = 3 from rfl] at hf12_0); (try simp only [Nat.reduceMul, Nat.zero_mul, Nat.zero_add, Nat.reduceAdd] at hf12_0); replace p12 := eq_true p12; replace q12 := eq_true q12; obtain ⟨hy17_, hz17_⟩ := Kd.R_celln 0 HO476.out (3 : Int) (by omega) (of_decide_eq_true (by first | (with_reducible assumption) | assumption)); (try simp only [Int.reduceToNat, Int.toNat_zero, Int.toNat_ofNat, Nat.reduceMul, Nat.zero_mul, Nat.zero_add] at hy17_ hz17_); (try rw [show ((3 : Int)).toNat = 3 from rfl] at hy17_); (try rw [show ((3 : Int)).toNat = 3 from rfl] at hz17_); have HP17 := Kd.R_putg HO476.out (3 : Int) (IntKind.u64.wrap (Int.tdiv (rd y474 2) 4294967296))) | ((with_reducible refine gate_store (t := 162) (p := 77) rfl ?_); (try (rw [drewN_self w14]; generalize hq_ : World.drewN w14 _ = w14; have n0_ := Aside0.mk (Kd.R_at hq_ HO476.out); have n1_ := Aside0.mk (below_at hq_ HB.out); clear hq_ HO476 HB; have HO476 := n0_; have HB := n1_; clear n0_ n1_; (try (obtain ⟨hy17_, hz17_⟩ := Kd.R_celln 0 HO476.out (3 : Int) (by omega) (of_decide_eq_true (by first | (with_reducible assumption) | assumption)))); (try (try simp only [Int.reduceToNat, Int.toNat_zero, Int.toNat_ofNat, Nat.reduceMul, Nat.zero_mul, Nat.zero_add] at hy17_ hz17_)); (try (try rw [show ((3 : Int)).toNat = 3 from rfl] at hy17_)); (try (try rw [show ((3 : Int)).toNat = 3 from rfl] at hz17_)); (try (have HP17 := Kd.R_putg HO476.out (3 : Int) (IntKind.u64.wrap (Int.tdiv (rd y474 2) 4294967296)))))); refine store_event (t := 162) (p := 77) (v := ?vo_w18) (w1 := (w14.setCell ⟨go12, (3 : Int).toNat, none⟩ (.int .u64 (IntKind.u64.wrap (Int.tdiv (rd y474 2) 4294967296))))) ?hg ?ho ?hn ?hr ?_; (case ho => rfl); (case hg => rfl); (case hn => rfl); (case hr => first | (go_simp; done) | (go_simp; rfl)); intro w18 hw; have hg : w14.grownBy w18 (some go12) := (by rw [hw]; exact HP17.2); have hp_ : Kd.R (Kd.int .u64) 162 w18 w.heap.size (fun _ => True) (.slice (some ⟨go12, 0, none⟩) y474.length co16) y478 := (by rw [hw, Ny478.out]; exact HP17.1); clear HP17; have n0_ := Aside0.mk (hp_); have n1_ := Aside0.mk ((by rw [hw]; exact below_set (HB.out) GB12.out : Below w.heap.size w w18)); clear HO476; clear HB; have HO476 := n0_; have HB := n1_; clear n0_ n1_; clear hg hw hp_; have p479 : 0 ≤ (2 : Int) := (by omega); have q479 : 2 < (y478.length : Int) := (by have h_ : (2 : Int) < ((y474.length : Int) : Int) := of_decide_eq_true (by first | (with_reducible assumption) | assumption); first | (have e_ := (Kd.R_reads' HO476.out).1; omega) | simpa only [Ny478.out, List.length_set] using h_); have ql479 : ((2 : Int) < ((y474.length : Int) : Int)) = True := eq_true (of_decide_eq_true (by first | (with_reducible assumption) | assumption)); (try have qn479 : (2 < y474.length) = True := eq_true (by have h_ : (2 : Int) < ((y474.length : Int) : Int) := of_decide_eq_true (by first | (with_reducible assumption) | assumption); omega)); obtain ⟨ad479, e479, hx479_0⟩ := Kd.at_int (Kd.R_reads' HO476.out).2.2 2 p479 q479; obtain rfl : (⟨go12, 0, none⟩ : Addr) = ad479 := (by injection e479); (first | simp only [add_plain] at hx479_0 | simp only [add_at] at hx479_0 | simp only [Addr.add, Nat.zero_add] at hx479_0 | skip); have qi479 : (2 < y478.length) = True := eq_true (by omega); (try rw [show ((2 : Int)).toNat = 2 from rfl] at hx479_0); replace p479 := eq_true p479; replace q479 := eq_true q479; have p13 : 0 ≤ (2 : Int) := (by omega); have q13 : (2 : Int) < ((y474.length : Int) : Int) := of_decide_eq_true (by first | (with_reducible assumption) | assumption); have qi13 : (2 < y474.length) = True := eq_true (by omega); obtain ⟨hx13_0, hf13_0⟩ := Kd.R_celln 0 HO476.out (2 : Int) p13 q13; (try rw [show ((2 : Int)).toNat = 2 from rfl] at hx13_0); (try simp only [Nat.reduceMul, Nat.zero_mul, Nat.zero_add, Nat.reduceAdd] at hx13_0); (try rw [show ((2 : Int)).toNat = 2 from rfl] at hf13_0); (try simp only [Nat.reduceMul, Nat.zero_mul, Nat.zero_add, Nat.reduceAdd] at hf13_0); replace p13 := eq_true p13; replace q13 := eq_true q13; obtain ⟨hy19_, hz19_⟩ := Kd.R_celln 0 HO476.out (2 : Int) (by omega) (of_decide_eq_true (by first | (with_reducible assumption) | assumption)); (try simp only [Int.reduceToNat, Int.toNat_zero, Int.toNat_ofNat, Nat.reduceMul, Nat.zero_mul, Nat.zero_add] at hy19_ hz19_); (try rw [show ((2 : Int)).toNat = 2 from rfl] at hy19_); (try rw [show ((2 : Int)).toNat = 2 from rfl] at hz19_); have HP19 := Kd.R_putg HO476.out (2 : Int) (Int.tmod (rd y478 2) 4294967296)) | ((with_reducible refine gate_store (t := 162) (p := 83) rfl ?_); (try (rw [drewN_self w18]; generalize hq_ : World.drewN w18 _ = w18; have n0_ := Aside0.mk (Kd.R_at hq_ HO476.out); have n1_ := Aside0.mk (below_at hq_ HB.out); clear hq_ HO476 HB; have HO476 := n0_; have HB := n1_; clear n0_ n1_; (try (obtain ⟨hy19_, hz19_⟩ := Kd.R_celln 0 HO476.out (2 : Int) (by omega) (of_decide_eq_true (by first | (with_reducible assumption) | assumption)))); (try (try simp only [Int.reduceToNat, Int.toNat_zero, Int.toNat_ofNat, Nat.reduceMul, Nat.zero_mul, Nat.zero_add] at hy19_ hz19_)); (try (try rw [show ((2 : Int)).toNat = 2 from rfl] at hy19_)); (try (try rw [show ((2 : Int)).toNat = 2 from rfl] at hz19_)); (try (have HP19 := Kd.R_putg HO476.out (2 : Int) (Int.tmod (rd y478 2) 4294967296))))); refine store_event (t := 162) (p := 83) (v := ?vo_w20) (w1 := (w18.setCell ⟨go12, (2 : Int).toNat, none⟩ (.int .u64 (Int.tmod (rd y478 2) 4294967296)))) ?hg ?ho ?hn ?hr ?_; (case ho => rfl); (case hg => rfl); (case hn => rfl); (case hr => first | (go_simp; done) | (go_simp; rfl)); intro w20 hw; have hg : w18.grownBy w20 (some go12) := (by rw [hw]; exact HP19.2); have hp_ : Kd.R (Kd.int .u64) 162 w20 w.heap.size (fun _ => True) (.slice (some ⟨go12, 0, none⟩) y474.length co16) y480 := (by rw [hw, Ny480.out]; exact HP19.1); clear HP19; have n0_ := Aside0.mk (hp_); have n1_ := Aside0.mk ((by rw [hw]; exact below_set (HB.out) GB12.out : Below w.heap.size w w20)); clear HO476; clear HB; have HO476 := n0_; have HB := n1_; clear n0_ n1_; clear hg hw hp_))
              repeat (go_quiet (first | (go_at_call 83; (with_reducible refine (fareboxref05_Rate.calls a1 true _ A7.out).mono ?_); rintro e w' ⟨rfl, ⟨nd, rfl⟩⟩; (try first | exact ⟨rfl, _, World.drewN_drewN _ _ _⟩ | exact ⟨rfl, _, Eq.trans (World.drewN_drewN _ _ _) (congrArg (World.drewN _) (Nat.add_assoc _ _ _))⟩)) | (go_at_call 132; (with_reducible refine (fareboxref05_parts.calls a1 t470 t471 t472 t473 _ A9.out).mono ?_); rintro e w' ⟨rfl, ⟨nd, rfl⟩⟩; (try first | exact ⟨rfl, _, World.drewN_drewN _ _ _⟩ | exact ⟨rfl, _, Eq.trans (World.drewN_drewN _ _ _) (congrArg (World.drewN _) (Nat.add_assoc _ _ _))⟩)) | ((with_reducible refine gate_dst (N := 71) rfl ?_); refine Kd.R_lit (Kd.int .u64) _ 162 ?hg (N := 71) ?hd (xs := ([Int.tmod (IntKind.u64.wrap ((Int.tmod (IntKind.u64.wrap (a0)) 4294967296) * (Int.tmod t471 4294967296))) 4294967296, Int.tmod (IntKind.u64.wrap ((IntKind.u64.wrap ((IntKind.u64.wrap ((IntKind.u64.wrap (Int.tdiv (IntKind.u64.wrap (a0)) 4294967296)) * (Int.tmod t471 4294967296))) + (IntKind.u64.wrap ((IntKind.u64.wrap (Int.tdiv t471 4294967296)) * (Int.tmod (IntKind.u64.wrap (a0)) 4294967296))))) + (IntKind.u64.wrap (Int.tdiv (IntKind.u64.wrap ((Int.tmod (IntKind.u64.wrap (a0)) 4294967296) * (Int.tmod t471 4294967296))) 4294967296)))) 4294967296, IntKind.u64.wrap ((IntKind.u64.wrap ((IntKind.u64.wrap (Int.tdiv (IntKind.u64.wrap (a0)) 4294967296)) * (IntKind.u64.wrap (Int.tdiv t471 4294967296)))) + (IntKind.u64.wrap (Int.tdiv (IntKind.u64.wrap ((IntKind.u64.wrap ((IntKind.u64.wrap ((IntKind.u64.wrap (Int.tdiv (IntKind.u64.wrap (a0)) 4294967296)) * (Int.tmod t471 4294967296))) + (IntKind.u64.wrap ((IntKind.u64.wrap (Int.tdiv t471 4294967296)) * (Int.tmod (IntKind.u64.wrap (a0)) 4294967296))))) + (IntKind.u64.wrap (Int.tdiv (IntKind.u64.wrap ((Int.tmod (IntKind.u64.wrap (a0)) 4294967296) * (Int.tmod t471 4294967296))) 4294967296)))) 4294967296))), 0] : List Int)) (inner := [.int .u64 (Int.tmod (IntKind.u64.wrap ((Int.tmod (IntKind.u64.wrap (a0)) 4294967296) * (Int.tmod t471 4294967296))) 4294967296), .int .u64 (Int.tmod (IntKind.u64.wrap ((IntKind.u64.wrap ((IntKind.u64.wrap ((IntKind.u64.wrap (Int.tdiv (IntKind.u64.wrap (a0)) 4294967296)) * (Int.tmod t471 4294967296))) + (IntKind.u64.wrap ((IntKind.u64.wrap (Int.tdiv t471 4294967296)) * (Int.tmod (IntKind.u64.wrap (a0)) 4294967296))))) + (IntKind.u64.wrap (Int.tdiv (IntKind.u64.wrap ((Int.tmod (IntKind.u64.wrap (a0)) 4294967296) * (Int.tmod t471 4294967296))) 4294967296)))) 4294967296), .int .u64 (IntKind.u64.wrap ((IntKind.u64.wrap ((IntKind.u64.wrap (Int.tdiv (IntKind.u64.wrap (a0)) 4294967296)) * (IntKind.u64.wrap (Int.tdiv t471 4294967296)))) + (IntKind.u64.wrap (Int.tdiv (IntKind.u64.wrap ((IntKind.u64.wrap ((IntKind.u64.wrap ((IntKind.u64.wrap (Int.tdiv (IntKind.u64.wrap (a0)) 4294967296)) * (Int.tmod t471 4294967296))) + (IntKind.u64.wrap ((IntKind.u64.wrap (Int.tdiv t471 4294967296)) * (Int.tmod (IntKind.u64.wrap (a0)) 4294967296))))) + (IntKind.u64.wrap (Int.tdiv (IntKind.u64.wrap ((Int.tmod (IntKind.u64.wrap (a0)) 4294967296) * (Int.tmod t471 4294967296))) 4294967296)))) 4294967296)))), .int .u64 0]) (ok := fun _ => True) (okp := fun _ => True) ?hr ?hp (fun _ hk => hk) trivial (Below.refl _ _) (Nat.le_refl _) (by simp) ?_; (case hd => rfl); (case hg => rfl); (case hr => first | (go_simp; done) | (go_simp; rfl)); (case hp => exact (Reps.one (show Kd.M (Kd.int .u64) _ _ _ (Int.tmod (IntKind.u64.wrap ((Int.tmod (IntKind.u64.wrap (a0)) 4294967296) * (Int.tmod t471 4294967296))) 4294967296) [.int .u64 (Int.tmod (IntKind.u64.wrap ((Int.tmod (IntKind.u64.wrap (a0)) 4294967296) * (Int.tmod t471 4294967296))) 4294967296)] from rfl) (Reps.one (show Kd.M (Kd.int .u64) _ _ _ (Int.tmod (IntKind.u64.wrap ((IntKind.u64.wrap ((IntKind.u64.wrap ((IntKind.u64.wrap (Int.tdiv (IntKind.u64.wrap (a0)) 4294967296)) * (Int.tmod t471 4294967296))) + (IntKind.u64.wrap ((IntKind.u64.wrap (Int.tdiv t471 4294967296)) * (Int.tmod (IntKind.u64.wrap (a0)) 4294967296))))) + (IntKind.u64.wrap (Int.tdiv (IntKind.u64.wrap ((Int.tmod (IntKind.u64.wrap (a0)) 4294967296) * (Int.tmod t471 4294967296))) 4294967296)))) 4294967296) [.int .u64 (Int.tmod (IntKind.u64.wrap ((IntKind.u64.wrap ((IntKind.u64.wrap ((IntKind.u64.wrap (Int.tdiv (IntKind.u64.wrap (a0)) 4294967296)) * (Int.tmod t471 4294967296))) + (IntKind.u64.wrap ((IntKind.u64.wrap (Int.tdiv t471 4294967296)) * (Int.tmod (IntKind.u64.wrap (a0)) 4294967296))))) + (IntKind.u64.wrap (Int.tdiv (IntKind.u64.wrap ((Int.tmod (IntKind.u64.wrap (a0)) 4294967296) * (Int.tmod t471 4294967296))) 4294967296)))) 4294967296)] from rfl) (Reps.one (show Kd.M (Kd.int .u64) _ _ _ (IntKind.u64.wrap ((IntKind.u64.wrap ((IntKind.u64.wrap (Int.tdiv (IntKind.u64.wrap (a0)) 4294967296)) * (IntKind.u64.wrap (Int.tdiv t471 4294967296)))) + (IntKind.u64.wrap (Int.tdiv (IntKind.u64.wrap ((IntKind.u64.wrap ((IntKind.u64.wrap ((IntKind.u64.wrap (Int.tdiv (IntKind.u64.wrap (a0)) 4294967296)) * (Int.tmod t471 4294967296))) + (IntKind.u64.wrap ((IntKind.u64.wrap (Int.tdiv t471 4294967296)) * (Int.tmod (IntKind.u64.wrap (a0)) 4294967296))))) + (IntKind.u64.wrap (Int.tdiv (IntKind.u64.wrap ((Int.tmod (IntKind.u64.wrap (a0)) 4294967296) * (Int.tmod t471 4294967296))) 4294967296)))) 4294967296)))) [.int .u64 (IntKind.u64.wrap ((IntKind.u64.wrap ((IntKind.u64.wrap (Int.tdiv (IntKind.u64.wrap (a0)) 4294967296)) * (IntKind.u64.wrap (Int.tdiv t471 4294967296)))) + (IntKind.u64.wrap (Int.tdiv (IntKind.u64.wrap ((IntKind.u64.wrap ((IntKind.u64.wrap ((IntKind.u64.wrap (Int.tdiv (IntKind.u64.wrap (a0)) 4294967296)) * (Int.tmod t471 4294967296))) + (IntKind.u64.wrap ((IntKind.u64.wrap (Int.tdiv t471 4294967296)) * (Int.tmod (IntKind.u64.wrap (a0)) 4294967296))))) + (IntKind.u64.wrap (Int.tdiv (IntKind.u64.wrap ((Int.tmod (IntKind.u64.wrap (a0)) 4294967296) * (Int.tmod t471 4294967296))) 4294967296)))) 4294967296))))] from rfl) (Reps.one (show Kd.M (Kd.int .u64) _ _ _ 0 [.int .u64 0] from rfl) (Reps.none _ _)))))); intro v475 w14 ho15 hb hg_ hnew_; clear hg_ hnew_; (first | rw [← Ny474.out] at ho15 | (simp only [Int.reduceToNat] at ho15; rw [← Ny474.out] at ho15)); have n0_ := Aside0.mk (Kd.R_lower ho15 (below_size (by repeat (first | (with_reducible first | exact HB.out | apply below_alloc | apply pw_below_drewN | apply below_drew1) | exact HB.out)))); have n1_ := Aside0.mk (below_step (by repeat (first | (with_reducible first | exact HB.out | apply below_alloc | apply pw_below_drewN | apply below_drew1) | exact HB.out)) hb); clear HB; have HO476 := n0_; have HB := n1_; clear n0_ n1_; clear hb ho15; obtain ⟨Ao16, co16, eo16⟩ := Kd.R_slice HO476.out; subst eo16; have p477 : 0 ≤ (2 : Int) := (by omega); have q477 : 2 < (y474.length : Int) := of_decide_eq_true (by first | (with_reducible assumption) | assumption); obtain ⟨ad477, e477, hx477_0⟩ := Kd.at_int (Kd.R_reads' HO476.out).2.2 2 p477 q477; cases e477; (try simp only [show (2 : Int).toNat = 2 from rfl, Nat.reduceMul, Nat.reduceEqDiff, Go.Addr.add, ↓reduceIte] at hx477_0); have qi477 : (2 < y474.length) = True := eq_true (by omega); (try rw [show ((2 : Int)).toNat = 2 from rfl] at hx477_0); replace p477 := eq_true p477; replace q477 := eq_true q477; have p12 : 0 ≤ (3 : Int) := (by omega); have q12 : (3 : Int) < ((y474.length : Int) : Int) := of_decide_eq_true (by first | (with_reducible assumption) | assumption); have qi12 : (3 < y474.length) = True := eq_true (by omega); obtain ⟨go12, co12, eo12, gb12, gl12, cl12, HG12⟩ := Kd.R_form HO476.out (by omega); (first | cases eo12 | (injection eo12 with ea_ en_ ec_; (first | subst ea_ | (injection ea_ with ea_; subst ea_)); subst ec_; clear en_)); have GB12 := Aside0.mk gb12; have GG12 := Aside0.mk HG12; clear gb12 gl12 HG12; (first | simp only [add_plain] at hx477_0 | skip); obtain ⟨hx12_0, hf12_0⟩ := Kd.R_celln 0 HO476.out (3 : Int) p12 q12; (try rw [show ((3 : Int)).toNat = 3 from rfl] at hx12_0); (try simp only [Nat.reduceMul, Nat.zero_mul, Nat.zero_add, Nat.reduceAdd] at hx12_0); (try rw [show ((3 : Int)).toNat = 3 from rfl] at hf12_0); (try simp only [Nat.reduceMul, Nat.zero_mul, Nat.zero_add, Nat.reduceAdd] at hf12_0); replace p12 := eq_true p12; replace q12 := eq_true q12; obtain ⟨hy17_, hz17_⟩ := Kd.R_celln 0 HO476.out (3 : Int) (by omega) (of_decide_eq_true (by first | (with_reducible assumption) | assumption)); (try simp only [Int.reduceToNat, Int.toNat_zero, Int.toNat_ofNat, Nat.reduceMul, Nat.zero_mul, Nat.zero_add] at hy17_ hz17_); (try rw [show ((3 : Int)).toNat = 3 from rfl] at hy17_); (try rw [show ((3 : Int)).toNat = 3 from rfl] at hz17_); have HP17 := Kd.R_putg HO476.out (3 : Int) (IntKind.u64.wrap (Int.tdiv (rd y474 2) 4294967296))) | ((with_reducible refine gate_store (t := 162) (p := 77) rfl ?_); (try (rw [drewN_self w14]; generalize hq_ : World.drewN w14 _ = w14; have n0_ := Aside0.mk (Kd.R_at hq_ HO476.out); have n1_ := Aside0.mk (below_at hq_ HB.out); clear hq_ HO476 HB; have HO476 := n0_; have HB := n1_; clear n0_ n1_; (try (obtain ⟨hy17_, hz17_⟩ := Kd.R_celln 0 HO476.out (3 : Int) (by omega) (of_decide_eq_true (by first | (with_reducible assumption) | assumption)))); (try (try simp only [Int.reduceToNat, Int.toNat_zero, Int.toNat_ofNat, Nat.reduceMul, Nat.zero_mul, Nat.zero_add] at hy17_ hz17_)); (try (try rw [show ((3 : Int)).toNat = 3 from rfl] at hy17_)); (try (try rw [show ((3 : Int)).toNat = 3 from rfl] at hz17_)); (try (have HP17 := Kd.R_putg HO476.out (3 : Int) (IntKind.u64.wrap (Int.tdiv (rd y474 2) 4294967296)))))); refine store_event (t := 162) (p := 77) (v := ?vo_w18) (w1 := (w14.setCell ⟨go12, (3 : Int).toNat, none⟩ (.int .u64 (IntKind.u64.wrap (Int.tdiv (rd y474 2) 4294967296))))) ?hg ?ho ?hn ?hr ?_; (case ho => rfl); (case hg => rfl); (case hn => rfl); (case hr => first | (go_simp; done) | (go_simp; rfl)); intro w18 hw; have hg : w14.grownBy w18 (some go12) := (by rw [hw]; exact HP17.2); have hp_ : Kd.R (Kd.int .u64) 162 w18 w.heap.size (fun _ => True) (.slice (some ⟨go12, 0, none⟩) y474.length co16) y478 := (by rw [hw, Ny478.out]; exact HP17.1); clear HP17; have n0_ := Aside0.mk (hp_); have n1_ := Aside0.mk ((by rw [hw]; exact below_set (HB.out) GB12.out : Below w.heap.size w w18)); clear HO476; clear HB; have HO476 := n0_; have HB := n1_; clear n0_ n1_; clear hg hw hp_; have p479 : 0 ≤ (2 : Int) := (by omega); have q479 : 2 < (y478.length : Int) := (by have h_ : (2 : Int) < ((y474.length : Int) : Int) := of_decide_eq_true (by first | (with_reducible assumption) | assumption); first | (have e_ := (Kd.R_reads' HO476.out).1; omega) | simpa only [Ny478.out, List.length_set] using h_); have ql479 : ((2 : Int) < ((y474.length : Int) : Int)) = True := eq_true (of_decide_eq_true (by first | (with_reducible assumption) | assumption)); (try have qn479 : (2 < y474.length) = True := eq_true (by have h_ : (2 : Int) < ((y474.length : Int) : Int) := of_decide_eq_true (by first | (with_reducible assumption) | assumption); omega)); obtain ⟨ad479, e479, hx479_0⟩ := Kd.at_int (Kd.R_reads' HO476.out).2.2 2 p479 q479; obtain rfl : (⟨go12, 0, none⟩ : Addr) = ad479 := (by injection e479); (first | simp only [add_plain] at hx479_0 | simp only [add_at] at hx479_0 | simp only [Addr.add, Nat.zero_add] at hx479_0 | skip); have qi479 : (2 < y478.length) = True := eq_true (by omega); (try rw [show ((2 : Int)).toNat = 2 from rfl] at hx479_0); replace p479 := eq_true p479; replace q479 := eq_true q479; have p13 : 0 ≤ (2 : Int) := (by omega); have q13 : (2 : Int) < ((y474.length : Int) : Int) := of_decide_eq_true (by first | (with_reducible assumption) | assumption); have qi13 : (2 < y474.length) = True := eq_true (by omega); obtain ⟨hx13_0, hf13_0⟩ := Kd.R_celln 0 HO476.out (2 : Int) p13 q13; (try rw [show ((2 : Int)).toNat = 2 from rfl] at hx13_0); (try simp only [Nat.reduceMul, Nat.zero_mul, Nat.zero_add, Nat.reduceAdd] at hx13_0); (try rw [show ((2 : Int)).toNat = 2 from rfl] at hf13_0); (try simp only [Nat.reduceMul, Nat.zero_mul, Nat.zero_add, Nat.reduceAdd] at hf13_0); replace p13 := eq_true p13; replace q13 := eq_true q13; obtain ⟨hy19_, hz19_⟩ := Kd.R_celln 0 HO476.out (2 : Int) (by omega) (of_decide_eq_true (by first | (with_reducible assumption) | assumption)); (try simp only [Int.reduceToNat, Int.toNat_zero, Int.toNat_ofNat, Nat.reduceMul, Nat.zero_mul, Nat.zero_add] at hy19_ hz19_); (try rw [show ((2 : Int)).toNat = 2 from rfl] at hy19_); (try rw [show ((2 : Int)).toNat = 2 from rfl] at hz19_); have HP19 := Kd.R_putg HO476.out (2 : Int) (Int.tmod (rd y478 2) 4294967296)) | ((with_reducible refine gate_store (t := 162) (p := 83) rfl ?_); (try (rw [drewN_self w18]; generalize hq_ : World.drewN w18 _ = w18; have n0_ := Aside0.mk (Kd.R_at hq_ HO476.out); have n1_ := Aside0.mk (below_at hq_ HB.out); clear hq_ HO476 HB; have HO476 := n0_; have HB := n1_; clear n0_ n1_; (try (obtain ⟨hy19_, hz19_⟩ := Kd.R_celln 0 HO476.out (2 : Int) (by omega) (of_decide_eq_true (by first | (with_reducible assumption) | assumption)))); (try (try simp only [Int.reduceToNat, Int.toNat_zero, Int.toNat_ofNat, Nat.reduceMul, Nat.zero_mul, Nat.zero_add] at hy19_ hz19_)); (try (try rw [show ((2 : Int)).toNat = 2 from rfl] at hy19_)); (try (try rw [show ((2 : Int)).toNat = 2 from rfl] at hz19_)); (try (have HP19 := Kd.R_putg HO476.out (2 : Int) (Int.tmod (rd y478 2) 4294967296))))); refine store_event (t := 162) (p := 83) (v := ?vo_w20) (w1 := (w18.setCell ⟨go12, (2 : Int).toNat, none⟩ (.int .u64 (Int.tmod (rd y478 2) 4294967296)))) ?hg ?ho ?hn ?hr ?_; (case ho => rfl); (case hg => rfl); (case hn => rfl); (case hr => first | (go_simp; done) | (go_simp; rfl)); intro w20 hw; have hg : w18.grownBy w20 (some go12) := (by rw [hw]; exact HP19.2); have hp_ : Kd.R (Kd.int .u64) 162 w20 w.heap.size (fun _ => True) (.slice (some ⟨go12, 0, none⟩) y474.length co16) y480 := (by rw [hw, Ny480.out]; exact HP19.1); clear HP19; have n0_ := Aside0.mk (hp_); have n1_ := Aside0.mk ((by rw [hw]; exact below_set (HB.out) GB12.out : Below w.heap.size w w20)); clear HO476; clear HB; have HO476 := n0_; have HB := n1_; clear n0_ n1_; clear hg hw hp_)); try go_wp2_with (first | (go_at_call 83; (with_reducible refine (fareboxref05_Rate.calls a1 true _ A7.out).mono ?_); rintro e w' ⟨rfl, ⟨nd, rfl⟩⟩; (try first | exact ⟨rfl, _, World.drewN_drewN _ _ _⟩ | exact ⟨rfl, _, Eq.trans (World.drewN_drewN _ _ _) (congrArg (World.drewN _) (Nat.add_assoc _ _ _))⟩)) | (go_at_call 132; (with_reducible refine (fareboxref05_parts.calls a1 t470 t471 t472 t473 _ A9.out).mono ?_); rintro e w' ⟨rfl, ⟨nd, rfl⟩⟩; (try first | exact ⟨rfl, _, World.drewN_drewN _ _ _⟩ | exact ⟨rfl, _, Eq.trans (World.drewN_drewN _ _ _) (congrArg (World.drewN _) (Nat.add_assoc _ _ _))⟩)) | ((with_reducible refine gate_dst (N := 71) rfl ?_); refine Kd.R_lit (Kd.int .u64) _ 162 ?hg (N := 71) ?hd (xs := ([Int.tmod (IntKind.u64.wrap ((Int.tmod (IntKind.u64.wrap (a0)) 4294967296) * (Int.tmod t471 4294967296))) 4294967296, Int.tmod (IntKind.u64.wrap ((IntKind.u64.wrap ((IntKind.u64.wrap ((IntKind.u64.wrap (Int.tdiv (IntKind.u64.wrap (a0)) 4294967296)) * (Int.tmod t471 4294967296))) + (IntKind.u64.wrap ((IntKind.u64.wrap (Int.tdiv t471 4294967296)) * (Int.tmod (IntKind.u64.wrap (a0)) 4294967296))))) + (IntKind.u64.wrap (Int.tdiv (IntKind.u64.wrap ((Int.tmod (IntKind.u64.wrap (a0)) 4294967296) * (Int.tmod t471 4294967296))) 4294967296)))) 4294967296, IntKind.u64.wrap ((IntKind.u64.wrap ((IntKind.u64.wrap (Int.tdiv (IntKind.u64.wrap (a0)) 4294967296)) * (IntKind.u64.wrap (Int.tdiv t471 4294967296)))) + (IntKind.u64.wrap (Int.tdiv (IntKind.u64.wrap ((IntKind.u64.wrap ((IntKind.u64.wrap ((IntKind.u64.wrap (Int.tdiv (IntKind.u64.wrap (a0)) 4294967296)) * (Int.tmod t471 4294967296))) + (IntKind.u64.wrap ((IntKind.u64.wrap (Int.tdiv t471 4294967296)) * (Int.tmod (IntKind.u64.wrap (a0)) 4294967296))))) + (IntKind.u64.wrap (Int.tdiv (IntKind.u64.wrap ((Int.tmod (IntKind.u64.wrap (a0)) 4294967296) * (Int.tmod t471 4294967296))) 4294967296)))) 4294967296))), 0] : List Int)) (inner := [.int .u64 (Int.tmod (IntKind.u64.wrap ((Int.tmod (IntKind.u64.wrap (a0)) 4294967296) * (Int.tmod t471 4294967296))) 4294967296), .int .u64 (Int.tmod (IntKind.u64.wrap ((IntKind.u64.wrap ((IntKind.u64.wrap ((IntKind.u64.wrap (Int.tdiv (IntKind.u64.wrap (a0)) 4294967296)) * (Int.tmod t471 4294967296))) + (IntKind.u64.wrap ((IntKind.u64.wrap (Int.tdiv t471 4294967296)) * (Int.tmod (IntKind.u64.wrap (a0)) 4294967296))))) + (IntKind.u64.wrap (Int.tdiv (IntKind.u64.wrap ((Int.tmod (IntKind.u64.wrap (a0)) 4294967296) * (Int.tmod t471 4294967296))) 4294967296)))) 4294967296), .int .u64 (IntKind.u64.wrap ((IntKind.u64.wrap ((IntKind.u64.wrap (Int.tdiv (IntKind.u64.wrap (a0)) 4294967296)) * (IntKind.u64.wrap (Int.tdiv t471 4294967296)))) + (IntKind.u64.wrap (Int.tdiv (IntKind.u64.wrap ((IntKind.u64.wrap ((IntKind.u64.wrap ((IntKind.u64.wrap (Int.tdiv (IntKind.u64.wrap (a0)) 4294967296)) * (Int.tmod t471 4294967296))) + (IntKind.u64.wrap ((IntKind.u64.wrap (Int.tdiv t471 4294967296)) * (Int.tmod (IntKind.u64.wrap (a0)) 4294967296))))) + (IntKind.u64.wrap (Int.tdiv (IntKind.u64.wrap ((Int.tmod (IntKind.u64.wrap (a0)) 4294967296) * (Int.tmod t471 4294967296))) 4294967296)))) 4294967296)))), .int .u64 0]) (ok := fun _ => True) (okp := fun _ => True) ?hr ?hp (fun _ hk => hk) trivial (Below.refl _ _) (Nat.le_refl _) (by simp) ?_; (case hd => rfl); (case hg => rfl); (case hr => first | (go_simp; done) | (go_simp; rfl)); (case hp => exact (Reps.one (show Kd.M (Kd.int .u64) _ _ _ (Int.tmod (IntKind.u64.wrap ((Int.tmod (IntKind.u64.wrap (a0)) 4294967296) * (Int.tmod t471 4294967296))) 4294967296) [.int .u64 (Int.tmod (IntKind.u64.wrap ((Int.tmod (IntKind.u64.wrap (a0)) 4294967296) * (Int.tmod t471 4294967296))) 4294967296)] from rfl) (Reps.one (show Kd.M (Kd.int .u64) _ _ _ (Int.tmod (IntKind.u64.wrap ((IntKind.u64.wrap ((IntKind.u64.wrap ((IntKind.u64.wrap (Int.tdiv (IntKind.u64.wrap (a0)) 4294967296)) * (Int.tmod t471 4294967296))) + (IntKind.u64.wrap ((IntKind.u64.wrap (Int.tdiv t471 4294967296)) * (Int.tmod (IntKind.u64.wrap (a0)) 4294967296))))) + (IntKind.u64.wrap (Int.tdiv (IntKind.u64.wrap ((Int.tmod (IntKind.u64.wrap (a0)) 4294967296) * (Int.tmod t471 4294967296))) 4294967296)))) 4294967296) [.int .u64 (Int.tmod (IntKind.u64.wrap ((IntKind.u64.wrap ((IntKind.u64.wrap ((IntKind.u64.wrap (Int.tdiv (IntKind.u64.wrap (a0)) 4294967296)) * (Int.tmod t471 4294967296))) + (IntKind.u64.wrap ((IntKind.u64.wrap (Int.tdiv t471 4294967296)) * (Int.tmod (IntKind.u64.wrap (a0)) 4294967296))))) + (IntKind.u64.wrap (Int.tdiv (IntKind.u64.wrap ((Int.tmod (IntKind.u64.wrap (a0)) 4294967296) * (Int.tmod t471 4294967296))) 4294967296)))) 4294967296)] from rfl) (Reps.one (show Kd.M (Kd.int .u64) _ _ _ (IntKind.u64.wrap ((IntKind.u64.wrap ((IntKind.u64.wrap (Int.tdiv (IntKind.u64.wrap (a0)) 4294967296)) * (IntKind.u64.wrap (Int.tdiv t471 4294967296)))) + (IntKind.u64.wrap (Int.tdiv (IntKind.u64.wrap ((IntKind.u64.wrap ((IntKind.u64.wrap ((IntKind.u64.wrap (Int.tdiv (IntKind.u64.wrap (a0)) 4294967296)) * (Int.tmod t471 4294967296))) + (IntKind.u64.wrap ((IntKind.u64.wrap (Int.tdiv t471 4294967296)) * (Int.tmod (IntKind.u64.wrap (a0)) 4294967296))))) + (IntKind.u64.wrap (Int.tdiv (IntKind.u64.wrap ((Int.tmod (IntKind.u64.wrap (a0)) 4294967296) * (Int.tmod t471 4294967296))) 4294967296)))) 4294967296)))) [.int .u64 (IntKind.u64.wrap ((IntKind.u64.wrap ((IntKind.u64.wrap (Int.tdiv (IntKind.u64.wrap (a0)) 4294967296)) * (IntKind.u64.wrap (Int.tdiv t471 4294967296)))) + (IntKind.u64.wrap (Int.tdiv (IntKind.u64.wrap ((IntKind.u64.wrap ((IntKind.u64.wrap ((IntKind.u64.wrap (Int.tdiv (IntKind.u64.wrap (a0)) 4294967296)) * (Int.tmod t471 4294967296))) + (IntKind.u64.wrap ((IntKind.u64.wrap (Int.tdiv t471 4294967296)) * (Int.tmod (IntKind.u64.wrap (a0)) 4294967296))))) + (IntKind.u64.wrap (Int.tdiv (IntKind.u64.wrap ((Int.tmod (IntKind.u64.wrap (a0)) 4294967296) * (Int.tmod t471 4294967296))) 4294967296)))) 4294967296))))] from rfl) (Reps.one (show Kd.M (Kd.int .u64) _ _ _ 0 [.int .u64 0] from rfl) (Reps.none _ _)))))); intro v475 w14 ho15 hb hg_ hnew_; clear hg_ hnew_; (first | rw [← Ny474.out] at ho15 | (simp only [Int.reduceToNat] at ho15; rw [← Ny474.out] at ho15)); have n0_ := Aside0.mk (Kd.R_lower ho15 (below_size (by repeat (first | (with_reducible first | exact HB.out | apply below_alloc | apply pw_below_drewN | apply below_drew1) | exact HB.out)))); have n1_ := Aside0.mk (below_step (by repeat (first | (with_reducible first | exact HB.out | apply below_alloc | apply pw_below_drewN | apply below_drew1) | exact HB.out)) hb); clear HB; have HO476 := n0_; have HB := n1_; clear n0_ n1_; clear hb ho15; obtain ⟨Ao16, co16, eo16⟩ := Kd.R_slice HO476.out; subst eo16; have p477 : 0 ≤ (2 : Int) := (by omega); have q477 : 2 < (y474.length : Int) := of_decide_eq_true (by first | (with_reducible assumption) | assumption); obtain ⟨ad477, e477, hx477_0⟩ := Kd.at_int (Kd.R_reads' HO476.out).2.2 2 p477 q477; cases e477; (try simp only [show (2 : Int).toNat = 2 from rfl, Nat.reduceMul, Nat.reduceEqDiff, Go.Addr.add, ↓reduceIte] at hx477_0); have qi477 : (2 < y474.length) = True := eq_true (by omega); (try rw [show ((2 : Int)).toNat = 2 from rfl] at hx477_0); replace p477 := eq_true p477; replace q477 := eq_true q477; have p12 : 0 ≤ (3 : Int) := (by omega); have q12 : (3 : Int) < ((y474.length : Int) : Int) := of_decide_eq_true (by first | (with_reducible assumption) | assumption); have qi12 : (3 < y474.length) = True := eq_true (by omega); obtain ⟨go12, co12, eo12, gb12, gl12, cl12, HG12⟩ := Kd.R_form HO476.out (by omega); (first | cases eo12 | (injection eo12 with ea_ en_ ec_; (first | subst ea_ | (injection ea_ with ea_; subst ea_)); subst ec_; clear en_)); have GB12 := Aside0.mk gb12; have GG12 := Aside0.mk HG12; clear gb12 gl12 HG12; (first | simp only [add_plain] at hx477_0 | skip); obtain ⟨hx12_0, hf12_0⟩ := Kd.R_celln 0 HO476.out (3 : Int) p12 q12; (try rw [show ((3 : Int)).toNat = 3 from rfl] at hx12_0); (try simp only [Nat.reduceMul, Nat.zero_mul, Nat.zero_add, Nat.reduceAdd] at hx12_0); (try rw [show ((3 : Int)).toNat = 3 from rfl] at hf12_0); (try simp only [Nat.reduceMul, Nat.zero_mul, Nat.zero_add, Nat.reduceAdd] at hf12_0); replace p12 := eq_true p12; replace q12 := eq_true q12; obtain ⟨hy17_, hz17_⟩ := Kd.R_celln 0 HO476.out (3 : Int) (by omega) (of_decide_eq_true (by first | (with_reducible assumption) | assumption)); (try simp only [Int.reduceToNat, Int.toNat_zero, Int.toNat_ofNat, Nat.reduceMul, Nat.zero_mul, Nat.zero_add] at hy17_ hz17_); (try rw [show ((3 : Int)).toNat = 3 from rfl] at hy17_); (try rw [show ((3 : Int)).toNat = 3 from rfl] at hz17_); have HP17 := Kd.R_putg HO476.out (3 : Int) (IntKind.u64.wrap (Int.tdiv (rd y474 2) 4294967296))) | ((with_reducible refine gate_store (t := 162) (p := 77) rfl ?_); (try (rw [drewN_self w14]; generalize hq_ : World.drewN w14 _ = w14; have n0_ := Aside0.mk (Kd.R_at hq_ HO476.out); have n1_ := Aside0.mk (below_at hq_ HB.out); clear hq_ HO476 HB; have HO476 := n0_; have HB := n1_; clear n0_ n1_; (try (obtain ⟨hy17_, hz17_⟩ := Kd.R_celln 0 HO476.out (3 : Int) (by omega) (of_decide_eq_true (by first | (with_reducible assumption) | assumption)))); (try (try simp only [Int.reduceToNat, Int.toNat_zero, Int.toNat_ofNat, Nat.reduceMul, Nat.zero_mul, Nat.zero_add] at hy17_ hz17_)); (try (try rw [show ((3 : Int)).toNat = 3 from rfl] at hy17_)); (try (try rw [show ((3 : Int)).toNat = 3 from rfl] at hz17_)); (try (have HP17 := Kd.R_putg HO476.out (3 : Int) (IntKind.u64.wrap (Int.tdiv (rd y474 2) 4294967296)))))); refine store_event (t := 162) (p := 77) (v := ?vo_w18) (w1 := (w14.setCell ⟨go12, (3 : Int).toNat, none⟩ (.int .u64 (IntKind.u64.wrap (Int.tdiv (rd y474 2) 4294967296))))) ?hg ?ho ?hn ?hr ?_; (case ho => rfl); (case hg => rfl); (case hn => rfl); (case hr => first | (go_simp; done) | (go_simp; rfl)); intro w18 hw; have hg : w14.grownBy w18 (some go12) := (by rw [hw]; exact HP17.2); have hp_ : Kd.R (Kd.int .u64) 162 w18 w.heap.size (fun _ => True) (.slice (some ⟨go12, 0, none⟩) y474.length co16) y478 := (by rw [hw, Ny478.out]; exact HP17.1); clear HP17; have n0_ := Aside0.mk (hp_); have n1_ := Aside0.mk ((by rw [hw]; exact below_set (HB.out) GB12.out : Below w.heap.size w w18)); clear HO476; clear HB; have HO476 := n0_; have HB := n1_; clear n0_ n1_; clear hg hw hp_; have p479 : 0 ≤ (2 : Int) := (by omega); have q479 : 2 < (y478.length : Int) := (by have h_ : (2 : Int) < ((y474.length : Int) : Int) := of_decide_eq_true (by first | (with_reducible assumption) | assumption); first | (have e_ := (Kd.R_reads' HO476.out).1; omega) | simpa only [Ny478.out, List.length_set] using h_); have ql479 : ((2 : Int) < ((y474.length : Int) : Int)) = True := eq_true (of_decide_eq_true (by first | (with_reducible assumption) | assumption)); (try have qn479 : (2 < y474.length) = True := eq_true (by have h_ : (2 : Int) < ((y474.length : Int) : Int) := of_decide_eq_true (by first | (with_reducible assumption) | assumption); omega)); obtain ⟨ad479, e479, hx479_0⟩ := Kd.at_int (Kd.R_reads' HO476.out).2.2 2 p479 q479; obtain rfl : (⟨go12, 0, none⟩ : Addr) = ad479 := (by injection e479); (first | simp only [add_plain] at hx479_0 | simp only [add_at] at hx479_0 | simp only [Addr.add, Nat.zero_add] at hx479_0 | skip); have qi479 : (2 < y478.length) = True := eq_true (by omega); (try rw [show ((2 : Int)).toNat = 2 from rfl] at hx479_0); replace p479 := eq_true p479; replace q479 := eq_true q479; have p13 : 0 ≤ (2 : Int) := (by omega); have q13 : (2 : Int) < ((y474.length : Int) : Int) := of_decide_eq_true (by first | (with_reducible assumption) | assumption); have qi13 : (2 < y474.length) = True := eq_true (by omega); obtain ⟨hx13_0, hf13_0⟩ := Kd.R_celln 0 HO476.out (2 : Int) p13 q13; (try rw [show ((2 : Int)).toNat = 2 from rfl] at hx13_0); (try simp only [Nat.reduceMul, Nat.zero_mul, Nat.zero_add, Nat.reduceAdd] at hx13_0); (try rw [show ((2 : Int)).toNat = 2 from rfl] at hf13_0); (try simp only [Nat.reduceMul, Nat.zero_mul, Nat.zero_add, Nat.reduceAdd] at hf13_0); replace p13 := eq_true p13; replace q13 := eq_true q13; obtain ⟨hy19_, hz19_⟩ := Kd.R_celln 0 HO476.out (2 : Int) (by omega) (of_decide_eq_true (by first | (with_reducible assumption) | assumption)); (try simp only [Int.reduceToNat, Int.toNat_zero, Int.toNat_ofNat, Nat.reduceMul, Nat.zero_mul, Nat.zero_add] at hy19_ hz19_); (try rw [show ((2 : Int)).toNat = 2 from rfl] at hy19_); (try rw [show ((2 : Int)).toNat = 2 from rfl] at hz19_); have HP19 := Kd.R_putg HO476.out (2 : Int) (Int.tmod (rd y478 2) 4294967296)) | ((with_reducible refine gate_store (t := 162) (p := 83) rfl ?_); (try (rw [drewN_self w18]; generalize hq_ : World.drewN w18 _ = w18; have n0_ := Aside0.mk (Kd.R_at hq_ HO476.out); have n1_ := Aside0.mk (below_at hq_ HB.out); clear hq_ HO476 HB; have HO476 := n0_; have HB := n1_; clear n0_ n1_; (try (obtain ⟨hy19_, hz19_⟩ := Kd.R_celln 0 HO476.out (2 : Int) (by omega) (of_decide_eq_true (by first | (with_reducible assumption) | assumption)))); (try (try simp only [Int.reduceToNat, Int.toNat_zero, Int.toNat_ofNat, Nat.reduceMul, Nat.zero_mul, Nat.zero_add] at hy19_ hz19_)); (try (try rw [show ((2 : Int)).toNat = 2 from rfl] at hy19_)); (try (try rw [show ((2 : Int)).toNat = 2 from rfl] at hz19_)); (try (have HP19 := Kd.R_putg HO476.out (2 : Int) (Int.tmod (rd y478 2) 4294967296))))); refine store_event (t := 162) (p := 83) (v := ?vo_w20) (w1 := (w18.setCell ⟨go12, (2 : Int).toNat, none⟩ (.int .u64 (Int.tmod (rd y478 2) 4294967296)))) ?hg ?ho ?hn ?hr ?_; (case ho => rfl); (case hg => rfl); (case hn => rfl); (case hr => first | (go_simp; done) | (go_simp; rfl)); intro w20 hw; have hg : w18.grownBy w20 (some go12) := (by rw [hw]; exact HP19.2); have hp_ : Kd.R (Kd.int .u64) 162 w20 w.heap.size (fun _ => True) (.slice (some ⟨go12, 0, none⟩) y474.length co16) y480 := (by rw [hw, Ny480.out]; exact HP19.1); clear HP19; have n0_ := Aside0.mk (hp_); have n1_ := Aside0.mk ((by rw [hw]; exact below_set (HB.out) GB12.out : Below w.heap.size w w20)); clear HO476; clear HB; have HO476 := n0_; have HB := n1_; clear n0_ n1_; clear hg hw hp_)))
              go_loopg [10, 16] kj3 (fun kq v10 v16 w' => ∃ (x10_2 : Int) (x15_2 : List Int) (x16_2 : Int), v10 = .int .i64 x10_2 ∧ v16 = .int .u64 x16_2 ∧ Aside0 (fareboxref05_Scale.l0 kq x10_2 x15_2 x16_2 = some (r1, r2)) ∧ Aside0 (kq ≤ kj3) ∧ Aside0 (Kd.R (Kd.int .u64) 162 w' w.heap.size (fun _ => True) (.slice (some ⟨go12, 0, none⟩) y474.length co16) x15_2) ∧ Aside0 (Below w.heap.size w w'))
              case atStart => exact ⟨(t472), (y480), (0), (by first | rfl | (simp; done) | (simp [*]; done)), (by first | rfl | (simp; done) | (simp [*]; done)), H', ⟨Nat.le_refl _⟩, ⟨by (with_reducible repeat (first | apply Kd.R_alloc | apply Kd.R_drewN | apply Kd.R_drew)); exact HO476.out⟩, ⟨by repeat (first | (with_reducible first | exact HB.out | apply below_alloc | apply pw_below_drewN | apply below_drew1) | exact HB.out)⟩⟩
              case round =>
                clear H'
                try clear c1
                try clear p1
                try clear q1
                try clear hx1
                try clear qi1
                try clear p2
                try clear p4
                try clear q4
                try clear hx4
                try clear qi4
                try clear c5
                try clear c6
                try clear c8
                try clear c9
                try clear c10
                try clear c10b0
                try clear c10b1
                try clear c11
                try clear c11b0
                try clear c11b1
                try clear p12
                try clear q12
                try clear hx12
                try clear qi12
                try clear hf12
                try clear p13
                try clear q13
                try clear hx13
                try clear qi13
                try clear hf13
                try clear hx12_0
                try clear hx13_0
                try clear hx477_0
                try clear hx479_0
                try clear p12
                try clear p13
                try clear p2
                try clear p477
                try clear p479
                try clear q12
                try clear q13
                try clear q477
                try clear q479
                obtain ⟨x10_2, x15_2, x16_2, rfl, rfl, HA, HK2, HO_15, HB⟩ := hrel
                have hl15_2 := (Kd.R_reads' HO_15.out).1
                rw [hl15_2] at HO_15
                (try simp only [hl15_2])
                cases gk with
                | zero => exact absurd HA.out (by simp [fareboxref05_Scale.l0])
                | succ k2 =>
                  have H := HA.out
                  clear HA
                  simp only [fareboxref05_Scale.l0] at H
                  by_cases c21 : x10_2 < 0
                  · rw [if_pos c21] at H
                    have c21b0 : decide (x10_2 < 0) = true := decide_eq_true c21
                    clear c21
                    by_cases c22 : 0 < (x15_2.length : Int)
                    · rw [if_pos c22] at H
                      have c22b0 : decide (0 < (x15_2.length : Int)) = true := decide_eq_true c22
                      have c22b1 : decide (0 < x15_2.length) = true := decide_eq_true (by omega)
                      clear c22
                      have H' := Aside0.mk H
                      clear H
                      have p483 : 0 ≤ (0 : Int) := (by omega)
                      have q483 : 0 < (x15_2.length : Int) := of_decide_eq_true (by first | (with_reducible assumption) | assumption)
                      obtain ⟨ad483, e483, hx483_0⟩ := Kd.at_int (Kd.R_reads' HO_15.out).2.2 0 p483 q483
                      obtain rfl : (⟨go12, 0, none⟩ : Addr) = ad483 := (by injection e483)
                      (first | simp only [add_plain] at hx483_0 | simp only [add_at] at hx483_0 | simp only [Addr.add, Nat.zero_add] at hx483_0 | skip)
                      have qi483 : (0 < x15_2.length) = True := eq_true (by omega)
                      (try rw [show ((0 : Int)).toNat = 0 from rfl] at hx483_0)
                      (try rw [Addr.add_zero'] at hx483_0)
                      replace p483 := eq_true p483
                      replace q483 := eq_true q483
                      go_wp2
                      repeat (go_quiet (fail); try go_wp2)
                      go_loopg [17] k2 (fun kq v17 w' => ∃ (x15_3 : List Int) (x17_3 : Int), v17 = .int .i64 x17_3 ∧ Aside0 (fareboxref05_Scale.l1 kq x10_2 x15_3 (Int.tmod (rd x15_2 0) 2) x17_3 = some (r1, r2)) ∧ Aside0 (kq ≤ k2) ∧ Aside0 (Kd.R (Kd.int .u64) 162 w' w.heap.size (fun _ => True) (.slice (some ⟨go12, 0, none⟩) x15_2.length co16) x15_3) ∧ Aside0 (Below w.heap.size w w'))
                      case atStart => exact ⟨(x15_2), (0), (by first | rfl | (simp; done) | (simp [*]; done)), H', ⟨Nat.le_refl _⟩, ⟨by (try simp only [hl15_2]); (with_reducible repeat (first | apply Kd.R_alloc | apply Kd.R_drewN | apply Kd.R_drew)); exact HO_15.out⟩, ⟨by repeat (first | (with_reducible first | exact HB.out | apply below_alloc | apply pw_below_drewN | apply below_drew1) | exact HB.out)⟩⟩
                      case round =>
                        clear H'
                        try clear c1
                        try clear p1
                        try clear q1
                        try clear hx1
                        try clear qi1
                        try clear c2
                        try clear p2
                        try clear p4
                        try clear q4
                        try clear hx4
                        try clear qi4
                        try clear c5
                        try clear c6
                        try clear c8
                        try clear c9
                        try clear c10
                        try clear c10b0
                        try clear c10b1
                        try clear c11
                        try clear c11b0
                        try clear c11b1
                        try clear p12
                        try clear q12
                        try clear hx12
                        try clear qi12
                        try clear hf12
                        try clear p13
                        try clear q13
                        try clear hx13
                        try clear qi13
                        try clear hf13
                        try clear c21
                        try clear c21b0
                        try clear c22
                        try clear c22b0
                        try clear c22b1
                        try clear hx12_0
                        try clear hx13_0
                        try clear hx477_0
                        try clear hx479_0
                        try clear hx483_0
                        try clear p1
                        try clear p12
                        try clear p13
                        try clear p2
                        try clear p4
                        try clear p477
                        try clear p479
                        try clear p483
                        try clear q1
                        try clear q12
                        try clear q13
                        try clear q4
                        try clear q477
                        try clear q479
                        try clear q483
                        obtain ⟨x15_3, x17_3, rfl, HA, HK3, HO_15, HB⟩ := hrel
                        have hl15_3 := (Kd.R_reads' HO_15.out).1
                        rw [hl15_3] at HO_15
                        (try simp only [hl15_3])
                        cases gk with
                        | zero => exact absurd HA.out (by simp [fareboxref05_Scale.l1])
                        | succ k3 =>
                          have H := HA.out
                          clear HA
                          simp only [fareboxref05_Scale.l1] at H
                          by_cases c23 : x17_3 < 4
                          · rw [if_pos c23] at H
                            have c23b0 : decide (x17_3 < 4) = true := decide_eq_true c23
                            clear c23
                            by_cases c24 : x17_3 < 3
                            · rw [if_pos c24] at H
                              have c24b0 : decide (x17_3 < 3) = true := decide_eq_true c24
                              clear c24
                              obtain ⟨ji25, hji25⟩ : ∃ j_ : Int, (wrap64 (x17_3 + 1)) = j_ := ⟨_, rfl⟩
                              replace H : (if 0 ≤ (ji25) then (if (ji25) < (x15_3.length : Int) then (if 0 ≤ x17_3 then (if x17_3 < (x15_3.length : Int) then (fareboxref05_Scale.l1 k3 x10_2 (x15_3.set (x17_3 : Int).toNat (IntKind.u64.wrap ((IntKind.u64.wrap (Int.tdiv (rd x15_3 x17_3) 2)) + (IntKind.u64.wrap ((Int.tmod (rd x15_3 (ji25)) 2) * 2147483648))))) (Int.tmod (rd x15_2 0) 2) ji25) else (none)) else (none)) else (none)) else (none)) = some (r1, r2) := by first | (rw [hji25] at H; exact H) | (simp only [hji25] at H ⊢; exact H)
                              have hji25w : (IntKind.i64.wrap (x17_3 + 1)) = ji25 := (i64_w _).trans hji25
                              by_cases c26 : 0 ≤ (ji25)
                              · rw [if_pos c26] at H
                                have c26b0 : decide (0 ≤ (ji25)) = true := decide_eq_true c26
                                clear c26
                                by_cases c27 : (ji25) < (x15_3.length : Int)
                                · rw [if_pos c27] at H
                                  have c27b0 : decide ((ji25) < (x15_3.length : Int)) = true := decide_eq_true c27
                                  clear c27
                                  by_cases c28 : 0 ≤ x17_3
                                  · rw [if_pos c28] at H
                                    have c28b0 : decide (0 ≤ x17_3) = true := decide_eq_true c28
                                    clear c28
                                    by_cases c29 : x17_3 < (x15_3.length : Int)
                                    · rw [if_pos c29] at H
                                      have c29b0 : decide (x17_3 < (x15_3.length : Int)) = true := decide_eq_true c29
                                      clear c29
                                      obtain ⟨y486, hy486⟩ : ∃ y_ : List Int, y_ = (x15_3.set (x17_3 : Int).toNat (IntKind.u64.wrap ((IntKind.u64.wrap (Int.tdiv (rd x15_3 x17_3) 2)) + (IntKind.u64.wrap ((Int.tmod (rd x15_3 (ji25)) 2) * 2147483648))))) := ⟨_, rfl⟩
                                      replace H : (fareboxref05_Scale.l1 k3 x10_2 y486 (Int.tmod (rd x15_2 0) 2) ji25) = some (r1, r2) := by first | (rw [hy486]; with_reducible exact H) | (have H2_ := (Option.bind_some _ _).symm.trans H; rw [hy486]; with_reducible exact H2_) | (have H2_ := (Option.bind_some _ _).symm.trans H; with_reducible exact H2_) | with_reducible exact H | (rw [hy486]; exact H) | exact H
                                      have Ny486 := Aside0.mk hy486
                                      clear hy486
                                      have H' := Aside0.mk H
                                      clear H
                                      have p484 : 0 ≤ ((ji25) : Int) := of_decide_eq_true (by first | (with_reducible assumption) | assumption)
                                      have q484 : (ji25) < (x15_3.length : Int) := of_decide_eq_true (by first | (with_reducible assumption) | assumption)
                                      obtain ⟨ad484, e484, hx484_0⟩ := Kd.at_int (Kd.R_reads' HO_15.out).2.2 (ji25) p484 q484
                                      obtain rfl : (⟨go12, 0, none⟩ : Addr) = ad484 := (by injection e484)
                                      (first | simp only [add_plain] at hx484_0 | simp only [add_at] at hx484_0 | simp only [Addr.add, Nat.zero_add] at hx484_0 | skip)
                                      replace p484 := eq_true p484
                                      replace q484 := eq_true q484
                                      have p485 : 0 ≤ (x17_3 : Int) := of_decide_eq_true (by first | (with_reducible assumption) | assumption)
                                      have q485 : x17_3 < (x15_3.length : Int) := of_decide_eq_true (by first | (with_reducible assumption) | assumption)
                                      obtain ⟨ad485, e485, hx485_0⟩ := Kd.at_int (Kd.R_reads' HO_15.out).2.2 x17_3 p485 q485
                                      obtain rfl : (⟨go12, 0, none⟩ : Addr) = ad485 := (by injection e485)
                                      (first | simp only [add_plain] at hx485_0 | simp only [add_at] at hx485_0 | simp only [Addr.add, Nat.zero_add] at hx485_0 | skip)
                                      replace p485 := eq_true p485
                                      replace q485 := eq_true q485
                                      have p30 : 0 ≤ (x17_3 : Int) := of_decide_eq_true (by first | (with_reducible assumption) | assumption)
                                      have q30 : (x17_3 : Int) < ((x15_3.length : Int) : Int) := of_decide_eq_true (by first | (with_reducible assumption) | assumption)
                                      obtain ⟨hx30_0, hf30_0⟩ := Kd.R_celln 0 HO_15.out (x17_3 : Int) p30 q30
                                      replace p30 := eq_true p30
                                      replace q30 := eq_true q30
                                      have HP31 := Kd.R_putg HO_15.out (x17_3 : Int) (IntKind.u64.wrap ((IntKind.u64.wrap (Int.tdiv (rd x15_3 x17_3) 2)) + (IntKind.u64.wrap ((Int.tmod (rd x15_3 (ji25)) 2) * 2147483648))))
                                      go_wp2_with (first | ((with_reducible refine gate_store (t := 162) (p := 112) rfl ?_); (try (rw [drewN_self wr]; generalize hq_ : World.drewN wr _ = wr; have n0_ := Aside0.mk (Kd.R_at hq_ HO_15.out); have n1_ := Aside0.mk (below_at hq_ HB.out); clear hq_ HO_15 HB; have HO_15 := n0_; have HB := n1_; clear n0_ n1_; (try (have HP31 := Kd.R_putg HO_15.out (x17_3 : Int) (IntKind.u64.wrap ((IntKind.u64.wrap (Int.tdiv (rd x15_3 x17_3) 2)) + (IntKind.u64.wrap ((Int.tmod (rd x15_3 (ji25)) 2) * 2147483648)))))))); refine store_event (t := 162) (p := 112) (v := ?vo_w32) (w1 := (wr.setCell ⟨go12, (x17_3 : Int).toNat, none⟩ (.int .u64 (IntKind.u64.wrap ((IntKind.u64.wrap (Int.tdiv (rd x15_3 x17_3) 2)) + (IntKind.u64.wrap ((Int.tmod (rd x15_3 (ji25)) 2) * 2147483648))))))) ?hg ?ho ?hn ?hr ?_; (case ho => rfl); (case hg => rfl); (case hn => rfl); (case hr => first | (go_simp; done) | (go_simp; rfl)); intro w32 hw; have hg : wr.grownBy w32 (some go12) := (by rw [hw]; exact HP31.2); have hp_ : Kd.R (Kd.int .u64) 162 w32 w.heap.size (fun _ => True) (.slice (some ⟨go12, 0, none⟩) x15_3.length co16) y486 := (by rw [hw, Ny486.out]; exact HP31.1); clear HP31; have n0_ := Aside0.mk (hp_); have n1_ := Aside0.mk ((by rw [hw]; exact below_set (HB.out) GB12.out : Below w.heap.size w w32)); clear HO_15; clear HB; have HO_15 := n0_; have HB := n1_; clear n0_ n1_; clear hg hw hp_))
                                      repeat (go_quiet (first | ((with_reducible refine gate_store (t := 162) (p := 112) rfl ?_); (try (rw [drewN_self wr]; generalize hq_ : World.drewN wr _ = wr; have n0_ := Aside0.mk (Kd.R_at hq_ HO_15.out); have n1_ := Aside0.mk (below_at hq_ HB.out); clear hq_ HO_15 HB; have HO_15 := n0_; have HB := n1_; clear n0_ n1_; (try (have HP31 := Kd.R_putg HO_15.out (x17_3 : Int) (IntKind.u64.wrap ((IntKind.u64.wrap (Int.tdiv (rd x15_3 x17_3) 2)) + (IntKind.u64.wrap ((Int.tmod (rd x15_3 (ji25)) 2) * 2147483648)))))))); refine store_event (t := 162) (p := 112) (v := ?vo_w32) (w1 := (wr.setCell ⟨go12, (x17_3 : Int).toNat, none⟩ (.int .u64 (IntKind.u64.wrap ((IntKind.u64.wrap (Int.tdiv (rd x15_3 x17_3) 2)) + (IntKind.u64.wrap ((Int.tmod (rd x15_3 (ji25)) 2) * 2147483648))))))) ?hg ?ho ?hn ?hr ?_; (case ho => rfl); (case hg => rfl); (case hn => rfl); (case hr => first | (go_simp; done) | (go_simp; rfl)); intro w32 hw; have hg : wr.grownBy w32 (some go12) := (by rw [hw]; exact HP31.2); have hp_ : Kd.R (Kd.int .u64) 162 w32 w.heap.size (fun _ => True) (.slice (some ⟨go12, 0, none⟩) x15_3.length co16) y486 := (by rw [hw, Ny486.out]; exact HP31.1); clear HP31; have n0_ := Aside0.mk (hp_); have n1_ := Aside0.mk ((by rw [hw]; exact below_set (HB.out) GB12.out : Below w.heap.size w w32)); clear HO_15; clear HB; have HO_15 := n0_; have HB := n1_; clear n0_ n1_; clear hg hw hp_)); try go_wp2_with (first | ((with_reducible refine gate_store (t := 162) (p := 112) rfl ?_); (try (rw [drewN_self wr]; generalize hq_ : World.drewN wr _ = wr; have n0_ := Aside0.mk (Kd.R_at hq_ HO_15.out); have n1_ := Aside0.mk (below_at hq_ HB.out); clear hq_ HO_15 HB; have HO_15 := n0_; have HB := n1_; clear n0_ n1_; (try (have HP31 := Kd.R_putg HO_15.out (x17_3 : Int) (IntKind.u64.wrap ((IntKind.u64.wrap (Int.tdiv (rd x15_3 x17_3) 2)) + (IntKind.u64.wrap ((Int.tmod (rd x15_3 (ji25)) 2) * 2147483648)))))))); refine store_event (t := 162) (p := 112) (v := ?vo_w32) (w1 := (wr.setCell ⟨go12, (x17_3 : Int).toNat, none⟩ (.int .u64 (IntKind.u64.wrap ((IntKind.u64.wrap (Int.tdiv (rd x15_3 x17_3) 2)) + (IntKind.u64.wrap ((Int.tmod (rd x15_3 (ji25)) 2) * 2147483648))))))) ?hg ?ho ?hn ?hr ?_; (case ho => rfl); (case hg => rfl); (case hn => rfl); (case hr => first | (go_simp; done) | (go_simp; rfl)); intro w32 hw; have hg : wr.grownBy w32 (some go12) := (by rw [hw]; exact HP31.2); have hp_ : Kd.R (Kd.int .u64) 162 w32 w.heap.size (fun _ => True) (.slice (some ⟨go12, 0, none⟩) x15_3.length co16) y486 := (by rw [hw, Ny486.out]; exact HP31.1); clear HP31; have n0_ := Aside0.mk (hp_); have n1_ := Aside0.mk ((by rw [hw]; exact below_set (HB.out) GB12.out : Below w.heap.size w w32)); clear HO_15; clear HB; have HO_15 := n0_; have HB := n1_; clear n0_ n1_; clear hg hw hp_)))
                                      (try simp only [← hl15_3])
                                      go_roundg k3
                                      case measure => have := HJ3.out; have := HK2.out; have := HK3.out; omega
                                      case rel => exact ⟨(y486), (ji25), (by first | rfl | (simp; done) | (simp only [← hji25] <;> (first | rfl | simp)) | (simp [*]; done)), H', ⟨by have := HJ3.out; have := HK2.out; have := HK3.out; omega⟩, ⟨by (try simp only [hl15_2]); (try simp only [hl15_3]); (with_reducible repeat (first | apply Kd.R_alloc | apply Kd.R_drewN | apply Kd.R_drew)); exact HO_15.out⟩, ⟨by repeat (first | (with_reducible first | exact HB.out | apply below_alloc | apply pw_below_drewN | apply below_drew1) | exact HB.out)⟩⟩
                                    · rw [if_neg c29] at H
                                      exact absurd H (by simp)
                                  · rw [if_neg c28] at H
                                    exact absurd H (by simp)
                                · rw [if_neg c27] at H
                                  exact absurd H (by simp)
                              · rw [if_neg c26] at H
                                exact absurd H (by simp)
                            · rw [if_neg c24] at H
                              have c24b0 : decide (x17_3 < 3) = false := decide_eq_false c24
                              clear c24
                              by_cases c33 : 0 ≤ x17_3
                              · rw [if_pos c33] at H
                                have c33b0 : decide (0 ≤ x17_3) = true := decide_eq_true c33
                                clear c33
                                by_cases c34 : x17_3 < (x15_3.length : Int)
                                · rw [if_pos c34] at H
                                  have c34b0 : decide (x17_3 < (x15_3.length : Int)) = true := decide_eq_true c34
                                  clear c34
                                  obtain ⟨y488, hy488⟩ : ∃ y_ : List Int, y_ = (x15_3.set (x17_3 : Int).toNat (IntKind.u64.wrap ((IntKind.u64.wrap (Int.tdiv (rd x15_3 x17_3) 2)) + (0 * 2147483648)))) := ⟨_, rfl⟩
                                  replace H : (fareboxref05_Scale.l1 k3 x10_2 y488 (Int.tmod (rd x15_2 0) 2) (wrap64 (x17_3 + 1))) = some (r1, r2) := by first | (rw [hy488]; with_reducible exact H) | (have H2_ := (Option.bind_some _ _).symm.trans H; rw [hy488]; with_reducible exact H2_) | (have H2_ := (Option.bind_some _ _).symm.trans H; with_reducible exact H2_) | with_reducible exact H | (rw [hy488]; exact H) | exact H
                                  have Ny488 := Aside0.mk hy488
                                  clear hy488
                                  have H' := Aside0.mk H
                                  clear H
                                  have p487 : 0 ≤ (x17_3 : Int) := of_decide_eq_true (by first | (with_reducible assumption) | assumption)
                                  have q487 : x17_3 < (x15_3.length : Int) := of_decide_eq_true (by first | (with_reducible assumption) | assumption)
                                  obtain ⟨ad487, e487, hx487_0⟩ := Kd.at_int (Kd.R_reads' HO_15.out).2.2 x17_3 p487 q487
                                  obtain rfl : (⟨go12, 0, none⟩ : Addr) = ad487 := (by injection e487)
                                  (first | simp only [add_plain] at hx487_0 | simp only [add_at] at hx487_0 | simp only [Addr.add, Nat.zero_add] at hx487_0 | skip)
                                  replace p487 := eq_true p487
                                  replace q487 := eq_true q487
                                  have p35 : 0 ≤ (x17_3 : Int) := of_decide_eq_true (by first | (with_reducible assumption) | assumption)
                                  have q35 : (x17_3 : Int) < ((x15_3.length : Int) : Int) := of_decide_eq_true (by first | (with_reducible assumption) | assumption)
                                  obtain ⟨hx35_0, hf35_0⟩ := Kd.R_celln 0 HO_15.out (x17_3 : Int) p35 q35
                                  replace p35 := eq_true p35
                                  replace q35 := eq_true q35
                                  have HP36 := Kd.R_putg HO_15.out (x17_3 : Int) (IntKind.u64.wrap ((IntKind.u64.wrap (Int.tdiv (rd x15_3 x17_3) 2)) + (0 * 2147483648)))
                                  go_wp2_with (first | ((with_reducible refine gate_store (t := 162) (p := 112) rfl ?_); (try (rw [drewN_self wr]; generalize hq_ : World.drewN wr _ = wr; have n0_ := Aside0.mk (Kd.R_at hq_ HO_15.out); have n1_ := Aside0.mk (below_at hq_ HB.out); clear hq_ HO_15 HB; have HO_15 := n0_; have HB := n1_; clear n0_ n1_; (try (have HP36 := Kd.R_putg HO_15.out (x17_3 : Int) (IntKind.u64.wrap ((IntKind.u64.wrap (Int.tdiv (rd x15_3 x17_3) 2)) + (0 * 2147483648))))))); refine store_event (t := 162) (p := 112) (v := ?vo_w37) (w1 := (wr.setCell ⟨go12, (x17_3 : Int).toNat, none⟩ (.int .u64 (IntKind.u64.wrap ((IntKind.u64.wrap (Int.tdiv (rd x15_3 x17_3) 2)) + (0 * 2147483648)))))) ?hg ?ho ?hn ?hr ?_; (case ho => rfl); (case hg => rfl); (case hn => rfl); (case hr => first | (go_simp; done) | (go_simp; rfl)); intro w37 hw; have hg : wr.grownBy w37 (some go12) := (by rw [hw]; exact HP36.2); have hp_ : Kd.R (Kd.int .u64) 162 w37 w.heap.size (fun _ => True) (.slice (some ⟨go12, 0, none⟩) x15_3.length co16) y488 := (by rw [hw, Ny488.out]; exact HP36.1); clear HP36; have n0_ := Aside0.mk (hp_); have n1_ := Aside0.mk ((by rw [hw]; exact below_set (HB.out) GB12.out : Below w.heap.size w w37)); clear HO_15; clear HB; have HO_15 := n0_; have HB := n1_; clear n0_ n1_; clear hg hw hp_))
                                  repeat (go_quiet (first | ((with_reducible refine gate_store (t := 162) (p := 112) rfl ?_); (try (rw [drewN_self wr]; generalize hq_ : World.drewN wr _ = wr; have n0_ := Aside0.mk (Kd.R_at hq_ HO_15.out); have n1_ := Aside0.mk (below_at hq_ HB.out); clear hq_ HO_15 HB; have HO_15 := n0_; have HB := n1_; clear n0_ n1_; (try (have HP36 := Kd.R_putg HO_15.out (x17_3 : Int) (IntKind.u64.wrap ((IntKind.u64.wrap (Int.tdiv (rd x15_3 x17_3) 2)) + (0 * 2147483648))))))); refine store_event (t := 162) (p := 112) (v := ?vo_w37) (w1 := (wr.setCell ⟨go12, (x17_3 : Int).toNat, none⟩ (.int .u64 (IntKind.u64.wrap ((IntKind.u64.wrap (Int.tdiv (rd x15_3 x17_3) 2)) + (0 * 2147483648)))))) ?hg ?ho ?hn ?hr ?_; (case ho => rfl); (case hg => rfl); (case hn => rfl); (case hr => first | (go_simp; done) | (go_simp; rfl)); intro w37 hw; have hg : wr.grownBy w37 (some go12) := (by rw [hw]; exact HP36.2); have hp_ : Kd.R (Kd.int .u64) 162 w37 w.heap.size (fun _ => True) (.slice (some ⟨go12, 0, none⟩) x15_3.length co16) y488 := (by rw [hw, Ny488.out]; exact HP36.1); clear HP36; have n0_ := Aside0.mk (hp_); have n1_ := Aside0.mk ((by rw [hw]; exact below_set (HB.out) GB12.out : Below w.heap.size w w37)); clear HO_15; clear HB; have HO_15 := n0_; have HB := n1_; clear n0_ n1_; clear hg hw hp_)); try go_wp2_with (first | ((with_reducible refine gate_store (t := 162) (p := 112) rfl ?_); (try (rw [drewN_self wr]; generalize hq_ : World.drewN wr _ = wr; have n0_ := Aside0.mk (Kd.R_at hq_ HO_15.out); have n1_ := Aside0.mk (below_at hq_ HB.out); clear hq_ HO_15 HB; have HO_15 := n0_; have HB := n1_; clear n0_ n1_; (try (have HP36 := Kd.R_putg HO_15.out (x17_3 : Int) (IntKind.u64.wrap ((IntKind.u64.wrap (Int.tdiv (rd x15_3 x17_3) 2)) + (0 * 2147483648))))))); refine store_event (t := 162) (p := 112) (v := ?vo_w37) (w1 := (wr.setCell ⟨go12, (x17_3 : Int).toNat, none⟩ (.int .u64 (IntKind.u64.wrap ((IntKind.u64.wrap (Int.tdiv (rd x15_3 x17_3) 2)) + (0 * 2147483648)))))) ?hg ?ho ?hn ?hr ?_; (case ho => rfl); (case hg => rfl); (case hn => rfl); (case hr => first | (go_simp; done) | (go_simp; rfl)); intro w37 hw; have hg : wr.grownBy w37 (some go12) := (by rw [hw]; exact HP36.2); have hp_ : Kd.R (Kd.int .u64) 162 w37 w.heap.size (fun _ => True) (.slice (some ⟨go12, 0, none⟩) x15_3.length co16) y488 := (by rw [hw, Ny488.out]; exact HP36.1); clear HP36; have n0_ := Aside0.mk (hp_); have n1_ := Aside0.mk ((by rw [hw]; exact below_set (HB.out) GB12.out : Below w.heap.size w w37)); clear HO_15; clear HB; have HO_15 := n0_; have HB := n1_; clear n0_ n1_; clear hg hw hp_)))
                                  (try simp only [← hl15_3])
                                  go_roundg k3
                                  case measure => have := HJ3.out; have := HK2.out; have := HK3.out; omega
                                  case rel => exact ⟨(y488), (wrap64 (x17_3 + 1)), (by first | rfl | (simp; done) | (simp [*]; done)), H', ⟨by have := HJ3.out; have := HK2.out; have := HK3.out; omega⟩, ⟨by (try simp only [hl15_2]); (try simp only [hl15_3]); (with_reducible repeat (first | apply Kd.R_alloc | apply Kd.R_drewN | apply Kd.R_drew)); exact HO_15.out⟩, ⟨by repeat (first | (with_reducible first | exact HB.out | apply below_alloc | apply pw_below_drewN | apply below_drew1) | exact HB.out)⟩⟩
                                · rw [if_neg c34] at H
                                  exact absurd H (by simp)
                              · rw [if_neg c33] at H
                                exact absurd H (by simp)
                          · rw [if_neg c23] at H
                            have c23b0 : decide (x17_3 < 4) = false := decide_eq_false c23
                            clear c23
                            have H' := Aside0.mk H
                            clear H
                            go_wp2
                            repeat (go_quiet (fail); try go_wp2)
                            (try simp only [← hl15_2, ← hl15_3])
                            go_roundg k3
                            case measure => have := HJ3.out; have := HK2.out; have := HK3.out; omega
                            case rel => exact ⟨(wrap64 (x10_2 + 1)), (x15_3), ((Int.tmod (rd x15_2 0) 2)), (by first | rfl | (simp; done) | (simp [*]; done)), (by first | rfl | (simp; done) | (simp [*]; done)), H', ⟨by have := HJ3.out; have := HK2.out; have := HK3.out; omega⟩, ⟨by (try simp only [hl15_2]); (try simp only [hl15_3]); (with_reducible repeat (first | apply Kd.R_alloc | apply Kd.R_drewN | apply Kd.R_drew)); exact HO_15.out⟩, ⟨by repeat (first | (with_reducible first | exact HB.out | apply below_alloc | apply pw_below_drewN | apply below_drew1) | exact HB.out)⟩⟩
                    · rw [if_neg c22] at H
                      exact absurd H (by simp)
                  · rw [if_neg c21] at H
                    have c21b0 : decide (x10_2 < 0) = false := decide_eq_false c21
                    clear c21
                    by_cases c38 : 1 < (x15_2.length : Int)
                    · rw [if_pos c38] at H
                      have c38b0 : decide (1 < (x15_2.length : Int)) = true := decide_eq_true c38
                      have c38b1 : decide (1 < x15_2.length) = true := decide_eq_true (by omega)
                      clear c38
                      by_cases c39 : 0 < (x15_2.length : Int)
                      · rw [if_pos c39] at H
                        have c39b0 : decide (0 < (x15_2.length : Int)) = true := decide_eq_true c39
                        have c39b1 : decide (0 < x15_2.length) = true := decide_eq_true (by omega)
                        clear c39
                        simp only [Option.some.injEq, Prod.mk.injEq] at H
                        obtain ⟨rfl, rfl⟩ := H
                        have p481 : 0 ≤ (1 : Int) := (by omega)
                        have q481 : 1 < (x15_2.length : Int) := of_decide_eq_true (by first | (with_reducible assumption) | assumption)
                        obtain ⟨ad481, e481, hx481_0⟩ := Kd.at_int (Kd.R_reads' HO_15.out).2.2 1 p481 q481
                        obtain rfl : (⟨go12, 0, none⟩ : Addr) = ad481 := (by injection e481)
                        (first | simp only [add_plain] at hx481_0 | simp only [add_at] at hx481_0 | simp only [Addr.add, Nat.zero_add] at hx481_0 | skip)
                        have qi481 : (1 < x15_2.length) = True := eq_true (by omega)
                        (try rw [show ((1 : Int)).toNat = 1 from rfl] at hx481_0)
                        replace p481 := eq_true p481
                        replace q481 := eq_true q481
                        have p482 : 0 ≤ (0 : Int) := (by omega)
                        have q482 : 0 < (x15_2.length : Int) := of_decide_eq_true (by first | (with_reducible assumption) | assumption)
                        obtain ⟨ad482, e482, hx482_0⟩ := Kd.at_int (Kd.R_reads' HO_15.out).2.2 0 p482 q482
                        obtain rfl : (⟨go12, 0, none⟩ : Addr) = ad482 := (by injection e482)
                        (first | simp only [add_plain] at hx482_0 | simp only [add_at] at hx482_0 | simp only [Addr.add, Nat.zero_add] at hx482_0 | skip)
                        have qi482 : (0 < x15_2.length) = True := eq_true (by omega)
                        (try rw [show ((0 : Int)).toNat = 0 from rfl] at hx482_0)
                        (try rw [Addr.add_zero'] at hx482_0)
                        replace p482 := eq_true p482
                        replace q482 := eq_true q482
                        go_wp2
                        repeat (go_quiet (fail); try go_wp2)
                        go_ret2
                        exact ⟨by first | rfl | (simp [errW_none, errW_some] <;> rfl) | (simp [*, errW_none, errW_some] <;> rfl), by repeat (first | (with_reducible first | exact HB.out | apply below_alloc | apply pw_below_drewN | apply below_drew1) | exact HB.out)⟩
                      · rw [if_neg c39] at H
                        exact absurd H (by simp)
                    · rw [if_neg c38] at H
                      exact absurd H (by simp)
            · rw [if_neg c11] at H
              exact absurd H (by simp)
          · rw [if_neg c10] at H
            exact absurd H (by simp)
        · replace c8 := Bool.eq_false_iff.mpr c8
          subst c8
          have H1 : (some (0, 51)) = some (r1, r2) := by rw [if_neg (show ¬ (false = true) by decide)] at H; exact H
          clear H
          have H := H1
          clear H1
          simp only [Option.some.injEq, Prod.mk.injEq] at H
          obtain ⟨rfl, rfl⟩ := H
          go_wp2_with (first | (go_at_call 83; (with_reducible refine (fareboxref05_Rate.calls a1 false _ A7.out).mono ?_); rintro e w' ⟨rfl, ⟨nd, rfl⟩⟩; (try first | exact ⟨rfl, _, World.drewN_drewN _ _ _⟩ | exact ⟨rfl, _, Eq.trans (World.drewN_drewN _ _ _) (congrArg (World.drewN _) (Nat.add_assoc _ _ _))⟩)))
          repeat (go_quiet (first | (go_at_call 83; (with_reducible refine (fareboxref05_Rate.calls a1 false _ A7.out).mono ?_); rintro e w' ⟨rfl, ⟨nd, rfl⟩⟩; (try first | exact ⟨rfl, _, World.drewN_drewN _ _ _⟩ | exact ⟨rfl, _, Eq.trans (World.drewN_drewN _ _ _) (congrArg (World.drewN _) (Nat.add_assoc _ _ _))⟩))); try go_wp2_with (first | (go_at_call 83; (with_reducible refine (fareboxref05_Rate.calls a1 false _ A7.out).mono ?_); rintro e w' ⟨rfl, ⟨nd, rfl⟩⟩; (try first | exact ⟨rfl, _, World.drewN_drewN _ _ _⟩ | exact ⟨rfl, _, Eq.trans (World.drewN_drewN _ _ _) (congrArg (World.drewN _) (Nat.add_assoc _ _ _))⟩))))
          go_ret2
          exact ⟨by first | rfl | (simp [errW_none, errW_some] <;> rfl) | (simp [*, errW_none, errW_some] <;> rfl), by repeat (first | (with_reducible first | exact HB.out | apply below_alloc | apply pw_below_drewN | apply below_drew1) | exact HB.out)⟩
end Go.Proofs.YtmeogadkbbeglaaQ
