/- What the claim's walk leans on: W19d, U18c, U19, U19h. -/
import Derived.Test.YtmeogadkbbeglaaK17
import Derived.Test.YtmeogadkbbeglaaH3
import Derived.Test.YtmeogadkbbeglaaH2
import Derived.Test.YtmeogadkbbeglaaK4
import Derived.Test.YtmeogadkbbeglaaK6
import Derived.Test.YtmeogadkbbeglaaK3
import Derived.Test.YtmeogadkbbeglaaK5
import Derived.Test.YtmeogadkbbeglaaK16
section
namespace Go.Proofs.Ytmeogadkbbeglaa
open Go.RowKit Go.Proofs.YtmeogadkbbeglaaQ
set_option maxHeartbeats 3200000
set_option maxRecDepth 100000
/-- bad's answer behind its first test -/
def badG (has : Bool) (d : DayC) : Int :=
  if (sumB d.rail && (sumB d.bus && (sumB d.capped && sumB d.most))) = false then 50
  else if d.capped < d.bus then 50
  else if d.low = 0 ∧ d.high = 0 then 0
  else if has = false ∨ d.low < 1 ∨ d.high < d.low then 1
  else 0
theorem bad_late {t : Tariff} {d : DayC} {o : Option DayC} (h : lateB d o = true) : badF t d o = 60 := by simp [badF, h]
theorem bad_rest {t : Tariff} {d : DayC} {o : Option DayC} (h : lateB d o = false) : badF t d o = badG (spFind t.sp d.low d.high).isSome d := by simp [badF, badG, h]
theorem spOut_has (o : Option Span) : (spOut o).2.2.2.2.2 = o.isSome := by cases o <;> rfl
theorem spRes_out (o : Option Span) : spRes o = .tuple #[.agg #[.int .i64 (spOut o).1, .int .i64 (spOut o).2.1, .int .i64 (spOut o).2.2.1, .int .i64 (spOut o).2.2.2.1, .int .i64 (spOut o).2.2.2.2.1], .bool (spOut o).2.2.2.2.2] := by cases o <;> rfl
theorem cweek_calls (d : Int) (W : World) : Calls Try.prog 68 #[.int .i64 d] W fun e w' => e = .returned (.int .i64 (weekF d)) ∧ Below W.heap.size W w' :=
  (clock_Week.calls d (weekF d) W (cweek_f d)).mono fun _ _ h => ⟨h.1, h.2.below⟩
theorem badG_50 {has : Bool} {d : DayC} (h : sumB d.rail = false ∨ sumB d.bus = false ∨ sumB d.capped = false ∨ sumB d.most = false) : badG has d = 50 := by
  unfold badG
  rw [if_pos (by rcases h with h | h | h | h <;> simp [h])]
theorem badG_go {has : Bool} {d : DayC} (h : sumB d.rail = true ∧ sumB d.bus = true ∧ sumB d.capped = true ∧ sumB d.most = true) : badG has d = if d.capped < d.bus then 50
  else if d.low = 0 ∧ d.high = 0 then 0
  else if has = false ∨ d.low < 1 ∨ d.high < d.low then 1
  else 0 := by
  unfold badG
  rw [if_neg (by simp [h])]
theorem bad_calls (tr : Tariff) (m : TMem) (d : DayC) (o : Option (Nat × Nat × DayC)) (w : World) (hT : tr.At w m) (ho : ∀ b off x, o = some (b, off, x) → w.cell? ⟨b, off, none⟩ = some (.int .i64 x.day)) :
    Calls Try.prog 101 #[.agg (tr.cells m), .agg #[.int .i64 (d).day, .int .i64 (d).rail, .int .i64 (d).bus, .int .i64 (d).capped, .int .i64 (d).most, .int .i64 (d).low, .int .i64 (d).high], .pointer (o.map fun q => ⟨q.1, q.2.1, none⟩)] w fun e w' => e = .returned (.int .i64 (badF tr d (o.map fun q => q.2.2))) ∧ Below w.heap.size w w' := by
  have HX := (Box.new w (tr.cells m) 27).alloc (.cells #[.int .i64 (d).day, .int .i64 (d).rail, .int .i64 (d).bus, .int .i64 (d).capped, .int .i64 (d).most, .int .i64 (d).low, .int .i64 (d).high] 57)
  have HD := Box.new' (w := w.alloc (.cells (tr.cells m) 27)) (b := w.heap.size + 1) (by simp) #[.int .i64 (d).day, .int .i64 (d).rail, .int .i64 (d).bus, .int .i64 (d).capped, .int .i64 (d).most, .int .i64 (d).low, .int .i64 (d).high] 57
  have hB := bAlloc (bAlloc (Below.refl w.heap.size w) (.cells (tr.cells m) 27)) (.cells #[.int .i64 (d).day, .int .i64 (d).rail, .int .i64 (d).bus, .int .i64 (d).capped, .int .i64 (d).most, .int .i64 (d).low, .int .i64 (d).high] 57)
  replace hT := hT.keep hB
  have K := fun W => cweek_calls d.day W
  cases hlate : lateB d (o.map fun q => q.2.2)
  · rw [bad_rest hlate]
    have S := fun W h => span_calls tr m d.low d.high W h
    rw [spRes_out] at S
    have eh := spOut_has (spFind tr.sp d.low d.high)
    rw [← eh]
    clear eh
    generalize spOut (spFind tr.sp d.low d.high) = so at *
    obtain ⟨s1, s2, s3, s4, s5, s6⟩ := so
    simp only at S ⊢
    cases o with
    | none =>
      simp only [Option.map_none]
      go_enter Try.func101, Try.ntmps101
      go_wp2_with fail
      generalize (w.alloc (.cells (tr.cells m) 27)).alloc _ = w2 at *
      have HDa := (HD).cell 0; have HDb := (HD).cell 1; have HDc := (HD).cell 2; have HDd := (HD).cell 3; have HDe := (HD).cell 4; have HDf := (HD).cell 5; have HDg := (HD).cell 6; have HDl := (HD).lt; simp at HDa HDb HDc HDd HDe HDf HDg
      have ltx := HX.lt
      (refine wp_region_calm_lit (by kernel_rfl) (by kernel_rfl) ?_; (repeat (go_big_quiet_step (fail))); refine wpQuiet_nil ?_; intro _ hw'; obtain ⟨nq, hw''⟩ := hw'; subst hw'')
      have hwe := World.below_ext w2 nq
      have hB2 := bThen hB hwe
      have HX2 := HX.below' hwe
      have HD2 := HD.below' hwe
      have hT2 := hT.keep hwe
      clear hwe hT HX HD HDa HDb HDc HDd HDe HDf HDg HDl ltx
      generalize w2.ext nq = w3 at *
      clear hB
      have HD2a := (HD2).cell 0; have HD2b := (HD2).cell 1; have HD2c := (HD2).cell 2; have HD2d := (HD2).cell 3; have HD2e := (HD2).cell 4; have HD2f := (HD2).cell 5; have HD2g := (HD2).cell 6; have HD2l := (HD2).lt; simp at HD2a HD2b HD2c HD2d HD2e HD2f HD2g
      have ltx := HX2.lt
      go_wp2_with fail
      have HL := Box.new w3 #[.int .i64 d.rail, .int .i64 d.bus, .int .i64 d.capped, .int .i64 d.most] 3
      have hz := bAlloc (Below.refl w3.heap.size w3) (.cells #[.int .i64 d.rail, .int .i64 d.bus, .int .i64 d.capped, .int .i64 d.most] 3)
      replace HX2 := HX2.below' hz
      replace HD2 := HD2.below' hz
      replace hT2 := hT2.keep hz
      replace hB2 := bThen hB2 hz
      clear HD2a HD2b HD2c HD2d HD2e HD2f HD2g HD2l ltx hz
      generalize hb9 : w3.heap.size = b9 at *
      have HB9 := Lib.hid hb9
      clear hb9
      generalize (w3.alloc (.cells #[.int .i64 d.rail, .int .i64 d.bus, .int .i64 d.capped, .int .i64 d.most] 3)) = w9 at *
      go_loopw [43] (fun i wr => ∃ k : Nat, k ≤ 4 ∧ i = .int .i64 k ∧ Below w9.heap.size w9 wr ∧ Hid (([d.rail, d.bus, d.capped, d.most].take k).all sumB = true)) (fun i _ => 4 - (intOf i).toNat)
      case atStart => exact ⟨0, by omega, rfl, Below.refl _ _, rfl⟩
      case round =>
        obtain ⟨k, hk, rfl, hbr, hall⟩ := hrel
        have HLr := HL.below' hbr
        by_cases hlt : k < 4
        · have l0 : wr.cell? ⟨b9, 0, none⟩ = some (.int .i64 d.rail) := HLr.cell 0
          have l1 : wr.cell? ⟨b9, 1, none⟩ = some (.int .i64 d.bus) := HLr.cell 1
          have l2 : wr.cell? ⟨b9, 2, none⟩ = some (.int .i64 d.capped) := HLr.cell 2
          have l3 : wr.cell? ⟨b9, 3, none⟩ = some (.int .i64 d.most) := HLr.cell 3
          have ltl := HLr.lt
          have hcase : k = 0 ∨ k = 1 ∨ k = 2 ∨ k = 3 := by omega
          rcases hcase with rfl | rfl | rfl | rfl
          · go_wp2_with fail
            all_goals first
            | (go_ret
               exact ⟨ret_int (badG_50 (by simp [sumB]; omega)).symm, bThen hB2 hbr⟩)
            | (go_roundw
               case rel => exact ⟨0 + 1, by omega, by go_num, hbr, all_snoc (by simp) hall.out (by simp [sumB]; omega)⟩
               case measure => simp [intOf])
            | fail
          · go_wp2_with fail
            all_goals first
            | (go_ret
               exact ⟨ret_int (badG_50 (by simp [sumB]; omega)).symm, bThen hB2 hbr⟩)
            | (go_roundw
               case rel => exact ⟨1 + 1, by omega, by go_num, hbr, all_snoc (by simp) hall.out (by simp [sumB]; omega)⟩
               case measure => simp [intOf])
            | fail
          · go_wp2_with fail
            all_goals first
            | (go_ret
               exact ⟨ret_int (badG_50 (by simp [sumB]; omega)).symm, bThen hB2 hbr⟩)
            | (go_roundw
               case rel => exact ⟨2 + 1, by omega, by go_num, hbr, all_snoc (by simp) hall.out (by simp [sumB]; omega)⟩
               case measure => simp [intOf])
            | fail
          · go_wp2_with fail
            all_goals first
            | (go_ret
               exact ⟨ret_int (badG_50 (by simp [sumB]; omega)).symm, bThen hB2 hbr⟩)
            | (go_roundw
               case rel => exact ⟨3 + 1, by omega, by go_num, hbr, all_snoc (by simp) hall.out (by simp [sumB]; omega)⟩
               case measure => simp [intOf])
            | fail
        · obtain rfl : k = 4 := by omega
          have hs := hall.out
          simp at hs
          have hg := badG_go (has := s6) (d := d) ⟨hs.1, hs.2.1, hs.2.2.1, hs.2.2.2⟩
          have HG := Lib.hid hg
          clear hg hs hall
          have HDr := HD2.below' hbr
          have HXr := HX2.below' hbr
          have hTr := hT2.keep hbr
          have hBr := bThen hB2 hbr
          clear HD2 HX2 hT2 hB2 HLr HL
          obtain ⟨t0, t1, t2, t3, t4, t5, t6, t7, t8, t9, t10, t11, t12, t13⟩ := tcells HXr
          have lt0 := HXr.lt
          have HDra := (HDr).cell 0; have HDrb := (HDr).cell 1; have HDrc := (HDr).cell 2; have HDrd := (HDr).cell 3; have HDre := (HDr).cell 4; have HDrf := (HDr).cell 5; have HDrg := (HDr).cell 6; have HDrl := (HDr).lt; simp at HDra HDrb HDrc HDrd HDre HDrf HDrg
          go_wp2_with fail
          all_goals first
          | (with_reducible refine (S _ hTr).mono ?_
             rintro _ w5 ⟨rfl, hb5⟩
             clear t0 t1 t2 t3 t4 t5 t6 t7 t8 t9 t10 t11 t12 t13 lt0 HDra HDrb HDrc HDrd HDre HDrf HDrg HDrl
             replace HDr := HDr.below' hb5
             replace hBr := bThen hBr hb5
             have HDra := (HDr).cell 0; have HDrb := (HDr).cell 1; have HDrc := (HDr).cell 2; have HDrd := (HDr).cell 3; have HDre := (HDr).cell 4; have HDrf := (HDr).cell 5; have HDrg := (HDr).cell 6; have HDrl := (HDr).lt; simp at HDra HDrb HDrc HDrd HDre HDrf HDrg
             cases s6
             all_goals go_wp2_with fail
             all_goals
               go_ret
               exact ⟨ret_int (by rw [HG.out]; simp; grind), by (repeat (first | (with_reducible exact hBr) | (with_reducible refine bAlloc ?_ _) | (with_reducible refine bDrewN ?_ _) | (with_reducible refine bDrew ?_) | (with_reducible refine bSet ?_ (by first | exact Nat.le_refl _ | (simp; omega) | omega) _) | (with_reducible refine bThen ?_ (by with_reducible assumption))))⟩)
          | (have S2 := S
             rw [show d.low = 0 by assumption] at S2
             with_reducible refine (S2 _ hTr).mono ?_
             rintro _ w5 ⟨rfl, hb5⟩
             clear t0 t1 t2 t3 t4 t5 t6 t7 t8 t9 t10 t11 t12 t13 lt0 HDra HDrb HDrc HDrd HDre HDrf HDrg HDrl
             replace HDr := HDr.below' hb5
             replace hBr := bThen hBr hb5
             have HDra := (HDr).cell 0; have HDrb := (HDr).cell 1; have HDrc := (HDr).cell 2; have HDrd := (HDr).cell 3; have HDre := (HDr).cell 4; have HDrf := (HDr).cell 5; have HDrg := (HDr).cell 6; have HDrl := (HDr).lt; simp at HDra HDrb HDrc HDrd HDre HDrf HDrg
             cases s6
             all_goals go_wp2_with fail
             all_goals
               go_ret
               exact ⟨ret_int (by rw [HG.out]; simp; grind), by (repeat (first | (with_reducible exact hBr) | (with_reducible refine bAlloc ?_ _) | (with_reducible refine bDrewN ?_ _) | (with_reducible refine bDrew ?_) | (with_reducible refine bSet ?_ (by first | exact Nat.le_refl _ | (simp; omega) | omega) _) | (with_reducible refine bThen ?_ (by with_reducible assumption))))⟩)
          | (go_ret
             exact ⟨ret_int (by rw [HG.out]; grind), hBr⟩)
          | fail
    | some q =>
      obtain ⟨b, off, x⟩ := q
      simp only [Option.map_some]
      have hx := keep hB (ho b off x rfl)
      have L := fun W => cweek_calls x.day W
      simp only [Option.map_some, lateB, Bool.or_eq_false_iff, decide_eq_false_iff_not] at hlate
      obtain ⟨h1, h2⟩ := hlate
      have h1' : decide (d.day ≤ x.day) = false := by simpa using h1
      generalize weekF d.day = wd at *
      generalize weekF x.day = wx at *
      go_enter Try.func101, Try.ntmps101
      go_wp2_with fail
      generalize (w.alloc (.cells (tr.cells m) 27)).alloc _ = w2 at *
      have HDa := (HD).cell 0; have HDb := (HD).cell 1; have HDc := (HD).cell 2; have HDd := (HD).cell 3; have HDe := (HD).cell 4; have HDf := (HD).cell 5; have HDg := (HD).cell 6; have HDl := (HD).lt; simp at HDa HDb HDc HDd HDe HDf HDg
      have ltx := HX.lt
      have lto := World.block_lt_of_cell? _ _ hx
      (refine wp_region_calm_lit (by kernel_rfl) (by kernel_rfl) ?_; (repeat (go_big_quiet_step (first | (go_at_call 68; with_reducible exact Calls.calm (K _)) | (go_at_call 68; with_reducible exact Calls.calm (L _))))); refine wpQuiet_nil ?_; intro _ hw'; obtain ⟨nq, hw''⟩ := hw'; subst hw'')
      have hwe := World.below_ext w2 nq
      have hB2 := bThen hB hwe
      have HX2 := HX.below' hwe
      have HD2 := HD.below' hwe
      have hT2 := hT.keep hwe
      clear hwe hx lto hT HX HD HDa HDb HDc HDd HDe HDf HDg HDl ltx
      generalize w2.ext nq = w3 at *
      clear hB
      have HD2a := (HD2).cell 0; have HD2b := (HD2).cell 1; have HD2c := (HD2).cell 2; have HD2d := (HD2).cell 3; have HD2e := (HD2).cell 4; have HD2f := (HD2).cell 5; have HD2g := (HD2).cell 6; have HD2l := (HD2).lt; simp at HD2a HD2b HD2c HD2d HD2e HD2f HD2g
      have ltx := HX2.lt
      go_wp2_with fail
      have HL := Box.new w3 #[.int .i64 d.rail, .int .i64 d.bus, .int .i64 d.capped, .int .i64 d.most] 3
      have hz := bAlloc (Below.refl w3.heap.size w3) (.cells #[.int .i64 d.rail, .int .i64 d.bus, .int .i64 d.capped, .int .i64 d.most] 3)
      replace HX2 := HX2.below' hz
      replace HD2 := HD2.below' hz
      replace hT2 := hT2.keep hz
      replace hB2 := bThen hB2 hz
      clear HD2a HD2b HD2c HD2d HD2e HD2f HD2g HD2l ltx hz
      generalize hb9 : w3.heap.size = b9 at *
      have HB9 := Lib.hid hb9
      clear hb9
      generalize (w3.alloc (.cells #[.int .i64 d.rail, .int .i64 d.bus, .int .i64 d.capped, .int .i64 d.most] 3)) = w9 at *
      go_loopw [43] (fun i wr => ∃ k : Nat, k ≤ 4 ∧ i = .int .i64 k ∧ Below w9.heap.size w9 wr ∧ Hid (([d.rail, d.bus, d.capped, d.most].take k).all sumB = true)) (fun i _ => 4 - (intOf i).toNat)
      case atStart => exact ⟨0, by omega, rfl, Below.refl _ _, rfl⟩
      case round =>
        obtain ⟨k, hk, rfl, hbr, hall⟩ := hrel
        have HLr := HL.below' hbr
        by_cases hlt : k < 4
        · have l0 : wr.cell? ⟨b9, 0, none⟩ = some (.int .i64 d.rail) := HLr.cell 0
          have l1 : wr.cell? ⟨b9, 1, none⟩ = some (.int .i64 d.bus) := HLr.cell 1
          have l2 : wr.cell? ⟨b9, 2, none⟩ = some (.int .i64 d.capped) := HLr.cell 2
          have l3 : wr.cell? ⟨b9, 3, none⟩ = some (.int .i64 d.most) := HLr.cell 3
          have ltl := HLr.lt
          have hcase : k = 0 ∨ k = 1 ∨ k = 2 ∨ k = 3 := by omega
          rcases hcase with rfl | rfl | rfl | rfl
          · go_wp2_with fail
            all_goals first
            | (go_ret
               exact ⟨ret_int (badG_50 (by simp [sumB]; omega)).symm, bThen hB2 hbr⟩)
            | (go_roundw
               case rel => exact ⟨0 + 1, by omega, by go_num, hbr, all_snoc (by simp) hall.out (by simp [sumB]; omega)⟩
               case measure => simp [intOf])
            | fail
          · go_wp2_with fail
            all_goals first
            | (go_ret
               exact ⟨ret_int (badG_50 (by simp [sumB]; omega)).symm, bThen hB2 hbr⟩)
            | (go_roundw
               case rel => exact ⟨1 + 1, by omega, by go_num, hbr, all_snoc (by simp) hall.out (by simp [sumB]; omega)⟩
               case measure => simp [intOf])
            | fail
          · go_wp2_with fail
            all_goals first
            | (go_ret
               exact ⟨ret_int (badG_50 (by simp [sumB]; omega)).symm, bThen hB2 hbr⟩)
            | (go_roundw
               case rel => exact ⟨2 + 1, by omega, by go_num, hbr, all_snoc (by simp) hall.out (by simp [sumB]; omega)⟩
               case measure => simp [intOf])
            | fail
          · go_wp2_with fail
            all_goals first
            | (go_ret
               exact ⟨ret_int (badG_50 (by simp [sumB]; omega)).symm, bThen hB2 hbr⟩)
            | (go_roundw
               case rel => exact ⟨3 + 1, by omega, by go_num, hbr, all_snoc (by simp) hall.out (by simp [sumB]; omega)⟩
               case measure => simp [intOf])
            | fail
        · obtain rfl : k = 4 := by omega
          have hs := hall.out
          simp at hs
          have hg := badG_go (has := s6) (d := d) ⟨hs.1, hs.2.1, hs.2.2.1, hs.2.2.2⟩
          have HG := Lib.hid hg
          clear hg hs hall
          have HDr := HD2.below' hbr
          have HXr := HX2.below' hbr
          have hTr := hT2.keep hbr
          have hBr := bThen hB2 hbr
          clear HD2 HX2 hT2 hB2 HLr HL
          obtain ⟨t0, t1, t2, t3, t4, t5, t6, t7, t8, t9, t10, t11, t12, t13⟩ := tcells HXr
          have lt0 := HXr.lt
          have HDra := (HDr).cell 0; have HDrb := (HDr).cell 1; have HDrc := (HDr).cell 2; have HDrd := (HDr).cell 3; have HDre := (HDr).cell 4; have HDrf := (HDr).cell 5; have HDrg := (HDr).cell 6; have HDrl := (HDr).lt; simp at HDra HDrb HDrc HDrd HDre HDrf HDrg
          go_wp2_with fail
          all_goals first
          | (with_reducible refine (S _ hTr).mono ?_
             rintro _ w5 ⟨rfl, hb5⟩
             clear t0 t1 t2 t3 t4 t5 t6 t7 t8 t9 t10 t11 t12 t13 lt0 HDra HDrb HDrc HDrd HDre HDrf HDrg HDrl
             replace HDr := HDr.below' hb5
             replace hBr := bThen hBr hb5
             have HDra := (HDr).cell 0; have HDrb := (HDr).cell 1; have HDrc := (HDr).cell 2; have HDrd := (HDr).cell 3; have HDre := (HDr).cell 4; have HDrf := (HDr).cell 5; have HDrg := (HDr).cell 6; have HDrl := (HDr).lt; simp at HDra HDrb HDrc HDrd HDre HDrf HDrg
             cases s6
             all_goals go_wp2_with fail
             all_goals
               go_ret
               exact ⟨ret_int (by rw [HG.out]; simp; grind), by (repeat (first | (with_reducible exact hBr) | (with_reducible refine bAlloc ?_ _) | (with_reducible refine bDrewN ?_ _) | (with_reducible refine bDrew ?_) | (with_reducible refine bSet ?_ (by first | exact Nat.le_refl _ | (simp; omega) | omega) _) | (with_reducible refine bThen ?_ (by with_reducible assumption))))⟩)
          | (have S2 := S
             rw [show d.low = 0 by assumption] at S2
             with_reducible refine (S2 _ hTr).mono ?_
             rintro _ w5 ⟨rfl, hb5⟩
             clear t0 t1 t2 t3 t4 t5 t6 t7 t8 t9 t10 t11 t12 t13 lt0 HDra HDrb HDrc HDrd HDre HDrf HDrg HDrl
             replace HDr := HDr.below' hb5
             replace hBr := bThen hBr hb5
             have HDra := (HDr).cell 0; have HDrb := (HDr).cell 1; have HDrc := (HDr).cell 2; have HDrd := (HDr).cell 3; have HDre := (HDr).cell 4; have HDrf := (HDr).cell 5; have HDrg := (HDr).cell 6; have HDrl := (HDr).lt; simp at HDra HDrb HDrc HDrd HDre HDrf HDrg
             cases s6
             all_goals go_wp2_with fail
             all_goals
               go_ret
               exact ⟨ret_int (by rw [HG.out]; simp; grind), by (repeat (first | (with_reducible exact hBr) | (with_reducible refine bAlloc ?_ _) | (with_reducible refine bDrewN ?_ _) | (with_reducible refine bDrew ?_) | (with_reducible refine bSet ?_ (by first | exact Nat.le_refl _ | (simp; omega) | omega) _) | (with_reducible refine bThen ?_ (by with_reducible assumption))))⟩)
          | (go_ret
             exact ⟨ret_int (by rw [HG.out]; grind), hBr⟩)
          | fail
  · rw [bad_late hlate]
    cases o with
    | none => simp [lateB] at hlate
    | some q =>
      obtain ⟨b, off, x⟩ := q
      simp only [Option.map_some]
      have hx := keep hB (ho b off x rfl)
      have L := fun W => cweek_calls x.day W
      simp only [Option.map_some, lateB] at hlate
      cases h1 : decide (d.day ≤ x.day)
      · rw [h1, Bool.false_or] at hlate
        generalize weekF d.day = wd at *
        generalize weekF x.day = wx at *
        go_enter Try.func101, Try.ntmps101
        go_wp2_with fail
        generalize (w.alloc (.cells (tr.cells m) 27)).alloc _ = w2 at *
        have HDa := (HD).cell 0; have HDb := (HD).cell 1; have HDc := (HD).cell 2; have HDd := (HD).cell 3; have HDe := (HD).cell 4; have HDf := (HD).cell 5; have HDg := (HD).cell 6; have HDl := (HD).lt; simp at HDa HDb HDc HDd HDe HDf HDg
        have ltx := HX.lt
        have lto := World.block_lt_of_cell? _ _ hx
        (refine wp_region_calm_lit (by kernel_rfl) (by kernel_rfl) ?_; (repeat (go_big_quiet_step (first | (go_at_call 68; with_reducible exact Calls.calm (K _)) | (go_at_call 68; with_reducible exact Calls.calm (L _))))); refine wpQuiet_nil ?_; intro _ hw'; obtain ⟨nq, hw''⟩ := hw'; subst hw'')
        go_wp2_with fail
        go_ret
        exact ⟨rfl, bThen hB (World.below_ext _ _)⟩
      · go_enter Try.func101, Try.ntmps101
        go_wp2_with fail
        generalize (w.alloc (.cells (tr.cells m) 27)).alloc _ = w2 at *
        have HDa := (HD).cell 0; have HDb := (HD).cell 1; have HDc := (HD).cell 2; have HDd := (HD).cell 3; have HDe := (HD).cell 4; have HDf := (HD).cell 5; have HDg := (HD).cell 6; have HDl := (HD).lt; simp at HDa HDb HDc HDd HDe HDf HDg
        have ltx := HX.lt
        have lto := World.block_lt_of_cell? _ _ hx
        (refine wp_region_calm_lit (by kernel_rfl) (by kernel_rfl) ?_; (repeat (go_big_quiet_step (fail))); refine wpQuiet_nil ?_; intro _ hw'; obtain ⟨nq, hw''⟩ := hw'; subst hw'')
        go_wp2_with fail
        go_ret
        exact ⟨rfl, bThen hB (World.below_ext _ _)⟩
end Go.Proofs.Ytmeogadkbbeglaa
end
section
namespace Go.Proofs.Ytmeogadkbbeglaa
open Go.RowKit
theorem ok_prices {t : Tariff} (h : rightF t = 0) : (0 ≤ t.bus ∧ t.bus ≤ 1048576) ∧ (0 ≤ t.busDaily ∧ t.busDaily ≤ 1048576) ∧ (0 ≤ t.busWeekly ∧ t.busWeekly ≤ 1048576) ∧ (0 ≤ t.most ∧ t.most ≤ 1048576) := by
  have := (right_ok h).1.1.1.1.1.1.2
  simp [pricesB, priceB, inB] at this
  omega
end Go.Proofs.Ytmeogadkbbeglaa
end
section
namespace Go.Proofs.Ytmeogadkbbeglaa
set_option linter.unusedSimpArgs false
set_option linter.unusedVariables false
theorem stGo_mem : ∀ {l : List Station} {m a : Int} {k : Int}, stGo l m a = some k → ∀ s ∈ l, (1 ≤ s.zone ∧ s.zone ≤ 9) ∧ s.zone ≤ k
  | [], m, a, k, h, s, hs => by simp at hs
  | x :: r, m, a, k, h, s, hs => by
    simp only [stGo] at h
    split at h
    · rename_i hok
      have hle : ∀ {l : List Station} {m a k : Int}, stGo l m a = some k → m ≤ k := by
        intro l
        induction l with
        | nil => intro m a k h; simp only [stGo, Option.some.injEq] at h; omega
        | cons y q ih =>
          intro m a k h
          simp only [stGo] at h
          split at h
          · have := ih h; split at this <;> omega
          · cases h
      have h1 := hle h
      rcases List.mem_cons.1 hs with rfl | hs
      · simp [stOk, inB] at hok
        refine ⟨by omega, ?_⟩
        split at h1 <;> omega
      · exact stGo_mem h s hs
    · cases h
theorem right_lists {t : Tariff} (h : rightF t = 0) : ∃ most, stationsF t.st = some most ∧ spansF t.sp most = true ∧ t.sp.all spPrice = true ∧ pricesB t = true ∧ t.sp.all (fun a => t.sp.all (fun b => wide1 a b)) = true := by
  unfold rightF at h
  cases hs : stationsF t.st with
  | none => simp [hs] at h
  | some most =>
    simp only [hs] at h
    refine ⟨most, rfl, ?_⟩
    cases h1 : spansF t.sp most
    · simp [h1] at h
    cases h2 : pricesB t
    · simp [h1, h2] at h
    cases h3 : t.sp.all spPrice
    · simp [h1, h2, h3] at h
    cases h4 : t.sp.all (fun a => t.sp.all (fun b => wide1 a b))
    · simp only [h1, h2, h3, h4] at h; simp at h
    simp
theorem st_zone {t : Tariff} (h : rightF t = 0) {id : Int} {s : Station} (hs : stFind t.st id = some s) : 1 ≤ s.zone := by
  obtain ⟨most, h1, -⟩ := right_lists h
  unfold stationsF at h1
  split at h1
  · exact (stGo_mem h1 s (List.mem_of_find?_eq_some hs)).1.1
  · cases h1
theorem zWith_pos {z : Int × Int} (hz : 0 ≤ z.1) {a b : Int} (ha : 1 ≤ a) : 1 ≤ (zWith z a b).1 := by
  obtain ⟨z1, z2⟩ := z
  simp only at hz
  unfold zWith mn
  grind
end Go.Proofs.Ytmeogadkbbeglaa
end
section
namespace Go.Proofs.Ytmeogadkbbeglaa
set_option linter.unusedSimpArgs false
set_option linter.unusedVariables false
/-- zones as they may be -/
def ZOk (t : Tariff) (z1 z2 : Int) : Prop := (z1 = 0 ∧ z2 = 0) ∨ (1 ≤ z1 ∧ z1 ≤ z2 ∧ ∃ most, stationsF t.st = some most ∧ z2 ≤ most)
theorem ZOk.step {t : Tariff} {z1 z2 lo hi : Int} (h : ZOk t z1 z2) (k : ZOk t lo hi) : ZOk t (zWith (z1, z2) lo hi).1 (zWith (z1, z2) lo hi).2 := by
  unfold zWith
  rcases k with ⟨k1, k2⟩ | ⟨k1, k2, most, k3, k4⟩
  · rw [if_pos k1]; exact h
  · rw [if_neg (by omega)]
    rcases h with ⟨h1, h2⟩ | ⟨h1, h2, most', h3, h4⟩
    · rw [if_pos h1]; exact .inr ⟨k1, k2, most, k3, k4⟩
    · rw [if_neg (by simp only; omega)]
      rw [k3] at h3
      cases h3
      right
      simp only [mn, mx]
      refine ⟨by split <;> omega, by split <;> split <;> omega, most, k3, by split <;> omega⟩
theorem ZOk.of_st {t : Tariff} (hr : rightF t = 0) {i k : Int} {a b : Station} (ha : stFind t.st i = some a) (hb : stFind t.st k = some b) : ZOk t (mn a.zone b.zone) (mx a.zone b.zone) := by
  obtain ⟨most, h1, -⟩ := right_lists hr
  have h1' := h1
  unfold stationsF at h1
  split at h1
  · have x := stGo_mem h1 a (List.mem_of_find?_eq_some ha)
    have y := stGo_mem h1 b (List.mem_of_find?_eq_some hb)
    right
    simp only [mn, mx]
    refine ⟨by split <;> omega, by split <;> omega, most, h1', by split <;> omega⟩
  · cases h1
/-- what holds all along a day -/
structure DInv (t : Tariff) (a : DAcc) : Prop where
  z : ZOk t a.z1 a.z2
  none : a.z1 = 0 → a.rail = 0
theorem DInv.step {t : Tariff} (hr : rightF t = 0) {day : Int} {a : DAcc} {p : Priced} (h : DInv t a) (h0 : (dayStep t day a p).1 = 0) : DInv t (dayStep t day a p).2 := by
  unfold dayStep at h0 ⊢
  by_cases h1 : p.j.kind < 1 ∨ 4 < p.j.kind
  · rw [if_pos h1] at h0; exact absurd h0 (by simp)
  rw [if_neg h1] at h0 ⊢
  by_cases h2 : p.fare < 0 ∨ 1048576 < p.fare
  · rw [if_pos h2] at h0; exact absurd h0 (by simp)
  rw [if_neg h2] at h0 ⊢
  by_cases h3 : timeB p.j.start = false ∨ dayF p.j.start ≠ day
  · rw [if_pos h3] at h0; exact absurd h0 (by simp)
  rw [if_neg h3] at h0 ⊢
  by_cases h4 : p.j.kind = 4
  · rw [if_pos h4]; exact ⟨h.z, h.none⟩
  rw [if_neg h4] at h0 ⊢
  by_cases h5 : p.j.kind ≠ 1
  · rw [if_pos h5]; exact ⟨h.z, h.none⟩
  rw [if_neg h5] at h0 ⊢
  split
  · rename_i x y hx hy
    have hz := ZOk.of_st hr hx hy
    refine ⟨h.z.step hz, fun e => ?_⟩
    exfalso
    have hz0 : 0 ≤ a.z1 := by rcases h.z with ⟨e, -⟩ | ⟨e, -⟩ <;> omega
    have h1 : 1 ≤ mn x.zone y.zone := by
      have := st_zone hr hx
      have := st_zone hr hy
      unfold mn; split <;> omega
    have := zWith_pos (z := (a.z1, a.z2)) (b := mx x.zone y.zone) hz0 h1
    simp only at e
    omega
  · rename_i hno
    split at h0
    · rename_i x y hx hy
      exact absurd hy (hno x y hx)
    · exact absurd h0 (by simp)
theorem spanOf_range {t : Tariff} (hr : rightF t = 0) (z : Int × Int) : (0 ≤ spanOf t z Span.daily ∧ spanOf t z Span.daily ≤ 1048576) ∧ (0 ≤ spanOf t z Span.weekly ∧ spanOf t z Span.weekly ≤ 1048576) := by
  unfold spanOf
  cases h : spFind t.sp z.1 z.2 with
  | none => simp
  | some s =>
    obtain ⟨-, h1, h2⟩ := ok_price hr (find_mem h).1
    simp [priceB, inB] at h1 h2
    exact ⟨h1, h2⟩
/-- days of one week, one behind the other, from a day on -/
def InWeek (w : Int) : Int → List DayC → Prop
  | _, [] => True
  | i, d :: r => i ≤ d.day ∧ d.day ≤ 7 * w + 6 ∧ InWeek w (d.day + 1) r
theorem InWeek.len {w : Int} : ∀ {i : Int} {l : List DayC}, InWeek w i l → l ≠ [] → i + l.length ≤ 7 * w + 7
  | i, [], h, hn => absurd rfl hn
  | i, [d], h, hn => by have := h.1; have := h.2.1; simp; omega
  | i, d :: e :: r, h, hn => by
    have := InWeek.len h.2.2 (by simp)
    have := h.1
    simp only [List.length_cons] at *
    omega
end Go.Proofs.Ytmeogadkbbeglaa
end
