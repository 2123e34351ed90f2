/- What the claim's walk leans on: W19d, U19, U19h, W19e. -/
import Derived.Test.YtmeogadkbbeglaaK5
import Derived.Test.YtmeogadkbbeglaaK6
section
namespace Go.Proofs.Ytmeogadkbbeglaa
open Go.RowKit Go.Proofs.YtmeogadkbbeglaaQ
set_option maxHeartbeats 3200000
set_option maxRecDepth 100000
/-- bad's answer behind its first test -/
def badG (has : Bool) (d : DayC) : Int :=
  if (sumB d.rail && (sumB d.bus && (sumB d.capped && sumB d.most))) = false then 50
  else if d.capped < d.bus then 50
  else if d.low = 0 ∧ d.high = 0 then 0
  else if has = false ∨ d.low < 1 ∨ d.high < d.low then 1
  else 0
theorem bad_late {t : Tariff} {d : DayC} {o : Option DayC} (h : lateB d o = true) : badF t d o = 60 := by simp [badF, h]
theorem bad_rest {t : Tariff} {d : DayC} {o : Option DayC} (h : lateB d o = false) : badF t d o = badG (spFind t.sp d.low d.high).isSome d := by simp [badF, badG, h]
theorem spOut_has (o : Option Span) : (spOut o).2.2.2.2.2 = o.isSome := by cases o <;> rfl
theorem spRes_out (o : Option Span) : spRes o = .tuple #[.agg #[.int .i64 (spOut o).1, .int .i64 (spOut o).2.1, .int .i64 (spOut o).2.2.1, .int .i64 (spOut o).2.2.2.1, .int .i64 (spOut o).2.2.2.2.1], .bool (spOut o).2.2.2.2.2] := by cases o <;> rfl
theorem cweek_calls (d : Int) (W : World) : Calls Try.prog 68 #[.int .i64 d] W fun e w' => e = .returned (.int .i64 (weekF d)) ∧ Below W.heap.size W w' :=
  (clock_Week.calls d (weekF d) W (cweek_f d)).mono fun _ _ h => ⟨h.1, h.2.below⟩
theorem badG_50 {has : Bool} {d : DayC} (h : sumB d.rail = false ∨ sumB d.bus = false ∨ sumB d.capped = false ∨ sumB d.most = false) : badG has d = 50 := by
  unfold badG
  rw [if_pos (by rcases h with h | h | h | h <;> simp [h])]
theorem badG_go {has : Bool} {d : DayC} (h : sumB d.rail = true ∧ sumB d.bus = true ∧ sumB d.capped = true ∧ sumB d.most = true) : badG has d = if d.capped < d.bus then 50
  else if d.low = 0 ∧ d.high = 0 then 0
  else if has = false ∨ d.low < 1 ∨ d.high < d.low then 1
  else 0 := by
  unfold badG
  rw [if_neg (by simp [h])]
theorem bad_calls (tr : Tariff) (m : TMem) (d : DayC) (o : Option (Nat × Nat × DayC)) (w : World) (hT : tr.At w m) (ho : ∀ b off x, o = some (b, off, x) → w.cell? ⟨b, off, none⟩ = some (.int .i64 x.day)) :
    Calls Try.prog 101 #[.agg (tr.cells m), .agg #[.int .i64 (d).day, .int .i64 (d).rail, .int .i64 (d).bus, .int .i64 (d).capped, .int .i64 (d).most, .int .i64 (d).low, .int .i64 (d).high], .pointer (o.map fun q => ⟨q.1, q.2.1, none⟩)] w fun e w' => e = .returned (.int .i64 (badF tr d (o.map fun q => q.2.2))) ∧ Below w.heap.size w w' := by
  have HX := (Box.new w (tr.cells m) 27).alloc (.cells #[.int .i64 (d).day, .int .i64 (d).rail, .int .i64 (d).bus, .int .i64 (d).capped, .int .i64 (d).most, .int .i64 (d).low, .int .i64 (d).high] 57)
  have HD := Box.new' (w := w.alloc (.cells (tr.cells m) 27)) (b := w.heap.size + 1) (by simp) #[.int .i64 (d).day, .int .i64 (d).rail, .int .i64 (d).bus, .int .i64 (d).capped, .int .i64 (d).most, .int .i64 (d).low, .int .i64 (d).high] 57
  have hB := bAlloc (bAlloc (Below.refl w.heap.size w) (.cells (tr.cells m) 27)) (.cells #[.int .i64 (d).day, .int .i64 (d).rail, .int .i64 (d).bus, .int .i64 (d).capped, .int .i64 (d).most, .int .i64 (d).low, .int .i64 (d).high] 57)
  replace hT := hT.keep hB
  have K := fun W => cweek_calls d.day W
  cases hlate : lateB d (o.map fun q => q.2.2)
  · rw [bad_rest hlate]
    have S := fun W h => span_calls tr m d.low d.high W h
    rw [spRes_out] at S
    have eh := spOut_has (spFind tr.sp d.low d.high)
    rw [← eh]
    clear eh
    generalize spOut (spFind tr.sp d.low d.high) = so at *
    obtain ⟨s1, s2, s3, s4, s5, s6⟩ := so
    simp only at S ⊢
    cases o with
    | none =>
      simp only [Option.map_none]
      go_enter Try.func101, Try.ntmps101
      go_wp2_with fail
      generalize (w.alloc (.cells (tr.cells m) 27)).alloc _ = w2 at *
      have HDa := (HD).cell 0; have HDb := (HD).cell 1; have HDc := (HD).cell 2; have HDd := (HD).cell 3; have HDe := (HD).cell 4; have HDf := (HD).cell 5; have HDg := (HD).cell 6; have HDl := (HD).lt; simp at HDa HDb HDc HDd HDe HDf HDg
      have ltx := HX.lt
      (refine wp_region_calm_lit (by kernel_rfl) (by kernel_rfl) ?_; (repeat (go_big_quiet_step (fail))); refine wpQuiet_nil ?_; intro _ hw'; obtain ⟨nq, hw''⟩ := hw'; subst hw'')
      have hwe := World.below_ext w2 nq
      have hB2 := bThen hB hwe
      have HX2 := HX.below' hwe
      have HD2 := HD.below' hwe
      have hT2 := hT.keep hwe
      clear hwe hT HX HD HDa HDb HDc HDd HDe HDf HDg HDl ltx
      generalize w2.ext nq = w3 at *
      clear hB
      have HD2a := (HD2).cell 0; have HD2b := (HD2).cell 1; have HD2c := (HD2).cell 2; have HD2d := (HD2).cell 3; have HD2e := (HD2).cell 4; have HD2f := (HD2).cell 5; have HD2g := (HD2).cell 6; have HD2l := (HD2).lt; simp at HD2a HD2b HD2c HD2d HD2e HD2f HD2g
      have ltx := HX2.lt
      go_wp2_with fail
      have HL := Box.new w3 #[.int .i64 d.rail, .int .i64 d.bus, .int .i64 d.capped, .int .i64 d.most] 3
      have hz := bAlloc (Below.refl w3.heap.size w3) (.cells #[.int .i64 d.rail, .int .i64 d.bus, .int .i64 d.capped, .int .i64 d.most] 3)
      replace HX2 := HX2.below' hz
      replace HD2 := HD2.below' hz
      replace hT2 := hT2.keep hz
      replace hB2 := bThen hB2 hz
      clear HD2a HD2b HD2c HD2d HD2e HD2f HD2g HD2l ltx hz
      generalize hb9 : w3.heap.size = b9 at *
      have HB9 := Lib.hid hb9
      clear hb9
      generalize (w3.alloc (.cells #[.int .i64 d.rail, .int .i64 d.bus, .int .i64 d.capped, .int .i64 d.most] 3)) = w9 at *
      go_loopw [43] (fun i wr => ∃ k : Nat, k ≤ 4 ∧ i = .int .i64 k ∧ Below w9.heap.size w9 wr ∧ Hid (([d.rail, d.bus, d.capped, d.most].take k).all sumB = true)) (fun i _ => 4 - (intOf i).toNat)
      case atStart => exact ⟨0, by omega, rfl, Below.refl _ _, rfl⟩
      case round =>
        obtain ⟨k, hk, rfl, hbr, hall⟩ := hrel
        have HLr := HL.below' hbr
        by_cases hlt : k < 4
        · have l0 : wr.cell? ⟨b9, 0, none⟩ = some (.int .i64 d.rail) := HLr.cell 0
          have l1 : wr.cell? ⟨b9, 1, none⟩ = some (.int .i64 d.bus) := HLr.cell 1
          have l2 : wr.cell? ⟨b9, 2, none⟩ = some (.int .i64 d.capped) := HLr.cell 2
          have l3 : wr.cell? ⟨b9, 3, none⟩ = some (.int .i64 d.most) := HLr.cell 3
          have ltl := HLr.lt
          have hcase : k = 0 ∨ k = 1 ∨ k = 2 ∨ k = 3 := by omega
          rcases hcase with rfl | rfl | rfl | rfl
          · go_wp2_with fail
            all_goals first
            | (go_ret
               exact ⟨ret_int (badG_50 (by simp [sumB]; omega)).symm, bThen hB2 hbr⟩)
            | (go_roundw
               case rel => exact ⟨0 + 1, by omega, by go_num, hbr, all_snoc (by simp) hall.out (by simp [sumB]; omega)⟩
               case measure => simp [intOf])
            | fail
          · go_wp2_with fail
            all_goals first
            | (go_ret
               exact ⟨ret_int (badG_50 (by simp [sumB]; omega)).symm, bThen hB2 hbr⟩)
            | (go_roundw
               case rel => exact ⟨1 + 1, by omega, by go_num, hbr, all_snoc (by simp) hall.out (by simp [sumB]; omega)⟩
               case measure => simp [intOf])
            | fail
          · go_wp2_with fail
            all_goals first
            | (go_ret
               exact ⟨ret_int (badG_50 (by simp [sumB]; omega)).symm, bThen hB2 hbr⟩)
            | (go_roundw
               case rel => exact ⟨2 + 1, by omega, by go_num, hbr, all_snoc (by simp) hall.out (by simp [sumB]; omega)⟩
               case measure => simp [intOf])
            | fail
          · go_wp2_with fail
            all_goals first
            | (go_ret
               exact ⟨ret_int (badG_50 (by simp [sumB]; omega)).symm, bThen hB2 hbr⟩)
            | (go_roundw
               case rel => exact ⟨3 + 1, by omega, by go_num, hbr, all_snoc (by simp) hall.out (by simp [sumB]; omega)⟩
               case measure => simp [intOf])
            | fail
        · obtain rfl : k = 4 := by omega
          have hs := hall.out
          simp at hs
          have hg := badG_go (has := s6) (d := d) ⟨hs.1, hs.2.1, hs.2.2.1, hs.2.2.2⟩
          have HG := Lib.hid hg
          clear hg hs hall
          have HDr := HD2.below' hbr
          have HXr := HX2.below' hbr
          have hTr := hT2.keep hbr
          have hBr := bThen hB2 hbr
          clear HD2 HX2 hT2 hB2 HLr HL
          obtain ⟨t0, t1, t2, t3, t4, t5, t6, t7, t8, t9, t10, t11, t12, t13⟩ := tcells HXr
          have lt0 := HXr.lt
          have HDra := (HDr).cell 0; have HDrb := (HDr).cell 1; have HDrc := (HDr).cell 2; have HDrd := (HDr).cell 3; have HDre := (HDr).cell 4; have HDrf := (HDr).cell 5; have HDrg := (HDr).cell 6; have HDrl := (HDr).lt; simp at HDra HDrb HDrc HDrd HDre HDrf HDrg
          go_wp2_with fail
          all_goals first
          | (with_reducible refine (S _ hTr).mono ?_
             rintro _ w5 ⟨rfl, hb5⟩
             clear t0 t1 t2 t3 t4 t5 t6 t7 t8 t9 t10 t11 t12 t13 lt0 HDra HDrb HDrc HDrd HDre HDrf HDrg HDrl
             replace HDr := HDr.below' hb5
             replace hBr := bThen hBr hb5
             have HDra := (HDr).cell 0; have HDrb := (HDr).cell 1; have HDrc := (HDr).cell 2; have HDrd := (HDr).cell 3; have HDre := (HDr).cell 4; have HDrf := (HDr).cell 5; have HDrg := (HDr).cell 6; have HDrl := (HDr).lt; simp at HDra HDrb HDrc HDrd HDre HDrf HDrg
             cases s6
             all_goals go_wp2_with fail
             all_goals
               go_ret
               exact ⟨ret_int (by rw [HG.out]; simp; grind), by (repeat (first | (with_reducible exact hBr) | (with_reducible refine bAlloc ?_ _) | (with_reducible refine bDrewN ?_ _) | (with_reducible refine bDrew ?_) | (with_reducible refine bSet ?_ (by first | exact Nat.le_refl _ | (simp; omega) | omega) _) | (with_reducible refine bThen ?_ (by with_reducible assumption))))⟩)
          | (have S2 := S
             rw [show d.low = 0 by assumption] at S2
             with_reducible refine (S2 _ hTr).mono ?_
             rintro _ w5 ⟨rfl, hb5⟩
             clear t0 t1 t2 t3 t4 t5 t6 t7 t8 t9 t10 t11 t12 t13 lt0 HDra HDrb HDrc HDrd HDre HDrf HDrg HDrl
             replace HDr := HDr.below' hb5
             replace hBr := bThen hBr hb5
             have HDra := (HDr).cell 0; have HDrb := (HDr).cell 1; have HDrc := (HDr).cell 2; have HDrd := (HDr).cell 3; have HDre := (HDr).cell 4; have HDrf := (HDr).cell 5; have HDrg := (HDr).cell 6; have HDrl := (HDr).lt; simp at HDra HDrb HDrc HDrd HDre HDrf HDrg
             cases s6
             all_goals go_wp2_with fail
             all_goals
               go_ret
               exact ⟨ret_int (by rw [HG.out]; simp; grind), by (repeat (first | (with_reducible exact hBr) | (with_reducible refine bAlloc ?_ _) | (with_reducible refine bDrewN ?_ _) | (with_reducible refine bDrew ?_) | (with_reducible refine bSet ?_ (by first | exact Nat.le_refl _ | (simp; omega) | omega) _) | (with_reducible refine bThen ?_ (by with_reducible assumption))))⟩)
          | (go_ret
             exact ⟨ret_int (by rw [HG.out]; grind), hBr⟩)
          | fail
    | some q =>
      obtain ⟨b, off, x⟩ := q
      simp only [Option.map_some]
      have hx := keep hB (ho b off x rfl)
      have L := fun W => cweek_calls x.day W
      simp only [Option.map_some, lateB, Bool.or_eq_false_iff, decide_eq_false_iff_not] at hlate
      obtain ⟨h1, h2⟩ := hlate
      have h1' : decide (d.day ≤ x.day) = false := by simpa using h1
      generalize weekF d.day = wd at *
      generalize weekF x.day = wx at *
      go_enter Try.func101, Try.ntmps101
      go_wp2_with fail
      generalize (w.alloc (.cells (tr.cells m) 27)).alloc _ = w2 at *
      have HDa := (HD).cell 0; have HDb := (HD).cell 1; have HDc := (HD).cell 2; have HDd := (HD).cell 3; have HDe := (HD).cell 4; have HDf := (HD).cell 5; have HDg := (HD).cell 6; have HDl := (HD).lt; simp at HDa HDb HDc HDd HDe HDf HDg
      have ltx := HX.lt
      have lto := World.block_lt_of_cell? _ _ hx
      (refine wp_region_calm_lit (by kernel_rfl) (by kernel_rfl) ?_; (repeat (go_big_quiet_step (first | (go_at_call 68; with_reducible exact Calls.calm (K _)) | (go_at_call 68; with_reducible exact Calls.calm (L _))))); refine wpQuiet_nil ?_; intro _ hw'; obtain ⟨nq, hw''⟩ := hw'; subst hw'')
      have hwe := World.below_ext w2 nq
      have hB2 := bThen hB hwe
      have HX2 := HX.below' hwe
      have HD2 := HD.below' hwe
      have hT2 := hT.keep hwe
      clear hwe hx lto hT HX HD HDa HDb HDc HDd HDe HDf HDg HDl ltx
      generalize w2.ext nq = w3 at *
      clear hB
      have HD2a := (HD2).cell 0; have HD2b := (HD2).cell 1; have HD2c := (HD2).cell 2; have HD2d := (HD2).cell 3; have HD2e := (HD2).cell 4; have HD2f := (HD2).cell 5; have HD2g := (HD2).cell 6; have HD2l := (HD2).lt; simp at HD2a HD2b HD2c HD2d HD2e HD2f HD2g
      have ltx := HX2.lt
      go_wp2_with fail
      have HL := Box.new w3 #[.int .i64 d.rail, .int .i64 d.bus, .int .i64 d.capped, .int .i64 d.most] 3
      have hz := bAlloc (Below.refl w3.heap.size w3) (.cells #[.int .i64 d.rail, .int .i64 d.bus, .int .i64 d.capped, .int .i64 d.most] 3)
      replace HX2 := HX2.below' hz
      replace HD2 := HD2.below' hz
      replace hT2 := hT2.keep hz
      replace hB2 := bThen hB2 hz
      clear HD2a HD2b HD2c HD2d HD2e HD2f HD2g HD2l ltx hz
      generalize hb9 : w3.heap.size = b9 at *
      have HB9 := Lib.hid hb9
      clear hb9
      generalize (w3.alloc (.cells #[.int .i64 d.rail, .int .i64 d.bus, .int .i64 d.capped, .int .i64 d.most] 3)) = w9 at *
      go_loopw [43] (fun i wr => ∃ k : Nat, k ≤ 4 ∧ i = .int .i64 k ∧ Below w9.heap.size w9 wr ∧ Hid (([d.rail, d.bus, d.capped, d.most].take k).all sumB = true)) (fun i _ => 4 - (intOf i).toNat)
      case atStart => exact ⟨0, by omega, rfl, Below.refl _ _, rfl⟩
      case round =>
        obtain ⟨k, hk, rfl, hbr, hall⟩ := hrel
        have HLr := HL.below' hbr
        by_cases hlt : k < 4
        · have l0 : wr.cell? ⟨b9, 0, none⟩ = some (.int .i64 d.rail) := HLr.cell 0
          have l1 : wr.cell? ⟨b9, 1, none⟩ = some (.int .i64 d.bus) := HLr.cell 1
          have l2 : wr.cell? ⟨b9, 2, none⟩ = some (.int .i64 d.capped) := HLr.cell 2
          have l3 : wr.cell? ⟨b9, 3, none⟩ = some (.int .i64 d.most) := HLr.cell 3
          have ltl := HLr.lt
          have hcase : k = 0 ∨ k = 1 ∨ k = 2 ∨ k = 3 := by omega
          rcases hcase with rfl | rfl | rfl | rfl
          · go_wp2_with fail
            all_goals first
            | (go_ret
               exact ⟨ret_int (badG_50 (by simp [sumB]; omega)).symm, bThen hB2 hbr⟩)
            | (go_roundw
               case rel => exact ⟨0 + 1, by omega, by go_num, hbr, all_snoc (by simp) hall.out (by simp [sumB]; omega)⟩
               case measure => simp [intOf])
            | fail
          · go_wp2_with fail
            all_goals first
            | (go_ret
               exact ⟨ret_int (badG_50 (by simp [sumB]; omega)).symm, bThen hB2 hbr⟩)
            | (go_roundw
               case rel => exact ⟨1 + 1, by omega, by go_num, hbr, all_snoc (by simp) hall.out (by simp [sumB]; omega)⟩
               case measure => simp [intOf])
            | fail
          · go_wp2_with fail
            all_goals first
            | (go_ret
               exact ⟨ret_int (badG_50 (by simp [sumB]; omega)).symm, bThen hB2 hbr⟩)
            | (go_roundw
               case rel => exact ⟨2 + 1, by omega, by go_num, hbr, all_snoc (by simp) hall.out (by simp [sumB]; omega)⟩
               case measure => simp [intOf])
            | fail
          · go_wp2_with fail
            all_goals first
            | (go_ret
               exact ⟨ret_int (badG_50 (by simp [sumB]; omega)).symm, bThen hB2 hbr⟩)
            | (go_roundw
               case rel => exact ⟨3 + 1, by omega, by go_num, hbr, all_snoc (by simp) hall.out (by simp [sumB]; omega)⟩
               case measure => simp [intOf])
            | fail
        · obtain rfl : k = 4 := by omega
          have hs := hall.out
          simp at hs
          have hg := badG_go (has := s6) (d := d) ⟨hs.1, hs.2.1, hs.2.2.1, hs.2.2.2⟩
          have HG := Lib.hid hg
          clear hg hs hall
          have HDr := HD2.below' hbr
          have HXr := HX2.below' hbr
          have hTr := hT2.keep hbr
          have hBr := bThen hB2 hbr
          clear HD2 HX2 hT2 hB2 HLr HL
          obtain ⟨t0, t1, t2, t3, t4, t5, t6, t7, t8, t9, t10, t11, t12, t13⟩ := tcells HXr
          have lt0 := HXr.lt
          have HDra := (HDr).cell 0; have HDrb := (HDr).cell 1; have HDrc := (HDr).cell 2; have HDrd := (HDr).cell 3; have HDre := (HDr).cell 4; have HDrf := (HDr).cell 5; have HDrg := (HDr).cell 6; have HDrl := (HDr).lt; simp at HDra HDrb HDrc HDrd HDre HDrf HDrg
          go_wp2_with fail
          all_goals first
          | (with_reducible refine (S _ hTr).mono ?_
             rintro _ w5 ⟨rfl, hb5⟩
             clear t0 t1 t2 t3 t4 t5 t6 t7 t8 t9 t10 t11 t12 t13 lt0 HDra HDrb HDrc HDrd HDre HDrf HDrg HDrl
             replace HDr := HDr.below' hb5
             replace hBr := bThen hBr hb5
             have HDra := (HDr).cell 0; have HDrb := (HDr).cell 1; have HDrc := (HDr).cell 2; have HDrd := (HDr).cell 3; have HDre := (HDr).cell 4; have HDrf := (HDr).cell 5; have HDrg := (HDr).cell 6; have HDrl := (HDr).lt; simp at HDra HDrb HDrc HDrd HDre HDrf HDrg
             cases s6
             all_goals go_wp2_with fail
             all_goals
               go_ret
               exact ⟨ret_int (by rw [HG.out]; simp; grind), by (repeat (first | (with_reducible exact hBr) | (with_reducible refine bAlloc ?_ _) | (with_reducible refine bDrewN ?_ _) | (with_reducible refine bDrew ?_) | (with_reducible refine bSet ?_ (by first | exact Nat.le_refl _ | (simp; omega) | omega) _) | (with_reducible refine bThen ?_ (by with_reducible assumption))))⟩)
          | (have S2 := S
             rw [show d.low = 0 by assumption] at S2
             with_reducible refine (S2 _ hTr).mono ?_
             rintro _ w5 ⟨rfl, hb5⟩
             clear t0 t1 t2 t3 t4 t5 t6 t7 t8 t9 t10 t11 t12 t13 lt0 HDra HDrb HDrc HDrd HDre HDrf HDrg HDrl
             replace HDr := HDr.below' hb5
             replace hBr := bThen hBr hb5
             have HDra := (HDr).cell 0; have HDrb := (HDr).cell 1; have HDrc := (HDr).cell 2; have HDrd := (HDr).cell 3; have HDre := (HDr).cell 4; have HDrf := (HDr).cell 5; have HDrg := (HDr).cell 6; have HDrl := (HDr).lt; simp at HDra HDrb HDrc HDrd HDre HDrf HDrg
             cases s6
             all_goals go_wp2_with fail
             all_goals
               go_ret
               exact ⟨ret_int (by rw [HG.out]; simp; grind), by (repeat (first | (with_reducible exact hBr) | (with_reducible refine bAlloc ?_ _) | (with_reducible refine bDrewN ?_ _) | (with_reducible refine bDrew ?_) | (with_reducible refine bSet ?_ (by first | exact Nat.le_refl _ | (simp; omega) | omega) _) | (with_reducible refine bThen ?_ (by with_reducible assumption))))⟩)
          | (go_ret
             exact ⟨ret_int (by rw [HG.out]; grind), hBr⟩)
          | fail
  · rw [bad_late hlate]
    cases o with
    | none => simp [lateB] at hlate
    | some q =>
      obtain ⟨b, off, x⟩ := q
      simp only [Option.map_some]
      have hx := keep hB (ho b off x rfl)
      have L := fun W => cweek_calls x.day W
      simp only [Option.map_some, lateB] at hlate
      cases h1 : decide (d.day ≤ x.day)
      · rw [h1, Bool.false_or] at hlate
        generalize weekF d.day = wd at *
        generalize weekF x.day = wx at *
        go_enter Try.func101, Try.ntmps101
        go_wp2_with fail
        generalize (w.alloc (.cells (tr.cells m) 27)).alloc _ = w2 at *
        have HDa := (HD).cell 0; have HDb := (HD).cell 1; have HDc := (HD).cell 2; have HDd := (HD).cell 3; have HDe := (HD).cell 4; have HDf := (HD).cell 5; have HDg := (HD).cell 6; have HDl := (HD).lt; simp at HDa HDb HDc HDd HDe HDf HDg
        have ltx := HX.lt
        have lto := World.block_lt_of_cell? _ _ hx
        (refine wp_region_calm_lit (by kernel_rfl) (by kernel_rfl) ?_; (repeat (go_big_quiet_step (first | (go_at_call 68; with_reducible exact Calls.calm (K _)) | (go_at_call 68; with_reducible exact Calls.calm (L _))))); refine wpQuiet_nil ?_; intro _ hw'; obtain ⟨nq, hw''⟩ := hw'; subst hw'')
        go_wp2_with fail
        go_ret
        exact ⟨rfl, bThen hB (World.below_ext _ _)⟩
      · go_enter Try.func101, Try.ntmps101
        go_wp2_with fail
        generalize (w.alloc (.cells (tr.cells m) 27)).alloc _ = w2 at *
        have HDa := (HD).cell 0; have HDb := (HD).cell 1; have HDc := (HD).cell 2; have HDd := (HD).cell 3; have HDe := (HD).cell 4; have HDf := (HD).cell 5; have HDg := (HD).cell 6; have HDl := (HD).lt; simp at HDa HDb HDc HDd HDe HDf HDg
        have ltx := HX.lt
        have lto := World.block_lt_of_cell? _ _ hx
        (refine wp_region_calm_lit (by kernel_rfl) (by kernel_rfl) ?_; (repeat (go_big_quiet_step (fail))); refine wpQuiet_nil ?_; intro _ hw'; obtain ⟨nq, hw''⟩ := hw'; subst hw'')
        go_wp2_with fail
        go_ret
        exact ⟨rfl, bThen hB (World.below_ext _ _)⟩
end Go.Proofs.Ytmeogadkbbeglaa
end
section
namespace Go.Proofs.Ytmeogadkbbeglaa
set_option linter.unusedSimpArgs false
set_option linter.unusedVariables false
theorem stGo_mem : ∀ {l : List Station} {m a : Int} {k : Int}, stGo l m a = some k → ∀ s ∈ l, (1 ≤ s.zone ∧ s.zone ≤ 9) ∧ s.zone ≤ k
  | [], m, a, k, h, s, hs => by simp at hs
  | x :: r, m, a, k, h, s, hs => by
    simp only [stGo] at h
    split at h
    · rename_i hok
      have hle : ∀ {l : List Station} {m a k : Int}, stGo l m a = some k → m ≤ k := by
        intro l
        induction l with
        | nil => intro m a k h; simp only [stGo, Option.some.injEq] at h; omega
        | cons y q ih =>
          intro m a k h
          simp only [stGo] at h
          split at h
          · have := ih h; split at this <;> omega
          · cases h
      have h1 := hle h
      rcases List.mem_cons.1 hs with rfl | hs
      · simp [stOk, inB] at hok
        refine ⟨by omega, ?_⟩
        split at h1 <;> omega
      · exact stGo_mem h s hs
    · cases h
theorem right_lists {t : Tariff} (h : rightF t = 0) : ∃ most, stationsF t.st = some most ∧ spansF t.sp most = true ∧ t.sp.all spPrice = true ∧ pricesB t = true ∧ t.sp.all (fun a => t.sp.all (fun b => wide1 a b)) = true := by
  unfold rightF at h
  cases hs : stationsF t.st with
  | none => simp [hs] at h
  | some most =>
    simp only [hs] at h
    refine ⟨most, rfl, ?_⟩
    cases h1 : spansF t.sp most
    · simp [h1] at h
    cases h2 : pricesB t
    · simp [h1, h2] at h
    cases h3 : t.sp.all spPrice
    · simp [h1, h2, h3] at h
    cases h4 : t.sp.all (fun a => t.sp.all (fun b => wide1 a b))
    · simp only [h1, h2, h3, h4] at h; simp at h
    simp
theorem st_zone {t : Tariff} (h : rightF t = 0) {id : Int} {s : Station} (hs : stFind t.st id = some s) : 1 ≤ s.zone := by
  obtain ⟨most, h1, -⟩ := right_lists h
  unfold stationsF at h1
  split at h1
  · exact (stGo_mem h1 s (List.mem_of_find?_eq_some hs)).1.1
  · cases h1
theorem zWith_comm {z : Int × Int} (hz : 0 ≤ z.1) {a b c d : Int} (ha : 1 ≤ a) (hc : 1 ≤ c) : zWith (zWith z a b) c d = zWith (zWith z c d) a b := by
  obtain ⟨z1, z2⟩ := z
  simp only at hz
  have ha0 : a ≠ 0 := by omega
  have hc0 : c ≠ 0 := by omega
  by_cases h : z1 = 0
  · subst h
    simp only [zWith, ha0, hc0, if_false, if_true]
    rw [mn_comm, mx_comm]
  · have h1 : mn z1 a ≠ 0 := by unfold mn; grind
    have h2 : mn z1 c ≠ 0 := by unfold mn; grind
    simp only [zWith, ha0, hc0, h, h1, h2, if_false]
    simp only [Prod.mk.injEq, mn, mx]
    constructor <;> grind
theorem zWith_pos {z : Int × Int} (hz : 0 ≤ z.1) {a b : Int} (ha : 1 ≤ a) : 1 ≤ (zWith z a b).1 := by
  obtain ⟨z1, z2⟩ := z
  simp only at hz
  unfold zWith mn
  grind
/-- a step that goes, wherever it stands -/
theorem dayStep_go {t : Tariff} (hr : rightF t = 0) {day : Int} {p : Priced} {a : DAcc} (h : (dayStep t day a p).1 = 0) :
    (∀ b, dayStep t day b p = (0, { b with bus := b.bus + p.fare })) ∨ (∀ b, dayStep t day b p = (0, { b with most := b.most + p.fare })) ∨
    ∃ lo hi : Int, 1 ≤ lo ∧ ∀ b, dayStep t day b p = (0, { b with rail := b.rail + p.fare, z1 := (zWith (b.z1, b.z2) lo hi).1, z2 := (zWith (b.z1, b.z2) lo hi).2 }) := by
  unfold dayStep at h ⊢
  by_cases h1 : p.j.kind < 1 ∨ 4 < p.j.kind
  · rw [if_pos h1] at h; exact absurd h (by simp)
  rw [if_neg h1] at h
  by_cases h2 : p.fare < 0 ∨ 1048576 < p.fare
  · rw [if_pos h2] at h; exact absurd h (by simp)
  rw [if_neg h2] at h
  by_cases h3 : timeB p.j.start = false ∨ dayF p.j.start ≠ day
  · rw [if_pos h3] at h; exact absurd h (by simp)
  rw [if_neg h3] at h
  simp only [if_neg h1, if_neg h2, if_neg h3]
  by_cases h4 : p.j.kind = 4
  · left; intro b; rw [if_pos h4]
  rw [if_neg h4] at h
  simp only [if_neg h4]
  by_cases h5 : p.j.kind ≠ 1
  · right; left; intro b; rw [if_pos h5]
  rw [if_neg h5] at h
  simp only [if_neg h5]
  right; right
  split at h
  · rename_i x y hx hy
    refine ⟨mn x.zone y.zone, mx x.zone y.zone, ?_, fun b => ?_⟩
    · have := st_zone hr hx
      have := st_zone hr hy
      unfold mn; grind
    · simp only [hx, hy]
  · exact absurd h (by simp)
theorem dayStep_z {t : Tariff} (hr : rightF t = 0) {day : Int} {p : Priced} {a : DAcc} (h : (dayStep t day a p).1 = 0) (hz : 0 ≤ a.z1) : 0 ≤ (dayStep t day a p).2.z1 := by
  rcases dayStep_go hr h with e | e | ⟨lo, hi, hlo, e⟩ <;> rw [e]
  · exact hz
  · exact hz
  · have := zWith_pos (z := (a.z1, a.z2)) (b := hi) hz hlo
    simp only; omega
theorem dayStep_comm {t : Tariff} (hr : rightF t = 0) {day : Int} {p q : Priced} {a : DAcc} (hz : 0 ≤ a.z1) (h : (dayStep t day a p).1 = 0) (h' : (dayStep t day (dayStep t day a p).2 q).1 = 0) :
    (dayStep t day a q).1 = 0 ∧ (dayStep t day (dayStep t day a q).2 p).1 = 0 ∧ (dayStep t day (dayStep t day a q).2 p).2 = (dayStep t day (dayStep t day a p).2 q).2 := by
  have e1 := dayStep_go hr h
  have e2 := dayStep_go hr h'
  have hc : ∀ lo hi lo' hi' : Int, 1 ≤ lo → 1 ≤ lo' → zWith (zWith (a.z1, a.z2) lo hi) lo' hi' = zWith (zWith (a.z1, a.z2) lo' hi') lo hi := fun lo hi lo' hi' h1 h2 => zWith_comm hz h1 h2
  rcases e1 with e1 | e1 | ⟨lo, hi, hlo, e1⟩ <;> rcases e2 with e2 | e2 | ⟨lo', hi', hlo', e2⟩ <;> simp only [e1, e2, true_and, DAcc.mk.injEq, and_true]
  · omega
  · omega
  · have := hc lo hi lo' hi' hlo hlo'
    have e : ∀ z : Int × Int, (z.1, z.2) = z := fun z => rfl
    simp only [e, this, true_and, and_true]
    omega
theorem dayGo_perm {t : Tariff} (hr : rightF t = 0) {day : Int} {l m : List Priced} (hp : l.Perm m) : ∀ a : DAcc, 0 ≤ a.z1 → (dayGo t day l a).1 = 0 → dayGo t day m a = dayGo t day l a := by
  induction hp with
  | nil => intro a _ _; rfl
  | cons x _ ih =>
    intro a hz h
    rw [dayGo_cons] at h ⊢
    rw [dayGo_cons]
    by_cases h1 : (dayStep t day a x).1 = 0
    · rw [if_pos h1] at h
      rw [if_pos h1, if_pos h1]
      exact ih _ (dayStep_z hr h1 hz) h
    · rw [if_neg h1] at h; exact absurd h h1
  | swap x y l =>
    intro a hz h
    rw [dayGo_cons, dayGo_cons] at h ⊢
    rw [dayGo_cons, dayGo_cons]
    by_cases h1 : (dayStep t day a y).1 = 0
    · rw [if_pos h1] at h
      by_cases h2 : (dayStep t day (dayStep t day a y).2 x).1 = 0
      · obtain ⟨c1, c2, c3⟩ := dayStep_comm hr hz h1 h2
        rw [if_pos c1, if_pos c2, if_pos h1, if_pos h2, c3]
      · rw [if_neg h2] at h; exact absurd h h2
    · rw [if_neg h1] at h; exact absurd h h1
  | trans _ _ ih1 ih2 =>
    intro a hz h
    have e1 := ih1 a hz h
    rw [← e1]
    exact ih2 a hz (by rw [e1]; exact h)
/-- A day does not hang on the order of its journeys. -/
theorem day_perm {t : Tariff} {day : Int} {l m : List Priced} (hp : l.Perm m) (h : (dayC t day l).2 = 0) : dayC t day m = dayC t day l := by
  unfold dayC at h ⊢
  by_cases hr : rightF t ≠ 0
  · rw [if_pos hr] at h; exact absurd h hr
  rw [if_neg hr] at h ⊢
  by_cases hl : 2000 < l.length
  · rw [if_pos hl] at h; exact absurd h (by simp)
  rw [if_neg hl] at h
  rw [if_neg (by rw [← hp.length_eq]; exact hl), if_neg hr, if_neg hl]
  by_cases hg : (dayGo t day l ⟨0, 0, 0, 0, 0⟩).1 ≠ 0
  · rw [if_pos hg] at h; exact absurd h hg
  · rw [dayGo_perm (by simpa using hr) hp _ (by simp) (by simpa using hg)]
theorem day_bad {t : Tariff} {day : Int} {l : List Priced} (h : (dayC t day l).2 ≠ 0) : (dayC t day l).1 = DayC.zero := by
  unfold dayC at h ⊢
  grind
end Go.Proofs.Ytmeogadkbbeglaa
end
section
namespace Go.Proofs.Ytmeogadkbbeglaa
set_option linter.unusedSimpArgs false
set_option linter.unusedVariables false
/-- zones as they may be -/
def ZOk (t : Tariff) (z1 z2 : Int) : Prop := (z1 = 0 ∧ z2 = 0) ∨ (1 ≤ z1 ∧ z1 ≤ z2 ∧ ∃ most, stationsF t.st = some most ∧ z2 ≤ most)
theorem ZOk.step {t : Tariff} {z1 z2 lo hi : Int} (h : ZOk t z1 z2) (k : ZOk t lo hi) : ZOk t (zWith (z1, z2) lo hi).1 (zWith (z1, z2) lo hi).2 := by
  unfold zWith
  rcases k with ⟨k1, k2⟩ | ⟨k1, k2, most, k3, k4⟩
  · rw [if_pos k1]; exact h
  · rw [if_neg (by omega)]
    rcases h with ⟨h1, h2⟩ | ⟨h1, h2, most', h3, h4⟩
    · rw [if_pos h1]; exact .inr ⟨k1, k2, most, k3, k4⟩
    · rw [if_neg (by simp only; omega)]
      rw [k3] at h3
      cases h3
      right
      simp only [mn, mx]
      refine ⟨by split <;> omega, by split <;> split <;> omega, most, k3, by split <;> omega⟩
theorem ZOk.of_st {t : Tariff} (hr : rightF t = 0) {i k : Int} {a b : Station} (ha : stFind t.st i = some a) (hb : stFind t.st k = some b) : ZOk t (mn a.zone b.zone) (mx a.zone b.zone) := by
  obtain ⟨most, h1, -⟩ := right_lists hr
  have h1' := h1
  unfold stationsF at h1
  split at h1
  · have x := stGo_mem h1 a (List.mem_of_find?_eq_some ha)
    have y := stGo_mem h1 b (List.mem_of_find?_eq_some hb)
    right
    simp only [mn, mx]
    refine ⟨by split <;> omega, by split <;> omega, most, h1', by split <;> omega⟩
  · cases h1
/-- what holds all along a day -/
structure DInv (t : Tariff) (a : DAcc) : Prop where
  z : ZOk t a.z1 a.z2
  none : a.z1 = 0 → a.rail = 0
theorem DInv.step {t : Tariff} (hr : rightF t = 0) {day : Int} {a : DAcc} {p : Priced} (h : DInv t a) (h0 : (dayStep t day a p).1 = 0) : DInv t (dayStep t day a p).2 := by
  unfold dayStep at h0 ⊢
  by_cases h1 : p.j.kind < 1 ∨ 4 < p.j.kind
  · rw [if_pos h1] at h0; exact absurd h0 (by simp)
  rw [if_neg h1] at h0 ⊢
  by_cases h2 : p.fare < 0 ∨ 1048576 < p.fare
  · rw [if_pos h2] at h0; exact absurd h0 (by simp)
  rw [if_neg h2] at h0 ⊢
  by_cases h3 : timeB p.j.start = false ∨ dayF p.j.start ≠ day
  · rw [if_pos h3] at h0; exact absurd h0 (by simp)
  rw [if_neg h3] at h0 ⊢
  by_cases h4 : p.j.kind = 4
  · rw [if_pos h4]; exact ⟨h.z, h.none⟩
  rw [if_neg h4] at h0 ⊢
  by_cases h5 : p.j.kind ≠ 1
  · rw [if_pos h5]; exact ⟨h.z, h.none⟩
  rw [if_neg h5] at h0 ⊢
  split
  · rename_i x y hx hy
    have hz := ZOk.of_st hr hx hy
    refine ⟨h.z.step hz, fun e => ?_⟩
    exfalso
    have hz0 : 0 ≤ a.z1 := by rcases h.z with ⟨e, -⟩ | ⟨e, -⟩ <;> omega
    have h1 : 1 ≤ mn x.zone y.zone := by
      have := st_zone hr hx
      have := st_zone hr hy
      unfold mn; split <;> omega
    have := zWith_pos (z := (a.z1, a.z2)) (b := mx x.zone y.zone) hz0 h1
    simp only at e
    omega
  · rename_i hno
    split at h0
    · rename_i x y hx hy
      exact absurd hy (hno x y hx)
    · exact absurd h0 (by simp)
theorem spanOf_range {t : Tariff} (hr : rightF t = 0) (z : Int × Int) : (0 ≤ spanOf t z Span.daily ∧ spanOf t z Span.daily ≤ 1048576) ∧ (0 ≤ spanOf t z Span.weekly ∧ spanOf t z Span.weekly ≤ 1048576) := by
  unfold spanOf
  cases h : spFind t.sp z.1 z.2 with
  | none => simp
  | some s =>
    obtain ⟨-, h1, h2⟩ := ok_price hr (find_mem h).1
    simp [priceB, inB] at h1 h2
    exact ⟨h1, h2⟩
/-- days of one week, one behind the other, from a day on -/
def InWeek (w : Int) : Int → List DayC → Prop
  | _, [] => True
  | i, d :: r => i ≤ d.day ∧ d.day ≤ 7 * w + 6 ∧ InWeek w (d.day + 1) r
theorem InWeek.len {w : Int} : ∀ {i : Int} {l : List DayC}, InWeek w i l → l ≠ [] → i + l.length ≤ 7 * w + 7
  | i, [], h, hn => absurd rfl hn
  | i, [d], h, hn => by have := h.1; have := h.2.1; simp; omega
  | i, d :: e :: r, h, hn => by
    have := InWeek.len h.2.2 (by simp)
    have := h.1
    simp only [List.length_cons] at *
    omega
end Go.Proofs.Ytmeogadkbbeglaa
end
section
namespace Go.Proofs.Ytmeogadkbbeglaa
open Go.RowKit Go.Proofs.YtmeogadkbbeglaaQ
set_option maxHeartbeats 3200000
set_option maxRecDepth 100000
theorem elemDy {w w' : World} {A : Option Addr} {xs : List DayC} (h : SliceAt w 7 DayC.vals A xs) (hb : Below w.heap.size w w') (k : Nat) (hk : k < xs.length) :
    ∃ b off, A = some ⟨b, off, none⟩ ∧ w'.cell? ⟨b, off + k * 7, none⟩ = some (.int .i64 xs[k].day) ∧ w'.cell? ⟨b, off + k * 7 + 1, none⟩ = some (.int .i64 xs[k].rail) ∧ w'.cell? ⟨b, off + k * 7 + 2, none⟩ = some (.int .i64 xs[k].bus)
      ∧ w'.cell? ⟨b, off + k * 7 + 3, none⟩ = some (.int .i64 xs[k].capped) ∧ w'.cell? ⟨b, off + k * 7 + 4, none⟩ = some (.int .i64 xs[k].most) ∧ w'.cell? ⟨b, off + k * 7 + 5, none⟩ = some (.int .i64 xs[k].low) ∧ w'.cell? ⟨b, off + k * 7 + 6, none⟩ = some (.int .i64 xs[k].high) := by
  obtain ⟨b, off, e, hc⟩ := h.2 k xs[k] (by simp [hk])
  exact ⟨b, off, e, keep hb (hc 0 _ rfl), keep hb (hc 1 _ rfl), keep hb (hc 2 _ rfl), keep hb (hc 3 _ rfl), keep hb (hc 4 _ rfl), keep hb (hc 5 _ rfl), keep hb (hc 6 _ rfl)⟩
theorem held_range {t : Tariff} (hr : rightF t = 0) {z : Int × Int} {r b : Int} (h1 : 0 ≤ r) (h2 : 0 ≤ b) : 0 ≤ heldF t z r b Span.weekly ∧ heldF t z r b Span.weekly ≤ r + b := by
  have hs := (spanOf_range hr z).2
  unfold heldF mn mx
  split
  · omega
  · split <;> split <;> omega
theorem week_calls (tr : Tariff) (m : TMem) (l : List DayC) (A : Option Addr) (c : Nat) (w : World) (hT : tr.At w m) (hA : SliceAt w 7 DayC.vals A l) :
    Calls Try.prog 44 #[.agg (tr.cells m), .slice A l.length c] w fun e w' => e = .returned (.tuple #[.int .i64 (weekC tr l).1, .int .i64 (weekC tr l).2]) ∧ Below w.heap.size w w' := by
  have HB := Below.refl w.heap.size w
  have hlen := hA.len
  have HX := Box.new w (tr.cells m) 27
  have hB := bAlloc HB (.cells (tr.cells m) 27)
  have R := fun W h => right_calls tr m W h
  have hT0 := hT.keep hB
  by_cases hr : rightF tr = 0
  · rw [hr] at R
    by_cases hl : 7 < l.length
    · have e : weekC tr l = (0, 2) := by simp [weekC, hr, hl]
      rw [e]
      clear e hr
      have hl' : (7 : Int) < (l.length : Int) := by omega
      go_enter Try.func44, Try.ntmps44
      go_wp2_with fail
      refine (R _ hT0).mono ?_
      rintro _ wq ⟨rfl, hb⟩
      go_wp2_with fail
      go_ret2
      exact ⟨rfl, bThen hB hb⟩
    · have e : weekC tr l = if (wkGo tr l none ⟨0, 0, 0, 0, 0⟩).1 ≠ 0 then (0, (wkGo tr l none ⟨0, 0, 0, 0, 0⟩).1) else (wkEnd tr (wkGo tr l none ⟨0, 0, 0, 0, 0⟩).2, 0) := by simp [weekC, hr, hl]
      have HE := Lib.hid e
      have HRR := Lib.hid hr
      clear e hr
      have hl' : ¬ (7 : Int) < (l.length : Int) := by omega
      go_enter Try.func44, Try.ntmps44
      go_wp2_with fail
      refine (R _ hT0).mono ?_
      rintro _ wq ⟨rfl, hb⟩
      replace HX := HX.below' hb
      replace hB := bThen hB hb
      clear hb hT0
      have hge := HX.lt
      go_wp2_with fail
      have HZ := Box.new wq #[.int .i64 0, .int .i64 0] 128
      have hz := bAlloc (Below.refl wq.heap.size wq) (.cells #[.int .i64 0, .int .i64 0] 128)
      replace HX := HX.below' hz
      replace hB := bThen hB hz
      clear hz
      generalize hbo : wq.heap.size = bz at *
      have HBO := Lib.hid hbo
      clear hbo
      generalize (wq.alloc (.cells #[.int .i64 0, .int .i64 0] 128)) = w4 at *
      go_loopw [8, 9, 10, 11, 25] (fun ah ra bu mo i wr => ∃ (k : Nat) (a : WAcc) (o : Option (Nat × Nat × DayC)), k ≤ l.length ∧ ah = .pointer (o.map fun q => ⟨q.1, q.2.1, none⟩) ∧ ra = .int .i64 a.rail ∧ bu = .int .i64 a.bus ∧ mo = .int .i64 a.most ∧ i = .int .i64 k ∧ a.Ok k ∧ Hid (wkGo tr (l.drop k) (o.map fun q => q.2.2) a = wkGo tr l none ⟨0, 0, 0, 0, 0⟩) ∧ Hid (∀ b off x, o = some (b, off, x) → w.cell? ⟨b, off, none⟩ = some (.int .i64 x.day)) ∧ Box wr w.heap.size (tr.cells m) 27 ∧ Box wr bz #[.int .i64 a.z1, .int .i64 a.z2] 128 ∧ Below w.heap.size w wr) (fun _ _ _ _ i _ => l.length - (intOf i).toNat)
      case atStart => exact ⟨0, ⟨0, 0, 0, 0, 0⟩, none, by omega, rfl, rfl, rfl, rfl, rfl, WAcc.Ok.zero, rfl, fun _ _ _ h => (by cases h), HX, HZ, hB⟩
      case round =>
        clear HX HZ hB
        obtain ⟨k, a, o, hk, rfl, rfl, rfl, rfl, rfl, hok, hgo, ho, HX, HZ, hB⟩ := hrel
        obtain ⟨ra, bu, mo, z1, z2⟩ := a
        simp only at HZ hgo
        have hk7 : k ≤ 7 := by omega
        have hok2 := hok
        obtain ⟨r1, r2, b1, b2, m1, m2⟩ := hok2
        simp only at r1 r2 b1 b2 m1 m2
        by_cases hlt : k < l.length
        · obtain ⟨b, off, hA2, c0, c1, c2, c3, c4, c5, c6⟩ := elemDy hA hB k hlt
          obtain ⟨b', off', hA3, c0w, -⟩ := elemDy hA HB k hlt
          rw [hA2] at hA3
          cases hA3
          subst hA2
          rw [drop_cons hlt, wkGo_cons] at hgo
          obtain ⟨t0, t1, t2, t3, t4, t5, t6, t7, t8, t9, t10, t11, t12, t13⟩ := tcells HX
          have ltx := HX.lt
          go_wp2_with fail
          have hz := bAlloc (Below.refl wr.heap.size wr) (.cells #[.int .i64 (l[k]).day, .int .i64 (l[k]).rail, .int .i64 (l[k]).bus, .int .i64 (l[k]).capped, .int .i64 (l[k]).most, .int .i64 (l[k]).low, .int .i64 (l[k]).high] 57)
          have HD := Box.new wr #[.int .i64 (l[k]).day, .int .i64 (l[k]).rail, .int .i64 (l[k]).bus, .int .i64 (l[k]).capped, .int .i64 (l[k]).most, .int .i64 (l[k]).low, .int .i64 (l[k]).high] 57
          replace HX := HX.below' hz
          replace HZ := HZ.below' hz
          replace hB := bThen hB hz
          clear c1 c2 c3 c4 c5 c6 hz t0 t1 t2 t3 t4 t5 t6 t7 t8 t9 t10 t11 t12 t13 ltx
          have hok' := hok.step (t := tr) (d := l[k]) (o := o.map fun q => q.2.2)
          have hbk := bad_ok (t := tr) (d := l[k]) (o := o.map fun q => q.2.2)
          have ho' := fun b off x h => keep hB (ho.out b off x h)
          refine (bad_calls tr m l[k] o _ (hT.keep hB) ho').mono ?_
          rintro _ w6 ⟨rfl, hb⟩
          replace HX := HX.below' hb
          replace HZ := HZ.below' hb
          replace HD := HD.below' hb
          replace hB := bThen hB hb
          clear ho' hb c0
          generalize badF tr l[k] (o.map fun q => q.2.2) = s at *
          by_cases hs : s = 0
          · subst hs
            rw [if_pos rfl] at hgo
            obtain ⟨-, hr_, hbu_, hca_, hmo_, hcb_, -⟩ := hbk rfl
            have hok3 := hok' rfl
            clear hbk hok'
            have HDa := (HD).cell 0; have HDb := (HD).cell 1; have HDc := (HD).cell 2; have HDd := (HD).cell 3; have HDe := (HD).cell 4; have HDf := (HD).cell 5; have HDg := (HD).cell 6; have HDl := (HD).lt; simp at HDa HDb HDc HDd HDe HDf HDg
            have HZa := (HZ).cell 0; have HZb := (HZ).cell 1; have HZl := (HZ).lt; simp at HZa HZb
            generalize l[k] = d at *
            go_wp2_with fail
            refine (with_calls _ _ _ _ _).mono ?_
            rintro _ w7 ⟨rfl, hb7⟩
            have y0 := HZ.free 0
            have y1 := HZ.free 1
            clear HDa HDb HDc HDd HDe HDf HDg HDl HZa HZb HZl y0 y1
            replace HX := HX.below' hb7
            replace HZ := HZ.below' hb7
            replace hB := bThen hB hb7
            clear hb7 HD
            have y0 := HZ.free 0
            have y1 := HZ.free 1
            have HZa := (HZ).cell 0; have HZb := (HZ).cell 1; have HZl := (HZ).lt; simp at HZa HZb
            have nbx : w.heap.size ≠ bz := by omega
            generalize hzz : zWith (z1, z2) d.low d.high = zz at *
            have HZZ := Lib.hid hzz
            clear hzz
            go_wp2_with fail
            go_roundw
            case rel =>
              refine ⟨k + 1, wkStep ⟨ra, bu, mo, z1, z2⟩ d, some (b, off + k * 7, d), by omega, rfl, ?_, ?_, ?_, by go_num, hok3, hgo, fun b1 off1 x1 h1 => ?_, (HX.other _ (by show w.heap.size ≠ bz; omega) _).other _ (by show w.heap.size ≠ bz; omega) _, ((HZ.set 0 _).set 1 _).cast ?_, by (repeat (first | (with_reducible exact hB) | (with_reducible refine bAlloc ?_ _) | (with_reducible refine bDrewN ?_ _) | (with_reducible refine bDrew ?_) | (with_reducible refine bSet ?_ (by first | exact Nat.le_refl _ | (simp; omega) | omega) _) | (with_reducible refine bThen ?_ (by with_reducible assumption))))⟩
              · go_num
              · go_num
              · go_num
              · cases h1; exact c0w
              · simp [wkStep, HZZ.out]
            case measure => simp [intOf]; omega
          · rw [if_neg hs] at hgo
            have hE := HE.out
            rw [← hgo.out, if_pos (show (s, (⟨ra, bu, mo, z1, z2⟩ : WAcc)).1 ≠ 0 from hs)] at hE
            have HF := Lib.hid hE
            clear hE HE hgo
            go_wp2_with fail
            go_ret2
            exact ⟨by rw [HF.out]; rfl, hB⟩
        · obtain rfl : k = l.length := by omega
          rw [List.drop_length] at hgo
          have hE := HE.out
          rw [← hgo.out] at hE
          simp only [wkGo, ne_eq, not_true_eq_false, if_false] at hE
          have HF := Lib.hid hE
          clear hE HE hgo
          obtain ⟨t0, t1, t2, t3, t4, t5, t6, t7, t8, t9, t10, t11, t12, t13⟩ := tcells HX
          have ltx := HX.lt
          have HZa := (HZ).cell 0; have HZb := (HZ).cell 1; have HZl := (HZ).lt; simp at HZa HZb
          have hbd := (ok_prices HRR.out).2.2.1
          go_wp2_with fail
          · have e : mn bu tr.busWeekly = tr.busWeekly := by unfold mn; split <;> omega
            have hh := held_range (z := (z1, z2)) HRR.out (r := ra) (b := tr.busWeekly) r1 (by omega)
            refine (heldWeek_calls tr m z1 z2 ra (tr.busWeekly) _ (hT.keep hB) (by omega) (by omega)).mono ?_
            rintro _ w8 ⟨rfl, hb8⟩
            generalize hq : heldF tr (z1, z2) ra (tr.busWeekly) Span.weekly = q at *
            have HQ := Lib.hid hq
            clear hq
            go_wp2_with fail
            go_ret2
            exact ⟨by rw [HF.out]; simp only [wkEnd, e, HQ.out]; rfl, bThen hB hb8⟩
          · have e : mn bu tr.busWeekly = bu := by unfold mn; split <;> omega
            have hh := held_range (z := (z1, z2)) HRR.out (r := ra) (b := bu) r1 (by omega)
            refine (heldWeek_calls tr m z1 z2 ra (bu) _ (hT.keep hB) (by omega) (by omega)).mono ?_
            rintro _ w8 ⟨rfl, hb8⟩
            generalize hq : heldF tr (z1, z2) ra (bu) Span.weekly = q at *
            have HQ := Lib.hid hq
            clear hq
            go_wp2_with fail
            go_ret2
            exact ⟨by rw [HF.out]; simp only [wkEnd, e, HQ.out]; rfl, bThen hB hb8⟩
  · have e : weekC tr l = (0, rightF tr) := by simp [weekC, hr]
    rw [e]
    clear e
    generalize rightF tr = er at *
    go_enter Try.func44, Try.ntmps44
    go_wp2_with fail
    refine (R _ hT0).mono ?_
    rintro _ wq ⟨rfl, hb⟩
    go_wp2_with fail
    go_ret2
    exact ⟨rfl, bThen hB hb⟩
end Go.Proofs.Ytmeogadkbbeglaa
end
