/- The walk of the reference's Week. -/
import Derived.Test.YtmeogadkbbeglaaK19
import Derived.Test.YtmeogadkbbeglaaK23
namespace Go.Proofs.Ytmeogadkbbeglaa
open Go.RowKit Go.Proofs.YtmeogadkbbeglaaQ
set_option maxHeartbeats 3200000
set_option maxRecDepth 100000
theorem sum_calls (n : Int) (w : World) :
    Calls Try.prog 104 #[.int .i64 n] w fun e w' => e = .returned (.bool (sumB n)) ∧ w = w' := by
  by_cases h : 0 ≤ n
  all_goals
    go_enter Try.func104, Try.ntmps104
    go_wp2
    go_ret
    exact ⟨ret_bool (by simp [sumB, h]; try omega), rfl⟩
/-- zones, as the reference holds them -/
def rLow (z : Int × Int) (lo : Int) : Int := if 0 < lo then (if z.1 = 0 then lo else if lo < z.1 then lo else z.1) else z.1
theorem zWith_ref {t : Tariff} {d : DayC} {o : Option DayC} {z : Int × Int} (hz : (z.1 = 0 ∧ z.2 = 0) ∨ (1 ≤ z.1 ∧ 1 ≤ z.2)) (h : badF t d o = 0) : zWith z d.low d.high = (rLow z d.low, mx z.2 d.high) ∧ ((zWith z d.low d.high).1 = 0 ∧ (zWith z d.low d.high).2 = 0 ∨ 1 ≤ (zWith z d.low d.high).1 ∧ 1 ≤ (zWith z d.low d.high).2) := by
  obtain ⟨-, -, -, -, -, -, hq⟩ := bad_ok h
  obtain ⟨a, b⟩ := z
  simp only at hz
  have e : zWith (a, b) d.low d.high = (rLow (a, b) d.low, mx b d.high) := by
    unfold zWith rLow mn mx
    simp only
    rcases hq with ⟨h1, h2⟩ | ⟨-, h1, h2⟩
    · rw [if_pos h1, if_neg (by omega)]; refine Prod.ext rfl ?_; show b = _; grind
    · rw [if_neg (show ¬ d.low = 0 by omega), if_pos (show 0 < d.low by omega)]
      by_cases h3 : a = 0
      · rw [if_pos h3]; refine Prod.ext (by rw [if_pos h3]) ?_; rw [if_pos h3]; show d.high = _; grind
      · rw [if_neg h3]; refine Prod.ext ?_ (by rw [if_neg h3]); rw [if_neg h3]; show (if a < d.low then a else d.low) = (if d.low < a then d.low else a); grind
  refine ⟨e, ?_⟩
  rw [e]
  unfold rLow mx
  simp only
  grind
theorem ret_two {a b c d : Int} (h : a = c) (h2 : b = d) : Ending.returned (.tuple #[.int .i64 a, .int .i64 b]) = .returned (.tuple #[.int .i64 c, .int .i64 d]) := by rw [h, h2]
theorem refweek_calls (tr : Tariff) (m : TMem) (l : List DayC) (A : Option Addr) (c : Nat) (w : World) (hT : tr.At w m) (hcp : m.Caps tr) (hA : SliceAt w 7 DayC.vals A l) :
    Calls Try.prog 45 #[.agg (tr.cells m), .slice A l.length c] w fun e w' => e = .returned (.tuple #[.int .i64 (weekC tr l).1, .int .i64 (weekC tr l).2]) ∧ Below w.heap.size w w' := by
  have HB := Below.refl w.heap.size w
  have hlen := hA.len
  have HX := Box.new w (tr.cells m) 27
  have hB := bAlloc HB (.cells (tr.cells m) 27)
  have R := fun W h => ref_right tr m W h hcp
  have hT0 := hT.keep hB
  by_cases hr : rightF tr = 0
  · rw [hr] at R
    by_cases hl : 7 < l.length
    · have e : weekC tr l = (0, 2) := by simp [weekC, hr, hl]
      rw [e]
      clear e hr
      have hl' : (7 : Int) < (l.length : Int) := by omega
      go_enter Try.func45, Try.ntmps45
      go_wp2_with fail
      refine (R _ hT0).mono ?_
      rintro _ wq ⟨rfl, hb⟩
      go_wp2_with fail
      go_ret2
      exact ⟨rfl, bThen hB hb⟩
    · have e : weekC tr l = if (wkGo tr l none ⟨0, 0, 0, 0, 0⟩).1 ≠ 0 then (0, (wkGo tr l none ⟨0, 0, 0, 0, 0⟩).1) else (wkEnd tr (wkGo tr l none ⟨0, 0, 0, 0, 0⟩).2, 0) := by simp [weekC, hr, hl]
      have HE := Lib.hid e
      have HRR := Lib.hid hr
      clear e hr
      have hl' : ¬ (7 : Int) < (l.length : Int) := by omega
      go_enter Try.func45, Try.ntmps45
      go_wp2_with fail
      refine (R _ hT0).mono ?_
      rintro _ wq ⟨rfl, hb⟩
      replace HX := HX.below' hb
      replace hB := bThen hB hb
      clear hb hT0
      have hge := HX.lt
      go_wp2_with fail
      go_loopw [7, 8, 9, 10, 11, 12] (fun bu ra mo lo hi i wr => ∃ (k : Nat) (a : WAcc) (o : Option DayC), k ≤ l.length ∧ bu = .int .i64 a.bus ∧ ra = .int .i64 a.rail ∧ mo = .int .i64 a.most ∧ lo = .int .i64 a.z1 ∧ hi = .int .i64 a.z2 ∧ i = .int .i64 k ∧ a.Ok k ∧ Hid (wkGo tr (l.drop k) o a = wkGo tr l none ⟨0, 0, 0, 0, 0⟩) ∧ Hid (o = if k = 0 then none else l[k - 1]?) ∧ Hid ((a.z1 = 0 ∧ a.z2 = 0) ∨ (1 ≤ a.z1 ∧ 1 ≤ a.z2)) ∧ Box wr w.heap.size (tr.cells m) 27 ∧ Below w.heap.size w wr) (fun _ _ _ _ _ i _ => l.length - (intOf i).toNat)
      case atStart => exact ⟨0, ⟨0, 0, 0, 0, 0⟩, none, by omega, rfl, rfl, rfl, rfl, rfl, rfl, WAcc.Ok.zero, rfl, rfl, .inl ⟨rfl, rfl⟩, HX, hB⟩
      case round =>
        clear HX hB
        obtain ⟨k, a, o, hk, rfl, rfl, rfl, rfl, rfl, rfl, hok, hgo, ho, hzz, HX, hB⟩ := hrel
        obtain ⟨ra, bu, mo, z1, z2⟩ := a
        have hk7 : k ≤ 7 := by omega
        have hok2 := hok
        obtain ⟨r1, r2, b1, b2, m1, m2⟩ := hok2
        simp only at r1 r2 b1 b2 m1 m2
        by_cases hlt : k < l.length
        · obtain ⟨b, off, hA2, c0, c1, c2, c3, c4, c5, c6⟩ := elemDy hA hB k hlt
          subst hA2
          rw [drop_cons hlt, wkGo_cons] at hgo
          obtain ⟨t0, t1, t2, t3, t4, t5, t6, t7, t8, t9, t10, t11, t12, t13⟩ := tcells HX
          have ltx := HX.lt
          go_wp2_with fail
          have hz := bAlloc (Below.refl wr.heap.size wr) (.cells #[.int .i64 (l[k]).day, .int .i64 (l[k]).rail, .int .i64 (l[k]).bus, .int .i64 (l[k]).capped, .int .i64 (l[k]).most, .int .i64 (l[k]).low, .int .i64 (l[k]).high] 57)
          have HD := Box.new wr #[.int .i64 (l[k]).day, .int .i64 (l[k]).rail, .int .i64 (l[k]).bus, .int .i64 (l[k]).capped, .int .i64 (l[k]).most, .int .i64 (l[k]).low, .int .i64 (l[k]).high] 57
          replace HX := HX.below' hz
          replace hB := bThen hB hz
          clear c0 c1 c2 c3 c4 c5 c6 hz t0 t1 t2 t3 t4 t5 t6 t7 t8 t9 t10 t11 t12 t13 ltx
          have hok' := hok.step (t := tr) (d := l[k]) (o := o)
          have hbk := bad_ok (t := tr) (d := l[k]) (o := o)
          have hzr := zWith_ref (t := tr) (d := l[k]) (o := o) (z := (z1, z2)) hzz.out
          have S := fun W h => ref_sp tr m l[k].low l[k].high W h hcp
          rw [spRes_out] at S
          have eh := Lib.hid (spOut_has (spFind tr.sp l[k].low l[k].high))
          have hbr := fun (hh : lateB l[k] o = false) => bad_rest (t := tr) (d := l[k]) (o := o) hh
          generalize spOut (spFind tr.sp l[k].low l[k].high) = so at *
          obtain ⟨s1, s2, s3, s4, s5, s6⟩ := so
          simp only at S
          refine (S _ (hT.keep hB)).mono ?_
          rintro _ w6 ⟨rfl, hb⟩
          replace HX := HX.below' hb
          replace HD := HD.below' hb
          replace hB := bThen hB hb
          clear hb S
          have hfail0 : ∀ s, s ≠ 0 → badF tr l[k] o = s → weekC tr l = (0, s) := by
            intro s h1 h2
            have h3 := hgo.out
            rw [if_neg (by rw [h2]; exact h1)] at h3
            rw [HE.out, ← h3]
            simp [h2, h1]
          have hgo0 : badF tr l[k] o = 0 → wkGo tr (l.drop (k + 1)) (some l[k]) (wkStep ⟨ra, bu, mo, z1, z2⟩ l[k]) = wkGo tr l none ⟨0, 0, 0, 0, 0⟩ := fun h => by have h3 := hgo.out; rwa [if_pos h] at h3
          have ho3 : Hid (some l[k] = if k + 1 = 0 then none else l[k + 1 - 1]?) := by simp [Hid, hlt]
          clear hgo
          go_wp2_with fail
          have hz2 := bAlloc (Below.refl w6.heap.size w6) (.cells #[.int .i64 s1, .int .i64 s2, .int .i64 s3, .int .i64 s4, .int .i64 s5] 39)
          replace HX := HX.below' hz2
          replace HD := HD.below' hz2
          replace hB := bThen hB hz2
          clear hz2
          generalize (w6.alloc (.cells #[.int .i64 s1, .int .i64 s2, .int .i64 s3, .int .i64 s4, .int .i64 s5] 39)) = w7 at *
          cases hlate : lateB l[k] o
          · have hbg := hbr hlate
            rw [← show s6 = _ from eh.out] at hbg
            clear hbr eh HE
            by_cases hk0 : k = 0
            · have hn : ¬ (0 : Int) < (k : Int) := by omega
              have hn2 : ¬ 0 < k := by omega
              clear hA ho hk0
              generalize l[k] = d at *
              have HDa := (HD).cell 0; have HDb := (HD).cell 1; have HDc := (HD).cell 2; have HDd := (HD).cell 3; have HDe := (HD).cell 4; have HDf := (HD).cell 5; have HDg := (HD).cell 6; have HDl := (HD).lt; simp at HDa HDb HDc HDd HDe HDf HDg
              (refine wp_region_calm_lit (by kernel_rfl) (by kernel_rfl) ?_; (repeat (go_big_quiet_step (fail))); refine wpQuiet_nil ?_; intro _ hw'; obtain ⟨nq, hw''⟩ := hw'; subst hw'')
              have hwe := World.below_ext w7 nq
              replace HX := HX.below' hwe
              replace HD := HD.below' hwe
              replace hB := bThen hB hwe
              clear hwe HDa HDb HDc HDd HDe HDf HDg HDl
              generalize w7.ext nq = w8 at *
              have hfail := Lib.hid hfail0
              have hgo1 := Lib.hid hgo0
              have HBG := Lib.hid hbg
              clear hfail0 hgo0 hbg hlate
              have Q1 := fun W => sum_calls d.rail W
              have Q2 := fun W => sum_calls d.bus W
              have Q3 := fun W => sum_calls d.capped W
              have Q4 := fun W => sum_calls d.most W
              generalize e1 : sumB d.rail = b1 at Q1
              generalize e2 : sumB d.bus = b2 at Q2
              generalize e3 : sumB d.capped = b3 at Q3
              generalize e4 : sumB d.most = b4 at Q4
              have E1 := Lib.hid e1
              have E2 := Lib.hid e2
              have E3 := Lib.hid e3
              have E4 := Lib.hid e4
              clear e1 e2 e3 e4
              have HDa := (HD).cell 0; have HDb := (HD).cell 1; have HDc := (HD).cell 2; have HDd := (HD).cell 3; have HDe := (HD).cell 4; have HDf := (HD).cell 5; have HDg := (HD).cell 6; have HDl := (HD).lt; simp at HDa HDb HDc HDd HDe HDf HDg
              cases b1
              · go_wp2_with (first | (go_at_call 104; with_reducible refine (Q1 _).mono ?_; rintro e w' ⟨rfl, rfl⟩) | (go_at_call 104; with_reducible refine (Q2 _).mono ?_; rintro e w' ⟨rfl, rfl⟩) | (go_at_call 104; with_reducible refine (Q3 _).mono ?_; rintro e w' ⟨rfl, rfl⟩) | (go_at_call 104; with_reducible refine (Q4 _).mono ?_; rintro e w' ⟨rfl, rfl⟩))
                go_ret2
                exact ⟨by rw [hfail.out 50 (by decide) (by rw [HBG.out]; exact badG_50 (.inl E1.out))]; rfl, hB⟩
              cases b2
              · go_wp2_with (first | (go_at_call 104; with_reducible refine (Q1 _).mono ?_; rintro e w' ⟨rfl, rfl⟩) | (go_at_call 104; with_reducible refine (Q2 _).mono ?_; rintro e w' ⟨rfl, rfl⟩) | (go_at_call 104; with_reducible refine (Q3 _).mono ?_; rintro e w' ⟨rfl, rfl⟩) | (go_at_call 104; with_reducible refine (Q4 _).mono ?_; rintro e w' ⟨rfl, rfl⟩))
                go_ret2
                exact ⟨by rw [hfail.out 50 (by decide) (by rw [HBG.out]; exact badG_50 (.inr (.inl E2.out)))]; rfl, hB⟩
              cases b3
              · go_wp2_with (first | (go_at_call 104; with_reducible refine (Q1 _).mono ?_; rintro e w' ⟨rfl, rfl⟩) | (go_at_call 104; with_reducible refine (Q2 _).mono ?_; rintro e w' ⟨rfl, rfl⟩) | (go_at_call 104; with_reducible refine (Q3 _).mono ?_; rintro e w' ⟨rfl, rfl⟩) | (go_at_call 104; with_reducible refine (Q4 _).mono ?_; rintro e w' ⟨rfl, rfl⟩))
                go_ret2
                exact ⟨by rw [hfail.out 50 (by decide) (by rw [HBG.out]; exact badG_50 (.inr (.inr (.inl E3.out))))]; rfl, hB⟩
              cases b4
              · go_wp2_with (first | (go_at_call 104; with_reducible refine (Q1 _).mono ?_; rintro e w' ⟨rfl, rfl⟩) | (go_at_call 104; with_reducible refine (Q2 _).mono ?_; rintro e w' ⟨rfl, rfl⟩) | (go_at_call 104; with_reducible refine (Q3 _).mono ?_; rintro e w' ⟨rfl, rfl⟩) | (go_at_call 104; with_reducible refine (Q4 _).mono ?_; rintro e w' ⟨rfl, rfl⟩))
                go_ret2
                exact ⟨by rw [hfail.out 50 (by decide) (by rw [HBG.out]; exact badG_50 (.inr (.inr (.inr E4.out))))]; rfl, hB⟩
              by_cases hcb : d.capped < d.bus
              · go_wp2_with (first | (go_at_call 104; with_reducible refine (Q1 _).mono ?_; rintro e w' ⟨rfl, rfl⟩) | (go_at_call 104; with_reducible refine (Q2 _).mono ?_; rintro e w' ⟨rfl, rfl⟩) | (go_at_call 104; with_reducible refine (Q3 _).mono ?_; rintro e w' ⟨rfl, rfl⟩) | (go_at_call 104; with_reducible refine (Q4 _).mono ?_; rintro e w' ⟨rfl, rfl⟩))
                go_ret2
                exact ⟨by rw [hfail.out 50 (by decide) (by rw [HBG.out]; rw [badG_go ⟨E1.out, E2.out, E3.out, E4.out⟩, if_pos hcb])]; rfl, hB⟩
              have hg := badG_go (has := s6) ⟨E1.out, E2.out, E3.out, E4.out⟩
              rw [← HBG.out, if_neg hcb] at hg
              have HG := Lib.hid hg
              clear hg HBG E1 E2 E3 E4
              by_cases hl0 : d.low = 0
              · by_cases hh0 : d.high = 0
                · have hbad0 := HG.out
                  rw [if_pos ⟨hl0, hh0⟩] at hbad0
                  have hok3 := hok' hbad0
                  obtain ⟨-, hr_, hbu_, hca_, hmo_, hcb_, -⟩ := hbk hbad0
                  have hz4 := Lib.hid (hzr hbad0).1
                  have hz3 := Lib.hid (hzr hbad0).2
                  have hgo3 := Lib.hid (hgo1.out hbad0)
                  clear hbk hok' hzr hbad0 hfail HG
                  go_wp2_with (first | (go_at_call 104; with_reducible refine (Q1 _).mono ?_; rintro e w' ⟨rfl, rfl⟩) | (go_at_call 104; with_reducible refine (Q2 _).mono ?_; rintro e w' ⟨rfl, rfl⟩) | (go_at_call 104; with_reducible refine (Q3 _).mono ?_; rintro e w' ⟨rfl, rfl⟩) | (go_at_call 104; with_reducible refine (Q4 _).mono ?_; rintro e w' ⟨rfl, rfl⟩))
                  all_goals
                    go_roundw
                    case rel =>
                      refine ⟨k + 1, wkStep ⟨ra, bu, mo, z1, z2⟩ d, some d, by omega, ?_, ?_, ?_, ?_, ?_, ?_, hok3, hgo3, ho3, hz3, HX, hB⟩
                      · go_num
                      · exact congrArg _ (show _ = ra + (d.capped - d.bus) by omega)
                      · go_num
                      · refine congrArg _ ?_
                        show _ = (zWith (z1, z2) d.low d.high).1
                        rw [hz4.out]
                        show _ = rLow (z1, z2) d.low
                        have hzo := hzz.out
                        unfold rLow
                        simp only
                        (repeat' split) <;> first | omega | (simp only [beq_iff_eq] at *; omega)
                      · refine congrArg _ ?_
                        show _ = (zWith (z1, z2) d.low d.high).2
                        rw [hz4.out]
                        show _ = mx z2 d.high
                        unfold mx
                        (repeat' split) <;> omega
                      · go_num
                    case measure => simp [intOf]; omega
                · go_wp2_with (first | (go_at_call 104; with_reducible refine (Q1 _).mono ?_; rintro e w' ⟨rfl, rfl⟩) | (go_at_call 104; with_reducible refine (Q2 _).mono ?_; rintro e w' ⟨rfl, rfl⟩) | (go_at_call 104; with_reducible refine (Q3 _).mono ?_; rintro e w' ⟨rfl, rfl⟩) | (go_at_call 104; with_reducible refine (Q4 _).mono ?_; rintro e w' ⟨rfl, rfl⟩))
                  go_ret2
                  exact ⟨by rw [hfail.out 1 (by decide) (by rw [HG.out]; rw [if_neg (by omega), if_pos (.inr (.inl (by omega)))])]; rfl, hB⟩
              · by_cases hl1 : d.low < 1
                · go_wp2_with (first | (go_at_call 104; with_reducible refine (Q1 _).mono ?_; rintro e w' ⟨rfl, rfl⟩) | (go_at_call 104; with_reducible refine (Q2 _).mono ?_; rintro e w' ⟨rfl, rfl⟩) | (go_at_call 104; with_reducible refine (Q3 _).mono ?_; rintro e w' ⟨rfl, rfl⟩) | (go_at_call 104; with_reducible refine (Q4 _).mono ?_; rintro e w' ⟨rfl, rfl⟩))
                  go_ret2
                  exact ⟨by rw [hfail.out 1 (by decide) (by rw [HG.out]; rw [if_neg (by omega), if_pos (.inr (.inl hl1))])]; rfl, hB⟩
                by_cases hh1 : d.high < d.low
                · go_wp2_with (first | (go_at_call 104; with_reducible refine (Q1 _).mono ?_; rintro e w' ⟨rfl, rfl⟩) | (go_at_call 104; with_reducible refine (Q2 _).mono ?_; rintro e w' ⟨rfl, rfl⟩) | (go_at_call 104; with_reducible refine (Q3 _).mono ?_; rintro e w' ⟨rfl, rfl⟩) | (go_at_call 104; with_reducible refine (Q4 _).mono ?_; rintro e w' ⟨rfl, rfl⟩))
                  go_ret2
                  exact ⟨by rw [hfail.out 1 (by decide) (by rw [HG.out]; rw [if_neg (by omega), if_pos (.inr (.inr hh1))])]; rfl, hB⟩
                cases s6
                · go_wp2_with (first | (go_at_call 104; with_reducible refine (Q1 _).mono ?_; rintro e w' ⟨rfl, rfl⟩) | (go_at_call 104; with_reducible refine (Q2 _).mono ?_; rintro e w' ⟨rfl, rfl⟩) | (go_at_call 104; with_reducible refine (Q3 _).mono ?_; rintro e w' ⟨rfl, rfl⟩) | (go_at_call 104; with_reducible refine (Q4 _).mono ?_; rintro e w' ⟨rfl, rfl⟩))
                  go_ret2
                  exact ⟨by rw [hfail.out 1 (by decide) (by rw [HG.out]; rw [if_neg (by omega), if_pos (by first | exact .inl rfl | exact .inl trivial)])]; rfl, hB⟩
                · have hbad0 := HG.out
                  rw [if_neg (by omega), if_neg (by simp; omega)] at hbad0
                  have hok3 := hok' hbad0
                  obtain ⟨-, hr_, hbu_, hca_, hmo_, hcb_, -⟩ := hbk hbad0
                  have hz4 := Lib.hid (hzr hbad0).1
                  have hz3 := Lib.hid (hzr hbad0).2
                  have hgo3 := Lib.hid (hgo1.out hbad0)
                  clear hbk hok' hzr hbad0 hfail HG
                  go_wp2_with (first | (go_at_call 104; with_reducible refine (Q1 _).mono ?_; rintro e w' ⟨rfl, rfl⟩) | (go_at_call 104; with_reducible refine (Q2 _).mono ?_; rintro e w' ⟨rfl, rfl⟩) | (go_at_call 104; with_reducible refine (Q3 _).mono ?_; rintro e w' ⟨rfl, rfl⟩) | (go_at_call 104; with_reducible refine (Q4 _).mono ?_; rintro e w' ⟨rfl, rfl⟩))
                  all_goals
                    go_roundw
                    case rel =>
                      refine ⟨k + 1, wkStep ⟨ra, bu, mo, z1, z2⟩ d, some d, by omega, ?_, ?_, ?_, ?_, ?_, ?_, hok3, hgo3, ho3, hz3, HX, hB⟩
                      · go_num
                      · exact congrArg _ (show _ = ra + (d.capped - d.bus) by omega)
                      · go_num
                      · refine congrArg _ ?_
                        show _ = (zWith (z1, z2) d.low d.high).1
                        rw [hz4.out]
                        show _ = rLow (z1, z2) d.low
                        have hzo := hzz.out
                        unfold rLow
                        simp only
                        (repeat' split) <;> first | omega | (simp only [beq_iff_eq] at *; omega)
                      · refine congrArg _ ?_
                        show _ = (zWith (z1, z2) d.low d.high).2
                        rw [hz4.out]
                        show _ = mx z2 d.high
                        unfold mx
                        (repeat' split) <;> omega
                      · go_num
                    case measure => simp [intOf]; omega
            · obtain ⟨b', off', hA3, e0, -⟩ := elemDy hA hB (k - 1) (by omega)
              cases hA3
              have lto := World.block_lt_of_cell? _ _ e0
              have ho' : o = some l[k - 1] := by rw [ho.out, if_neg hk0, List.getElem?_eq_getElem (by omega)]
              rw [ho'] at hlate
              have hp : (0 : Int) < (k : Int) := by omega
              have hp2 : 0 < k := by omega
              have hkm : ((k : Int) - 1).toNat = k - 1 := by omega
              clear hA ho ho' hk0
              generalize l[k - 1] = x at *
              generalize l[k] = d at *
              have K := fun W => rweek_calls d.day W
              have L := fun W => rweek_calls x.day W
              simp only [lateB, Bool.or_eq_false_iff] at hlate
              obtain ⟨h1, h2⟩ := hlate
              have hlate := 0
              generalize weekF d.day = wd at *
              generalize weekF x.day = wx at *
              have HDa := (HD).cell 0; have HDb := (HD).cell 1; have HDc := (HD).cell 2; have HDd := (HD).cell 3; have HDe := (HD).cell 4; have HDf := (HD).cell 5; have HDg := (HD).cell 6; have HDl := (HD).lt; simp at HDa HDb HDc HDd HDe HDf HDg
              (refine wp_region_calm_lit (by kernel_rfl) (by kernel_rfl) ?_; (repeat (go_big_quiet_step (first | (go_at_call 103; with_reducible exact Calls.calm (K _)) | (go_at_call 103; with_reducible exact Calls.calm (L _))))); refine wpQuiet_nil ?_; intro _ hw'; obtain ⟨nq, hw''⟩ := hw'; subst hw'')
              clear K L h1 h2 e0 lto
              have hwe := World.below_ext w7 nq
              replace HX := HX.below' hwe
              replace HD := HD.below' hwe
              replace hB := bThen hB hwe
              clear hwe HDa HDb HDc HDd HDe HDf HDg HDl
              generalize w7.ext nq = w8 at *
              have hfail := Lib.hid hfail0
              have hgo1 := Lib.hid hgo0
              have HBG := Lib.hid hbg
              clear hfail0 hgo0 hbg hlate
              have Q1 := fun W => sum_calls d.rail W
              have Q2 := fun W => sum_calls d.bus W
              have Q3 := fun W => sum_calls d.capped W
              have Q4 := fun W => sum_calls d.most W
              generalize e1 : sumB d.rail = b1 at Q1
              generalize e2 : sumB d.bus = b2 at Q2
              generalize e3 : sumB d.capped = b3 at Q3
              generalize e4 : sumB d.most = b4 at Q4
              have E1 := Lib.hid e1
              have E2 := Lib.hid e2
              have E3 := Lib.hid e3
              have E4 := Lib.hid e4
              clear e1 e2 e3 e4
              have HDa := (HD).cell 0; have HDb := (HD).cell 1; have HDc := (HD).cell 2; have HDd := (HD).cell 3; have HDe := (HD).cell 4; have HDf := (HD).cell 5; have HDg := (HD).cell 6; have HDl := (HD).lt; simp at HDa HDb HDc HDd HDe HDf HDg
              cases b1
              · go_wp2_with (first | (go_at_call 104; with_reducible refine (Q1 _).mono ?_; rintro e w' ⟨rfl, rfl⟩) | (go_at_call 104; with_reducible refine (Q2 _).mono ?_; rintro e w' ⟨rfl, rfl⟩) | (go_at_call 104; with_reducible refine (Q3 _).mono ?_; rintro e w' ⟨rfl, rfl⟩) | (go_at_call 104; with_reducible refine (Q4 _).mono ?_; rintro e w' ⟨rfl, rfl⟩))
                go_ret2
                exact ⟨by rw [hfail.out 50 (by decide) (by rw [HBG.out]; exact badG_50 (.inl E1.out))]; rfl, hB⟩
              cases b2
              · go_wp2_with (first | (go_at_call 104; with_reducible refine (Q1 _).mono ?_; rintro e w' ⟨rfl, rfl⟩) | (go_at_call 104; with_reducible refine (Q2 _).mono ?_; rintro e w' ⟨rfl, rfl⟩) | (go_at_call 104; with_reducible refine (Q3 _).mono ?_; rintro e w' ⟨rfl, rfl⟩) | (go_at_call 104; with_reducible refine (Q4 _).mono ?_; rintro e w' ⟨rfl, rfl⟩))
                go_ret2
                exact ⟨by rw [hfail.out 50 (by decide) (by rw [HBG.out]; exact badG_50 (.inr (.inl E2.out)))]; rfl, hB⟩
              cases b3
              · go_wp2_with (first | (go_at_call 104; with_reducible refine (Q1 _).mono ?_; rintro e w' ⟨rfl, rfl⟩) | (go_at_call 104; with_reducible refine (Q2 _).mono ?_; rintro e w' ⟨rfl, rfl⟩) | (go_at_call 104; with_reducible refine (Q3 _).mono ?_; rintro e w' ⟨rfl, rfl⟩) | (go_at_call 104; with_reducible refine (Q4 _).mono ?_; rintro e w' ⟨rfl, rfl⟩))
                go_ret2
                exact ⟨by rw [hfail.out 50 (by decide) (by rw [HBG.out]; exact badG_50 (.inr (.inr (.inl E3.out))))]; rfl, hB⟩
              cases b4
              · go_wp2_with (first | (go_at_call 104; with_reducible refine (Q1 _).mono ?_; rintro e w' ⟨rfl, rfl⟩) | (go_at_call 104; with_reducible refine (Q2 _).mono ?_; rintro e w' ⟨rfl, rfl⟩) | (go_at_call 104; with_reducible refine (Q3 _).mono ?_; rintro e w' ⟨rfl, rfl⟩) | (go_at_call 104; with_reducible refine (Q4 _).mono ?_; rintro e w' ⟨rfl, rfl⟩))
                go_ret2
                exact ⟨by rw [hfail.out 50 (by decide) (by rw [HBG.out]; exact badG_50 (.inr (.inr (.inr E4.out))))]; rfl, hB⟩
              by_cases hcb : d.capped < d.bus
              · go_wp2_with (first | (go_at_call 104; with_reducible refine (Q1 _).mono ?_; rintro e w' ⟨rfl, rfl⟩) | (go_at_call 104; with_reducible refine (Q2 _).mono ?_; rintro e w' ⟨rfl, rfl⟩) | (go_at_call 104; with_reducible refine (Q3 _).mono ?_; rintro e w' ⟨rfl, rfl⟩) | (go_at_call 104; with_reducible refine (Q4 _).mono ?_; rintro e w' ⟨rfl, rfl⟩))
                go_ret2
                exact ⟨by rw [hfail.out 50 (by decide) (by rw [HBG.out]; rw [badG_go ⟨E1.out, E2.out, E3.out, E4.out⟩, if_pos hcb])]; rfl, hB⟩
              have hg := badG_go (has := s6) ⟨E1.out, E2.out, E3.out, E4.out⟩
              rw [← HBG.out, if_neg hcb] at hg
              have HG := Lib.hid hg
              clear hg HBG E1 E2 E3 E4
              by_cases hl0 : d.low = 0
              · by_cases hh0 : d.high = 0
                · have hbad0 := HG.out
                  rw [if_pos ⟨hl0, hh0⟩] at hbad0
                  have hok3 := hok' hbad0
                  obtain ⟨-, hr_, hbu_, hca_, hmo_, hcb_, -⟩ := hbk hbad0
                  have hz4 := Lib.hid (hzr hbad0).1
                  have hz3 := Lib.hid (hzr hbad0).2
                  have hgo3 := Lib.hid (hgo1.out hbad0)
                  clear hbk hok' hzr hbad0 hfail HG
                  go_wp2_with (first | (go_at_call 104; with_reducible refine (Q1 _).mono ?_; rintro e w' ⟨rfl, rfl⟩) | (go_at_call 104; with_reducible refine (Q2 _).mono ?_; rintro e w' ⟨rfl, rfl⟩) | (go_at_call 104; with_reducible refine (Q3 _).mono ?_; rintro e w' ⟨rfl, rfl⟩) | (go_at_call 104; with_reducible refine (Q4 _).mono ?_; rintro e w' ⟨rfl, rfl⟩))
                  all_goals
                    go_roundw
                    case rel =>
                      refine ⟨k + 1, wkStep ⟨ra, bu, mo, z1, z2⟩ d, some d, by omega, ?_, ?_, ?_, ?_, ?_, ?_, hok3, hgo3, ho3, hz3, HX, hB⟩
                      · go_num
                      · exact congrArg _ (show _ = ra + (d.capped - d.bus) by omega)
                      · go_num
                      · refine congrArg _ ?_
                        show _ = (zWith (z1, z2) d.low d.high).1
                        rw [hz4.out]
                        show _ = rLow (z1, z2) d.low
                        have hzo := hzz.out
                        unfold rLow
                        simp only
                        (repeat' split) <;> first | omega | (simp only [beq_iff_eq] at *; omega)
                      · refine congrArg _ ?_
                        show _ = (zWith (z1, z2) d.low d.high).2
                        rw [hz4.out]
                        show _ = mx z2 d.high
                        unfold mx
                        (repeat' split) <;> omega
                      · go_num
                    case measure => simp [intOf]; omega
                · go_wp2_with (first | (go_at_call 104; with_reducible refine (Q1 _).mono ?_; rintro e w' ⟨rfl, rfl⟩) | (go_at_call 104; with_reducible refine (Q2 _).mono ?_; rintro e w' ⟨rfl, rfl⟩) | (go_at_call 104; with_reducible refine (Q3 _).mono ?_; rintro e w' ⟨rfl, rfl⟩) | (go_at_call 104; with_reducible refine (Q4 _).mono ?_; rintro e w' ⟨rfl, rfl⟩))
                  go_ret2
                  exact ⟨by rw [hfail.out 1 (by decide) (by rw [HG.out]; rw [if_neg (by omega), if_pos (.inr (.inl (by omega)))])]; rfl, hB⟩
              · by_cases hl1 : d.low < 1
                · go_wp2_with (first | (go_at_call 104; with_reducible refine (Q1 _).mono ?_; rintro e w' ⟨rfl, rfl⟩) | (go_at_call 104; with_reducible refine (Q2 _).mono ?_; rintro e w' ⟨rfl, rfl⟩) | (go_at_call 104; with_reducible refine (Q3 _).mono ?_; rintro e w' ⟨rfl, rfl⟩) | (go_at_call 104; with_reducible refine (Q4 _).mono ?_; rintro e w' ⟨rfl, rfl⟩))
                  go_ret2
                  exact ⟨by rw [hfail.out 1 (by decide) (by rw [HG.out]; rw [if_neg (by omega), if_pos (.inr (.inl hl1))])]; rfl, hB⟩
                by_cases hh1 : d.high < d.low
                · go_wp2_with (first | (go_at_call 104; with_reducible refine (Q1 _).mono ?_; rintro e w' ⟨rfl, rfl⟩) | (go_at_call 104; with_reducible refine (Q2 _).mono ?_; rintro e w' ⟨rfl, rfl⟩) | (go_at_call 104; with_reducible refine (Q3 _).mono ?_; rintro e w' ⟨rfl, rfl⟩) | (go_at_call 104; with_reducible refine (Q4 _).mono ?_; rintro e w' ⟨rfl, rfl⟩))
                  go_ret2
                  exact ⟨by rw [hfail.out 1 (by decide) (by rw [HG.out]; rw [if_neg (by omega), if_pos (.inr (.inr hh1))])]; rfl, hB⟩
                cases s6
                · go_wp2_with (first | (go_at_call 104; with_reducible refine (Q1 _).mono ?_; rintro e w' ⟨rfl, rfl⟩) | (go_at_call 104; with_reducible refine (Q2 _).mono ?_; rintro e w' ⟨rfl, rfl⟩) | (go_at_call 104; with_reducible refine (Q3 _).mono ?_; rintro e w' ⟨rfl, rfl⟩) | (go_at_call 104; with_reducible refine (Q4 _).mono ?_; rintro e w' ⟨rfl, rfl⟩))
                  go_ret2
                  exact ⟨by rw [hfail.out 1 (by decide) (by rw [HG.out]; rw [if_neg (by omega), if_pos (by first | exact .inl rfl | exact .inl trivial)])]; rfl, hB⟩
                · have hbad0 := HG.out
                  rw [if_neg (by omega), if_neg (by simp; omega)] at hbad0
                  have hok3 := hok' hbad0
                  obtain ⟨-, hr_, hbu_, hca_, hmo_, hcb_, -⟩ := hbk hbad0
                  have hz4 := Lib.hid (hzr hbad0).1
                  have hz3 := Lib.hid (hzr hbad0).2
                  have hgo3 := Lib.hid (hgo1.out hbad0)
                  clear hbk hok' hzr hbad0 hfail HG
                  go_wp2_with (first | (go_at_call 104; with_reducible refine (Q1 _).mono ?_; rintro e w' ⟨rfl, rfl⟩) | (go_at_call 104; with_reducible refine (Q2 _).mono ?_; rintro e w' ⟨rfl, rfl⟩) | (go_at_call 104; with_reducible refine (Q3 _).mono ?_; rintro e w' ⟨rfl, rfl⟩) | (go_at_call 104; with_reducible refine (Q4 _).mono ?_; rintro e w' ⟨rfl, rfl⟩))
                  all_goals
                    go_roundw
                    case rel =>
                      refine ⟨k + 1, wkStep ⟨ra, bu, mo, z1, z2⟩ d, some d, by omega, ?_, ?_, ?_, ?_, ?_, ?_, hok3, hgo3, ho3, hz3, HX, hB⟩
                      · go_num
                      · exact congrArg _ (show _ = ra + (d.capped - d.bus) by omega)
                      · go_num
                      · refine congrArg _ ?_
                        show _ = (zWith (z1, z2) d.low d.high).1
                        rw [hz4.out]
                        show _ = rLow (z1, z2) d.low
                        have hzo := hzz.out
                        unfold rLow
                        simp only
                        (repeat' split) <;> first | omega | (simp only [beq_iff_eq] at *; omega)
                      · refine congrArg _ ?_
                        show _ = (zWith (z1, z2) d.low d.high).2
                        rw [hz4.out]
                        show _ = mx z2 d.high
                        unfold mx
                        (repeat' split) <;> omega
                      · go_num
                    case measure => simp [intOf]; omega
          · have hf := Lib.hid (hfail0 60 (by decide) (bad_late hlate))
            clear hfail0 hgo0 hok' hbk hzr hok hbr eh HE
            by_cases hk0 : k = 0
            · subst hk0; rw [ho.out] at hlate; simp [lateB] at hlate
            · obtain ⟨b', off', hA3, e0, -⟩ := elemDy hA hB (k - 1) (by omega)
              cases hA3
              have lto := World.block_lt_of_cell? _ _ e0
              have ho' : o = some l[k - 1] := by rw [ho.out, if_neg hk0, List.getElem?_eq_getElem (by omega)]
              rw [ho'] at hlate
              have hp : (0 : Int) < (k : Int) := by omega
              have hp2 : 0 < k := by omega
              have hkm : ((k : Int) - 1).toNat = k - 1 := by omega
              clear ho ho' hk0 ho3
              generalize l[k - 1] = x at *
              generalize l[k] = d at *
              have K := fun W => rweek_calls d.day W
              have L := fun W => rweek_calls x.day W
              simp only [lateB] at hlate
              cases h1 : decide (d.day ≤ x.day)
              · rw [h1, Bool.false_or] at hlate
                generalize weekF d.day = wd at *
                generalize weekF x.day = wx at *
                have HDa := (HD).cell 0; have HDb := (HD).cell 1; have HDc := (HD).cell 2; have HDd := (HD).cell 3; have HDe := (HD).cell 4; have HDf := (HD).cell 5; have HDg := (HD).cell 6; have HDl := (HD).lt; simp at HDa HDb HDc HDd HDe HDf HDg
                (refine wp_region_calm_lit (by kernel_rfl) (by kernel_rfl) ?_; (repeat (go_big_quiet_step (first | (go_at_call 103; with_reducible exact Calls.calm (K _)) | (go_at_call 103; with_reducible exact Calls.calm (L _))))); refine wpQuiet_nil ?_; intro _ hw'; obtain ⟨nq, hw''⟩ := hw'; subst hw'')
                go_wp2_with fail
                go_ret2
                exact ⟨by rw [hf.out]; rfl, bThen hB (World.below_ext _ _)⟩
              · have HDa := (HD).cell 0; have HDb := (HD).cell 1; have HDc := (HD).cell 2; have HDd := (HD).cell 3; have HDe := (HD).cell 4; have HDf := (HD).cell 5; have HDg := (HD).cell 6; have HDl := (HD).lt; simp at HDa HDb HDc HDd HDe HDf HDg
                (refine wp_region_calm_lit (by kernel_rfl) (by kernel_rfl) ?_; (repeat (go_big_quiet_step (fail))); refine wpQuiet_nil ?_; intro _ hw'; obtain ⟨nq, hw''⟩ := hw'; subst hw'')
                go_wp2_with fail
                go_ret2
                exact ⟨by rw [hf.out]; rfl, bThen hB (World.below_ext _ _)⟩
        · obtain rfl : k = l.length := by omega
          rw [List.drop_length] at hgo
          have hE := HE.out
          rw [← hgo.out] at hE
          simp only [wkGo, ne_eq, not_true_eq_false, if_false] at hE
          have HF := Lib.hid hE
          clear hE HE hgo
          obtain ⟨t0, t1, t2, t3, t4, t5, t6, t7, t8, t9, t10, t11, t12, t13⟩ := tcells HX
          have ltx := HX.lt
          have hbd := (ok_prices HRR.out).2.2.1
          have hsp := (spanOf_range HRR.out (z1, z2)).2
          have S := fun W h => ref_sp tr m z1 z2 W h hcp
          rw [spRes_out] at S
          have ew : spanOf tr (z1, z2) Span.weekly = (spOut (spFind tr.sp z1 z2)).2.2.2.2.1 := by unfold spanOf; cases spFind tr.sp z1 z2 <;> rfl
          have hq : wkEnd tr ⟨ra, bu, mo, z1, z2⟩ = (if z1 = 0 then ra + mn bu tr.busWeekly else mn (ra + mn bu tr.busWeekly) (mx (spanOf tr (z1, z2) Span.weekly) (mn bu tr.busWeekly))) + mo := rfl
          rw [ew] at hq hsp
          clear ew
          generalize spOut (spFind tr.sp z1 z2) = so at *
          obtain ⟨s1, s2, s3, s4, s5, s6⟩ := so
          simp only at S hq hsp
          have HQ := Lib.hid hq
          clear hq
          rcases hzz.out with ⟨hz1, hz2⟩ | ⟨hz1, hz2⟩
          · subst hz1
            go_wp2_with fail
            all_goals
              go_ret2
              exact ⟨by rw [HF.out]; refine ret_two ?_ rfl; show _ = wkEnd _ _; rw [HQ.out]; unfold mn; rw [if_pos trivial]; split <;> omega, hB⟩
          · go_wp2_with fail
            all_goals
              refine (S _ (hT.keep hB)).mono ?_
              rintro _ w8 ⟨rfl, hb8⟩
              replace hB := bThen hB hb8
              go_wp2_with fail
              all_goals
                go_ret2
                exact ⟨by rw [HF.out]; refine ret_two ?_ rfl; show _ = wkEnd _ _; rw [HQ.out]; unfold mn mx; rw [if_neg (by omega)]; (repeat' split) <;> omega, by (repeat (first | (with_reducible exact hB) | (with_reducible refine bAlloc ?_ _) | (with_reducible refine bDrewN ?_ _) | (with_reducible refine bDrew ?_) | (with_reducible refine bSet ?_ (by first | exact Nat.le_refl _ | (simp; omega) | omega) _) | (with_reducible refine bThen ?_ (by with_reducible assumption))))⟩
  · have e : weekC tr l = (0, rightF tr) := by simp [weekC, hr]
    rw [e]
    clear e
    generalize rightF tr = er at *
    go_enter Try.func45, Try.ntmps45
    go_wp2_with fail
    refine (R _ hT0).mono ?_
    rintro _ wq ⟨rfl, hb⟩
    go_wp2_with fail
    go_ret2
    exact ⟨rfl, bThen hB hb⟩
end Go.Proofs.Ytmeogadkbbeglaa
