/- The walk of caps.Week. -/
import Derived.Test.YtmeogadkbbeglaaK18
namespace Go.Proofs.Ytmeogadkbbeglaa
open Go.RowKit Go.Proofs.YtmeogadkbbeglaaQ
set_option maxHeartbeats 3200000
set_option maxRecDepth 100000
theorem elemDy {w w' : World} {A : Option Addr} {xs : List DayC} (h : SliceAt w 7 DayC.vals A xs) (hb : Below w.heap.size w w') (k : Nat) (hk : k < xs.length) :
    ∃ b off, A = some ⟨b, off, none⟩ ∧ w'.cell? ⟨b, off + k * 7, none⟩ = some (.int .i64 xs[k].day) ∧ w'.cell? ⟨b, off + k * 7 + 1, none⟩ = some (.int .i64 xs[k].rail) ∧ w'.cell? ⟨b, off + k * 7 + 2, none⟩ = some (.int .i64 xs[k].bus)
      ∧ w'.cell? ⟨b, off + k * 7 + 3, none⟩ = some (.int .i64 xs[k].capped) ∧ w'.cell? ⟨b, off + k * 7 + 4, none⟩ = some (.int .i64 xs[k].most) ∧ w'.cell? ⟨b, off + k * 7 + 5, none⟩ = some (.int .i64 xs[k].low) ∧ w'.cell? ⟨b, off + k * 7 + 6, none⟩ = some (.int .i64 xs[k].high) := by
  obtain ⟨b, off, e, hc⟩ := h.2 k xs[k] (by simp [hk])
  exact ⟨b, off, e, keep hb (hc 0 _ rfl), keep hb (hc 1 _ rfl), keep hb (hc 2 _ rfl), keep hb (hc 3 _ rfl), keep hb (hc 4 _ rfl), keep hb (hc 5 _ rfl), keep hb (hc 6 _ rfl)⟩
theorem held_range {t : Tariff} (hr : rightF t = 0) {z : Int × Int} {r b : Int} (h1 : 0 ≤ r) (h2 : 0 ≤ b) : 0 ≤ heldF t z r b Span.weekly ∧ heldF t z r b Span.weekly ≤ r + b := by
  have hs := (spanOf_range hr z).2
  unfold heldF mn mx
  split
  · omega
  · split <;> split <;> omega
theorem week_calls (tr : Tariff) (m : TMem) (l : List DayC) (A : Option Addr) (c : Nat) (w : World) (hT : tr.At w m) (hA : SliceAt w 7 DayC.vals A l) :
    Calls Try.prog 44 #[.agg (tr.cells m), .slice A l.length c] w fun e w' => e = .returned (.tuple #[.int .i64 (weekC tr l).1, .int .i64 (weekC tr l).2]) ∧ Below w.heap.size w w' := by
  have HB := Below.refl w.heap.size w
  have hlen := hA.len
  have HX := Box.new w (tr.cells m) 27
  have hB := bAlloc HB (.cells (tr.cells m) 27)
  have R := fun W h => right_calls tr m W h
  have hT0 := hT.keep hB
  by_cases hr : rightF tr = 0
  · rw [hr] at R
    by_cases hl : 7 < l.length
    · have e : weekC tr l = (0, 2) := by simp [weekC, hr, hl]
      rw [e]
      clear e hr
      have hl' : (7 : Int) < (l.length : Int) := by omega
      go_enter Try.func44, Try.ntmps44
      go_wp2_with fail
      refine (R _ hT0).mono ?_
      rintro _ wq ⟨rfl, hb⟩
      go_wp2_with fail
      go_ret2
      exact ⟨rfl, bThen hB hb⟩
    · have e : weekC tr l = if (wkGo tr l none ⟨0, 0, 0, 0, 0⟩).1 ≠ 0 then (0, (wkGo tr l none ⟨0, 0, 0, 0, 0⟩).1) else (wkEnd tr (wkGo tr l none ⟨0, 0, 0, 0, 0⟩).2, 0) := by simp [weekC, hr, hl]
      have HE := Lib.hid e
      have HRR := Lib.hid hr
      clear e hr
      have hl' : ¬ (7 : Int) < (l.length : Int) := by omega
      go_enter Try.func44, Try.ntmps44
      go_wp2_with fail
      refine (R _ hT0).mono ?_
      rintro _ wq ⟨rfl, hb⟩
      replace HX := HX.below' hb
      replace hB := bThen hB hb
      clear hb hT0
      have hge := HX.lt
      go_wp2_with fail
      have HZ := Box.new wq #[.int .i64 0, .int .i64 0] 128
      have hz := bAlloc (Below.refl wq.heap.size wq) (.cells #[.int .i64 0, .int .i64 0] 128)
      replace HX := HX.below' hz
      replace hB := bThen hB hz
      clear hz
      generalize hbo : wq.heap.size = bz at *
      have HBO := Lib.hid hbo
      clear hbo
      generalize (wq.alloc (.cells #[.int .i64 0, .int .i64 0] 128)) = w4 at *
      go_loopw [8, 9, 10, 11, 25] (fun ah ra bu mo i wr => ∃ (k : Nat) (a : WAcc) (o : Option (Nat × Nat × DayC)), k ≤ l.length ∧ ah = .pointer (o.map fun q => ⟨q.1, q.2.1, none⟩) ∧ ra = .int .i64 a.rail ∧ bu = .int .i64 a.bus ∧ mo = .int .i64 a.most ∧ i = .int .i64 k ∧ a.Ok k ∧ Hid (wkGo tr (l.drop k) (o.map fun q => q.2.2) a = wkGo tr l none ⟨0, 0, 0, 0, 0⟩) ∧ Hid (∀ b off x, o = some (b, off, x) → w.cell? ⟨b, off, none⟩ = some (.int .i64 x.day)) ∧ Box wr w.heap.size (tr.cells m) 27 ∧ Box wr bz #[.int .i64 a.z1, .int .i64 a.z2] 128 ∧ Below w.heap.size w wr) (fun _ _ _ _ i _ => l.length - (intOf i).toNat)
      case atStart => exact ⟨0, ⟨0, 0, 0, 0, 0⟩, none, by omega, rfl, rfl, rfl, rfl, rfl, WAcc.Ok.zero, rfl, fun _ _ _ h => (by cases h), HX, HZ, hB⟩
      case round =>
        clear HX HZ hB
        obtain ⟨k, a, o, hk, rfl, rfl, rfl, rfl, rfl, hok, hgo, ho, HX, HZ, hB⟩ := hrel
        obtain ⟨ra, bu, mo, z1, z2⟩ := a
        simp only at HZ hgo
        have hk7 : k ≤ 7 := by omega
        have hok2 := hok
        obtain ⟨r1, r2, b1, b2, m1, m2⟩ := hok2
        simp only at r1 r2 b1 b2 m1 m2
        by_cases hlt : k < l.length
        · obtain ⟨b, off, hA2, c0, c1, c2, c3, c4, c5, c6⟩ := elemDy hA hB k hlt
          obtain ⟨b', off', hA3, c0w, -⟩ := elemDy hA HB k hlt
          rw [hA2] at hA3
          cases hA3
          subst hA2
          rw [drop_cons hlt, wkGo_cons] at hgo
          obtain ⟨t0, t1, t2, t3, t4, t5, t6, t7, t8, t9, t10, t11, t12, t13⟩ := tcells HX
          have ltx := HX.lt
          go_wp2_with fail
          have hz := bAlloc (Below.refl wr.heap.size wr) (.cells #[.int .i64 (l[k]).day, .int .i64 (l[k]).rail, .int .i64 (l[k]).bus, .int .i64 (l[k]).capped, .int .i64 (l[k]).most, .int .i64 (l[k]).low, .int .i64 (l[k]).high] 57)
          have HD := Box.new wr #[.int .i64 (l[k]).day, .int .i64 (l[k]).rail, .int .i64 (l[k]).bus, .int .i64 (l[k]).capped, .int .i64 (l[k]).most, .int .i64 (l[k]).low, .int .i64 (l[k]).high] 57
          replace HX := HX.below' hz
          replace HZ := HZ.below' hz
          replace hB := bThen hB hz
          clear c1 c2 c3 c4 c5 c6 hz t0 t1 t2 t3 t4 t5 t6 t7 t8 t9 t10 t11 t12 t13 ltx
          have hok' := hok.step (t := tr) (d := l[k]) (o := o.map fun q => q.2.2)
          have hbk := bad_ok (t := tr) (d := l[k]) (o := o.map fun q => q.2.2)
          have ho' := fun b off x h => keep hB (ho.out b off x h)
          refine (bad_calls tr m l[k] o _ (hT.keep hB) ho').mono ?_
          rintro _ w6 ⟨rfl, hb⟩
          replace HX := HX.below' hb
          replace HZ := HZ.below' hb
          replace HD := HD.below' hb
          replace hB := bThen hB hb
          clear ho' hb c0
          generalize badF tr l[k] (o.map fun q => q.2.2) = s at *
          by_cases hs : s = 0
          · subst hs
            rw [if_pos rfl] at hgo
            obtain ⟨-, hr_, hbu_, hca_, hmo_, hcb_, -⟩ := hbk rfl
            have hok3 := hok' rfl
            clear hbk hok'
            have HDa := (HD).cell 0; have HDb := (HD).cell 1; have HDc := (HD).cell 2; have HDd := (HD).cell 3; have HDe := (HD).cell 4; have HDf := (HD).cell 5; have HDg := (HD).cell 6; have HDl := (HD).lt; simp at HDa HDb HDc HDd HDe HDf HDg
            have HZa := (HZ).cell 0; have HZb := (HZ).cell 1; have HZl := (HZ).lt; simp at HZa HZb
            generalize l[k] = d at *
            go_wp2_with fail
            refine (with_calls _ _ _ _ _).mono ?_
            rintro _ w7 ⟨rfl, hb7⟩
            have y0 := HZ.free 0
            have y1 := HZ.free 1
            clear HDa HDb HDc HDd HDe HDf HDg HDl HZa HZb HZl y0 y1
            replace HX := HX.below' hb7
            replace HZ := HZ.below' hb7
            replace hB := bThen hB hb7
            clear hb7 HD
            have y0 := HZ.free 0
            have y1 := HZ.free 1
            have HZa := (HZ).cell 0; have HZb := (HZ).cell 1; have HZl := (HZ).lt; simp at HZa HZb
            have nbx : w.heap.size ≠ bz := by omega
            generalize hzz : zWith (z1, z2) d.low d.high = zz at *
            have HZZ := Lib.hid hzz
            clear hzz
            go_wp2_with fail
            go_roundw
            case rel =>
              refine ⟨k + 1, wkStep ⟨ra, bu, mo, z1, z2⟩ d, some (b, off + k * 7, d), by omega, rfl, ?_, ?_, ?_, by go_num, hok3, hgo, fun b1 off1 x1 h1 => ?_, (HX.other _ (by show w.heap.size ≠ bz; omega) _).other _ (by show w.heap.size ≠ bz; omega) _, ((HZ.set 0 _).set 1 _).cast ?_, by (repeat (first | (with_reducible exact hB) | (with_reducible refine bAlloc ?_ _) | (with_reducible refine bDrewN ?_ _) | (with_reducible refine bDrew ?_) | (with_reducible refine bSet ?_ (by first | exact Nat.le_refl _ | (simp; omega) | omega) _) | (with_reducible refine bThen ?_ (by with_reducible assumption))))⟩
              · go_num
              · go_num
              · go_num
              · cases h1; exact c0w
              · simp [wkStep, HZZ.out]
            case measure => simp [intOf]; omega
          · rw [if_neg hs] at hgo
            have hE := HE.out
            rw [← hgo.out, if_pos (show (s, (⟨ra, bu, mo, z1, z2⟩ : WAcc)).1 ≠ 0 from hs)] at hE
            have HF := Lib.hid hE
            clear hE HE hgo
            go_wp2_with fail
            go_ret2
            exact ⟨by rw [HF.out]; rfl, hB⟩
        · obtain rfl : k = l.length := by omega
          rw [List.drop_length] at hgo
          have hE := HE.out
          rw [← hgo.out] at hE
          simp only [wkGo, ne_eq, not_true_eq_false, if_false] at hE
          have HF := Lib.hid hE
          clear hE HE hgo
          obtain ⟨t0, t1, t2, t3, t4, t5, t6, t7, t8, t9, t10, t11, t12, t13⟩ := tcells HX
          have ltx := HX.lt
          have HZa := (HZ).cell 0; have HZb := (HZ).cell 1; have HZl := (HZ).lt; simp at HZa HZb
          have hbd := (ok_prices HRR.out).2.2.1
          go_wp2_with fail
          · have e : mn bu tr.busWeekly = tr.busWeekly := by unfold mn; split <;> omega
            have hh := held_range (z := (z1, z2)) HRR.out (r := ra) (b := tr.busWeekly) r1 (by omega)
            refine (heldWeek_calls tr m z1 z2 ra (tr.busWeekly) _ (hT.keep hB) (by omega) (by omega)).mono ?_
            rintro _ w8 ⟨rfl, hb8⟩
            generalize hq : heldF tr (z1, z2) ra (tr.busWeekly) Span.weekly = q at *
            have HQ := Lib.hid hq
            clear hq
            go_wp2_with fail
            go_ret2
            exact ⟨by rw [HF.out]; simp only [wkEnd, e, HQ.out]; rfl, bThen hB hb8⟩
          · have e : mn bu tr.busWeekly = bu := by unfold mn; split <;> omega
            have hh := held_range (z := (z1, z2)) HRR.out (r := ra) (b := bu) r1 (by omega)
            refine (heldWeek_calls tr m z1 z2 ra (bu) _ (hT.keep hB) (by omega) (by omega)).mono ?_
            rintro _ w8 ⟨rfl, hb8⟩
            generalize hq : heldF tr (z1, z2) ra (bu) Span.weekly = q at *
            have HQ := Lib.hid hq
            clear hq
            go_wp2_with fail
            go_ret2
            exact ⟨by rw [HF.out]; simp only [wkEnd, e, HQ.out]; rfl, bThen hB hb8⟩
  · have e : weekC tr l = (0, rightF tr) := by simp [weekC, hr]
    rw [e]
    clear e
    generalize rightF tr = er at *
    go_enter Try.func44, Try.ntmps44
    go_wp2_with fail
    refine (R _ hT0).mono ?_
    rintro _ wq ⟨rfl, hb⟩
    go_wp2_with fail
    go_ret2
    exact ⟨rfl, bThen hB hb⟩
end Go.Proofs.Ytmeogadkbbeglaa
