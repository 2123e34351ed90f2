/- The walk of caps.Day. -/
import Derived.ChangeAlike
import Derived.Test.YtmeogadkbbeglaaK25
import Derived.Test.YtmeogadkbbeglaaK18
namespace Go.Proofs.Ytmeogadkbbeglaa
open Go.RowKit Go.Proofs.YtmeogadkbbeglaaQ
set_option maxHeartbeats 3200000
set_option maxRecDepth 100000
theorem bThen' {B : Nat} {a b c : World} (h : Below B a b) (k : Below B b c) : Below B a c := h.trans k
theorem elemP {w w' : World} {A : Option Addr} {xs : List Priced} (h : SliceAt w 7 Priced.vals A xs) (hb : Below w.heap.size w w') (k : Nat) (hk : k < xs.length) :
    ∃ b off, A = some ⟨b, off, none⟩ ∧ w'.cell? ⟨b, off + k * 7, none⟩ = some (.int .i64 xs[k].j.kind) ∧ w'.cell? ⟨b, off + k * 7 + 1, none⟩ = some (.int .i64 xs[k].j.frm) ∧ w'.cell? ⟨b, off + k * 7 + 2, none⟩ = some (.int .i64 xs[k].j.dst)
      ∧ w'.cell? ⟨b, off + k * 7 + 3, none⟩ = some (.int .i64 xs[k].j.start) ∧ w'.cell? ⟨b, off + k * 7 + 4, none⟩ = some (.int .i64 xs[k].j.stop) ∧ w'.cell? ⟨b, off + k * 7 + 5, none⟩ = some (.bool xs[k].j.free) ∧ w'.cell? ⟨b, off + k * 7 + 6, none⟩ = some (.int .i64 xs[k].fare) := by
  obtain ⟨b, off, e, hc⟩ := h.2 k xs[k] (by simp [hk])
  exact ⟨b, off, e, keep hb (hc 0 _ rfl), keep hb (hc 1 _ rfl), keep hb (hc 2 _ rfl), keep hb (hc 3 _ rfl), keep hb (hc 4 _ rfl), keep hb (hc 5 _ rfl), keep hb (hc 6 _ rfl)⟩
def DayC.cells (d : DayC) : Array Value := #[.int .i64 (d).day, .int .i64 (d).rail, .int .i64 (d).bus, .int .i64 (d).capped, .int .i64 (d).most, .int .i64 (d).low, .int .i64 (d).high]
theorem day_calls (tr : Tariff) (m : TMem) (day : Int) (l : List Priced) (A : Option Addr) (c : Nat) (w : World) (hT : tr.At w m) (hA : SliceAt w 7 Priced.vals A l) :
    Calls Try.prog 42 #[.agg (tr.cells m), .int .i64 day, .slice A l.length c] w fun e w' => e = .returned (.tuple #[.agg (dayC tr day l).1.cells, .int .i64 (dayC tr day l).2]) ∧ Below w.heap.size w w' := by
  have HB := Below.refl w.heap.size w
  have hmf : ∀ (fn : Fn) (first cap : Array Value) (w : World), (Instr.makeFunc fn first cap).run Try.prog w = .ok (.func fn first cap) w := fun _ _ _ _ => rfl
  have hlen := hA.len
  have HX := ((Box.new w (tr.cells m) 27).alloc (.cells #[.int .i64 day] 3)).alloc (.cells #[.int .i64 0, .int .i64 0, .int .i64 0, .int .i64 0, .int .i64 0, .int .i64 0, .int .i64 0] 57)
  have HD := (Box.new' (w := w.alloc (.cells (tr.cells m) 27)) (b := w.heap.size + 1) (by simp) #[.int .i64 day] 3).alloc (.cells #[.int .i64 0, .int .i64 0, .int .i64 0, .int .i64 0, .int .i64 0, .int .i64 0, .int .i64 0] 57)
  have HR := Box.new' (w := (w.alloc (.cells (tr.cells m) 27)).alloc (.cells #[.int .i64 day] 3)) (b := w.heap.size + 1 + 1) (by simp) #[.int .i64 0, .int .i64 0, .int .i64 0, .int .i64 0, .int .i64 0, .int .i64 0, .int .i64 0] 57
  have hB := bAlloc (bAlloc (bAlloc HB (.cells (tr.cells m) 27)) (.cells #[.int .i64 day] 3)) (.cells #[.int .i64 0, .int .i64 0, .int .i64 0, .int .i64 0, .int .i64 0, .int .i64 0, .int .i64 0] 57)
  have R := fun W h => right_calls tr m W h
  have hT0 := hT.keep hB
  by_cases hr : rightF tr = 0
  · rw [hr] at R
    by_cases hl : 2000 < l.length
    · have e : dayC tr day l = (DayC.zero, 2) := by simp [dayC, hr, hl]
      rw [e]
      clear e hr
      have hl' : (2000 : Int) < (l.length : Int) := by omega
      go_enter Try.func42, Try.ntmps42
      go_wp2_with fail
      refine (R _ hT0).mono ?_
      rintro _ wq ⟨rfl, hb⟩
      replace HR := HR.below' hb
      replace hB := bThen hB hb
      have HRa := (HR).cell 0; have HRb := (HR).cell 1; have HRc := (HR).cell 2; have HRd := (HR).cell 3; have HRe := (HR).cell 4; have HRf := (HR).cell 5; have HRg := (HR).cell 6; have HRl := (HR).lt; simp at HRa HRb HRc HRd HRe HRf HRg
      have y0 := HR.free 0
      have y1 := HR.free 1
      have y2 := HR.free 2
      have y3 := HR.free 3
      have y4 := HR.free 4
      have y5 := HR.free 5
      have y6 := HR.free 6
      go_wp2_with fail
      refine bodyPost_ret (v := .tuple #[.agg DayC.zero.cells, .int .i64 2]) (by simp [results, Try.results42, go_sem, DayC.cells, DayC.zero, HRa, HRb, HRc, HRd, HRe, HRf, HRg]) rfl ⟨rfl, by (repeat (first | (with_reducible exact hB) | (with_reducible refine bAlloc ?_ _) | (with_reducible refine bDrewN ?_ _) | (with_reducible refine bDrew ?_) | (with_reducible refine bSet ?_ (by first | exact Nat.le_refl _ | (simp; omega) | omega) _) | (with_reducible refine bThen ?_ (by with_reducible assumption))))⟩
    · have e : dayC tr day l = if (dayGo tr day l ⟨0, 0, 0, 0, 0⟩).1 ≠ 0 then (DayC.zero, (dayGo tr day l ⟨0, 0, 0, 0, 0⟩).1) else (dayEnd tr day (dayGo tr day l ⟨0, 0, 0, 0, 0⟩).2, 0) := by simp [dayC, hr, hl]
      have HE := Lib.hid e
      have HRR := Lib.hid hr
      clear e hr
      have hl' : ¬ (2000 : Int) < (l.length : Int) := by omega
      go_enter Try.func42, Try.ntmps42
      go_wp2_with fail
      refine (R _ hT0).mono ?_
      rintro _ wq ⟨rfl, hb⟩
      replace HX := HX.below' hb
      replace HD := HD.below' hb
      replace HR := HR.below' hb
      replace hB := bThen hB hb
      clear hb hT0
      have HDa := (HD).cell 0; have HDl := (HD).lt; simp at HDa
      have hge := HR.lt
      go_wp2_with fail
      have HO := (Box.new wq #[.int .i64 day, .int .i64 0, .int .i64 0, .int .i64 0, .int .i64 0, .int .i64 0, .int .i64 0] 57).alloc (.cells #[.int .i64 0, .int .i64 0] 128)
      have HZ := Box.new' (w := wq.alloc (.cells #[.int .i64 day, .int .i64 0, .int .i64 0, .int .i64 0, .int .i64 0, .int .i64 0, .int .i64 0] 57)) (b := wq.heap.size + 1) (by simp) #[.int .i64 0, .int .i64 0] 128
      have hz := bAlloc (bAlloc (Below.refl wq.heap.size wq) (.cells #[.int .i64 day, .int .i64 0, .int .i64 0, .int .i64 0, .int .i64 0, .int .i64 0, .int .i64 0] 57)) (.cells #[.int .i64 0, .int .i64 0] 128)
      replace HX := HX.below' hz
      replace HD := HD.below' hz
      replace HR := HR.below' hz
      replace hB := bThen hB hz
      clear HDa HDl hz
      generalize hbo : wq.heap.size = bo at *
      have hge' : w.heap.size + 1 + 1 < bo := hge
      have HBO := Lib.hid hbo
      clear hbo hge
      generalize ((wq.alloc (.cells #[.int .i64 day, .int .i64 0, .int .i64 0, .int .i64 0, .int .i64 0, .int .i64 0, .int .i64 0] 57)).alloc (.cells #[.int .i64 0, .int .i64 0] 128)) = w4 at *
      go_loopw [30] (fun i wr => ∃ (k : Nat) (a : DAcc), k ≤ l.length ∧ i = .int .i64 k ∧ a.Ok k ∧ Hid (dayGo tr day (l.drop k) a = dayGo tr day l ⟨0, 0, 0, 0, 0⟩) ∧ Box wr (w.heap.size + 1) #[.int .i64 day] 3 ∧ Box wr bo (a.out day) 57 ∧ Box wr w.heap.size (tr.cells m) 27 ∧ Box wr (bo + 1) a.zs 128 ∧ Box wr (w.heap.size + 1 + 1) #[.int .i64 0, .int .i64 0, .int .i64 0, .int .i64 0, .int .i64 0, .int .i64 0, .int .i64 0] 57 ∧ Below w.heap.size w wr) (fun i _ => l.length - (intOf i).toNat)
      case atStart => exact ⟨0, ⟨0, 0, 0, 0, 0⟩, by omega, rfl, DAcc.Ok.zero, rfl, HD, HO, HX, HZ, HR, hB⟩
      case round =>
        clear HD HO HX HZ HR hB
        obtain ⟨k, a, hk, rfl, hok, hgo, HD, HO, HX, HZ, HR, hB⟩ := hrel
        by_cases hlt : k < l.length
        · obtain ⟨b, off, hA2, c0, c1, c2, c3, c4, c5, c6⟩ := elemP hA hB k hlt
          subst hA2
          rw [drop_cons hlt, dayGo_cons] at hgo
          go_wp2_with fail
          have hz := bAlloc (Below.refl wr.heap.size wr) (.cells #[.int .i64 (l[k]).j.kind, .int .i64 (l[k]).j.frm, .int .i64 (l[k]).j.dst, .int .i64 (l[k]).j.start, .int .i64 (l[k]).j.stop, .bool (l[k]).j.free, .int .i64 (l[k]).fare] 55)
          replace HD := HD.below' hz
          replace HO := HO.below' hz
          replace HX := HX.below' hz
          replace HZ := HZ.below' hz
          replace HR := HR.below' hz
          replace hB := bThen hB hz
          clear c0 c1 c2 c3 c4 c5 c6 hz
          have hok' := hok.step (t := tr) (day := day) (p := l[k])
          refine (take_calls tr m day a l[k] (w.heap.size + 1) bo w.heap.size (bo + 1) _ (hT.keep hB) HD HO HX HZ (by omega) (by omega) (by omega) (by omega) (by omega) ?_ ?_ ?_).mono ?_
          · exact ⟨hok.r1, by have := hok.r2; omega⟩
          · exact ⟨hok.b1, by have := hok.b2; omega⟩
          · exact ⟨hok.m1, by have := hok.m2; omega⟩
          rintro _ w6 ⟨rfl, HO6, HZ6, hsp⟩
          have hB6 := bThen' hB (hsp.below (B := w.heap.size) (by omega) (by omega) hB.size)
          have HD6 := HD.spare hsp (by omega) (by omega)
          have HX6 := HX.spare hsp (by omega) (by omega)
          have HR6 := HR.spare hsp (by omega) (by omega)
          clear HD HO HX HZ HR hB hsp
          generalize dayStep tr day a l[k] = s at *
          obtain ⟨s1, s2⟩ := s
          simp only at hok' HO6 HZ6 ⊢
          by_cases hs : s1 = 0
          · subst hs
            rw [if_pos rfl] at hgo
            go_wp2_with fail
            go_roundw
            case rel => exact ⟨k + 1, s2, by omega, by go_num, hok' rfl, hgo, HD6, HO6, HX6, HZ6, HR6, hB6⟩
            case measure => simp [intOf]; omega
          · rw [if_neg hs] at hgo
            have hE := HE.out
            rw [← hgo.out, if_pos (show (s1, s2).1 ≠ 0 from hs)] at hE
            have HF := Lib.hid hE
            clear hE HE hgo
            have HR6a := (HR6).cell 0; have HR6b := (HR6).cell 1; have HR6c := (HR6).cell 2; have HR6d := (HR6).cell 3; have HR6e := (HR6).cell 4; have HR6f := (HR6).cell 5; have HR6g := (HR6).cell 6; have HR6l := (HR6).lt; simp at HR6a HR6b HR6c HR6d HR6e HR6f HR6g
            have y0 := HR6.free 0
            have y1 := HR6.free 1
            have y2 := HR6.free 2
            have y3 := HR6.free 3
            have y4 := HR6.free 4
            have y5 := HR6.free 5
            have y6 := HR6.free 6
            go_wp2_with fail
            refine bodyPost_ret (v := .tuple #[.agg DayC.zero.cells, .int .i64 s1]) (by simp [results, Try.results42, go_sem, DayC.cells, DayC.zero, HR6a, HR6b, HR6c, HR6d, HR6e, HR6f, HR6g]) rfl ⟨by rw [HF.out], by (repeat (first | (with_reducible exact hB6) | (with_reducible refine bAlloc ?_ _) | (with_reducible refine bDrewN ?_ _) | (with_reducible refine bDrew ?_) | (with_reducible refine bSet ?_ (by first | exact Nat.le_refl _ | (simp; omega) | omega) _) | (with_reducible refine bThen ?_ (by with_reducible assumption))))⟩
        · obtain rfl : k = l.length := by omega
          rw [List.drop_length] at hgo
          have hE := HE.out
          rw [← hgo.out] at hE
          simp only [dayGo, ne_eq, not_true_eq_false, if_false] at hE
          have HF := Lib.hid hE
          clear hE HE hgo
          obtain ⟨ra, bu, mo, z1, z2⟩ := a
          have HOq : Box wr bo #[.int .i64 day, .int .i64 ra, .int .i64 bu, .int .i64 0, .int .i64 mo, .int .i64 0, .int .i64 0] 57 := HO
          have HZq : Box wr (bo + 1) #[.int .i64 z1, .int .i64 z2] 128 := HZ
          clear HO HZ
          have HOqa := (HOq).cell 0; have HOqb := (HOq).cell 1; have HOqc := (HOq).cell 2; have HOqd := (HOq).cell 3; have HOqe := (HOq).cell 4; have HOqf := (HOq).cell 5; have HOqg := (HOq).cell 6; have HOql := (HOq).lt; simp at HOqa HOqb HOqc HOqd HOqe HOqf HOqg
          have HZqa := (HZq).cell 0; have HZqb := (HZq).cell 1; have HZql := (HZq).lt; simp at HZqa HZqb
          have ltx := HX.lt
          have y5 := HOq.free 5
          have y6 := HOq.free 6
          go_wp2_with fail
          go_region
          have hB2 : Below w.heap.size w ((wr.setCell ⟨bo, 5, none⟩ (.int .i64 z1)).setCell ⟨bo, 6, none⟩ (.int .i64 z2)).drew := bDrew (bSet (bSet hB (by show w.heap.size ≤ bo; omega) _) (by show w.heap.size ≤ bo; omega) _)
          have HO2 : Box ((wr.setCell ⟨bo, 5, none⟩ (.int .i64 z1)).setCell ⟨bo, 6, none⟩ (.int .i64 z2)).drew bo #[.int .i64 day, .int .i64 ra, .int .i64 bu, .int .i64 0, .int .i64 mo, .int .i64 z1, .int .i64 z2] 57 := (((HOq.set 5 (.int .i64 z1)).set 6 (.int .i64 z2)).cast (by simp)).drew
          have HZ2 : Box ((wr.setCell ⟨bo, 5, none⟩ (.int .i64 z1)).setCell ⟨bo, 6, none⟩ (.int .i64 z2)).drew (bo + 1) #[.int .i64 z1, .int .i64 z2] 128 := ((HZq.other _ (by show bo + 1 ≠ bo; omega) _).other _ (by show bo + 1 ≠ bo; omega) _).drew
          have HX2 : Box ((wr.setCell ⟨bo, 5, none⟩ (.int .i64 z1)).setCell ⟨bo, 6, none⟩ (.int .i64 z2)).drew w.heap.size (tr.cells m) 27 := ((HX.other _ (by show w.heap.size ≠ bo; omega) _).other _ (by show w.heap.size ≠ bo; omega) _).drew
          have HR2 : Box ((wr.setCell ⟨bo, 5, none⟩ (.int .i64 z1)).setCell ⟨bo, 6, none⟩ (.int .i64 z2)).drew (w.heap.size + 1 + 1) #[.int .i64 0, .int .i64 0, .int .i64 0, .int .i64 0, .int .i64 0, .int .i64 0, .int .i64 0] 57 := ((HR.other _ (by show w.heap.size + 1 + 1 ≠ bo; omega) _).other _ (by show w.heap.size + 1 + 1 ≠ bo; omega) _).drew
          clear HOqa HOqb HOqc HOqd HOqe HOqf HOqg HOql HZqa HZqb HZql HOq HZq HX HR HD hB ltx y5 y6
          generalize ((wr.setCell ⟨bo, 5, none⟩ (.int .i64 z1)).setCell ⟨bo, 6, none⟩ (.int .i64 z2)).drew = w7 at *
          obtain ⟨r1, r2, b1, b2, m1, m2⟩ := hok
          simp only at r1 r2 b1 b2 m1 m2
          have hbd := (ok_prices HRR.out).2.1
          obtain ⟨t0, t1, t2, t3, t4, t5, t6, t7, t8, t9, t10, t11, t12, t13⟩ := tcells HX2
          have ltx := HX2.lt
          have HO2a := (HO2).cell 0; have HO2b := (HO2).cell 1; have HO2c := (HO2).cell 2; have HO2d := (HO2).cell 3; have HO2e := (HO2).cell 4; have HO2f := (HO2).cell 5; have HO2g := (HO2).cell 6; have HO2l := (HO2).lt; simp at HO2a HO2b HO2c HO2d HO2e HO2f HO2g
          have HZ2a := (HZ2).cell 0; have HZ2b := (HZ2).cell 1; have HZ2l := (HZ2).lt; simp at HZ2a HZ2b
          have y2 := HO2.free 2
          go_wp2_with fail
          · have e : mn bu tr.busDaily = tr.busDaily := by unfold mn; split <;> omega
            have hB3 := bSet hB2 (p := ⟨bo, 2, none⟩) (by show w.heap.size ≤ bo; omega) (.int .i64 (tr.busDaily))
            have HO3 : Box _ bo #[.int .i64 day, .int .i64 ra, .int .i64 (tr.busDaily), .int .i64 0, .int .i64 mo, .int .i64 z1, .int .i64 z2] 57 := (HO2.set 2 (.int .i64 (tr.busDaily))).cast (by simp)
            have HR3 := HR2.other ⟨bo, 2, none⟩ (by show w.heap.size + 1 + 1 ≠ bo; omega) (.int .i64 (tr.busDaily))
            refine (heldDay_calls tr m z1 z2 ra (tr.busDaily) _ (hT.keep hB3) (by omega) (by omega)).mono ?_
            rintro _ w8 ⟨rfl, hb8⟩
            clear t0 t1 t2 t3 t4 t5 t6 t7 t8 t9 t10 t11 t12 t13 ltx HO2a HO2b HO2c HO2d HO2e HO2f HO2g HO2l HZ2a HZ2b HZ2l y2 HX2 HZ2 HO2 HR2
            replace HO3 := HO3.below' hb8
            replace HR3 := HR3.below' hb8
            replace hB3 := bThen hB3 hb8
            clear hb8
            have HO3a := (HO3).cell 0; have HO3b := (HO3).cell 1; have HO3c := (HO3).cell 2; have HO3d := (HO3).cell 3; have HO3e := (HO3).cell 4; have HO3f := (HO3).cell 5; have HO3g := (HO3).cell 6; have HO3l := (HO3).lt; simp at HO3a HO3b HO3c HO3d HO3e HO3f HO3g
            have HR3a := (HR3).cell 0; have HR3b := (HR3).cell 1; have HR3c := (HR3).cell 2; have HR3d := (HR3).cell 3; have HR3e := (HR3).cell 4; have HR3f := (HR3).cell 5; have HR3g := (HR3).cell 6; have HR3l := (HR3).lt; simp at HR3a HR3b HR3c HR3d HR3e HR3f HR3g
            have y3 := HO3.free 3
            have q0 := HR3.free 0
            have q1 := HR3.free 1
            have q2 := HR3.free 2
            have q3 := HR3.free 3
            have q4 := HR3.free 4
            have q5 := HR3.free 5
            have q6 := HR3.free 6
            have nb : w.heap.size + 1 + 1 ≠ bo := by omega
            have nb' : bo ≠ w.heap.size + 1 + 1 := by omega
            go_wp2_with fail
            refine bodyPost_ret (v := .tuple #[.agg (DayC.cells ⟨day, ra, tr.busDaily, heldF tr (z1, z2) ra (tr.busDaily) Span.daily, mo, z1, z2⟩), .int .i64 0]) (by simp [results, Try.results42, go_sem, DayC.cells, HR3a, HR3b, HR3c, HR3d, HR3e, HR3f, HR3g]) rfl ⟨by rw [HF.out]; simp only [dayEnd, e], by (repeat (first | (with_reducible exact hB3) | (with_reducible refine bAlloc ?_ _) | (with_reducible refine bDrewN ?_ _) | (with_reducible refine bDrew ?_) | (with_reducible refine bSet ?_ (by first | exact Nat.le_refl _ | (simp; omega) | omega) _) | (with_reducible refine bThen ?_ (by with_reducible assumption))))⟩
          · have e : mn bu tr.busDaily = bu := by unfold mn; split <;> omega
            have hB3 := bSet hB2 (p := ⟨bo, 2, none⟩) (by show w.heap.size ≤ bo; omega) (.int .i64 (bu))
            have HO3 : Box _ bo #[.int .i64 day, .int .i64 ra, .int .i64 (bu), .int .i64 0, .int .i64 mo, .int .i64 z1, .int .i64 z2] 57 := (HO2.set 2 (.int .i64 (bu))).cast (by simp)
            have HR3 := HR2.other ⟨bo, 2, none⟩ (by show w.heap.size + 1 + 1 ≠ bo; omega) (.int .i64 (bu))
            refine (heldDay_calls tr m z1 z2 ra (bu) _ (hT.keep hB3) (by omega) (by omega)).mono ?_
            rintro _ w8 ⟨rfl, hb8⟩
            clear t0 t1 t2 t3 t4 t5 t6 t7 t8 t9 t10 t11 t12 t13 ltx HO2a HO2b HO2c HO2d HO2e HO2f HO2g HO2l HZ2a HZ2b HZ2l y2 HX2 HZ2 HO2 HR2
            replace HO3 := HO3.below' hb8
            replace HR3 := HR3.below' hb8
            replace hB3 := bThen hB3 hb8
            clear hb8
            have HO3a := (HO3).cell 0; have HO3b := (HO3).cell 1; have HO3c := (HO3).cell 2; have HO3d := (HO3).cell 3; have HO3e := (HO3).cell 4; have HO3f := (HO3).cell 5; have HO3g := (HO3).cell 6; have HO3l := (HO3).lt; simp at HO3a HO3b HO3c HO3d HO3e HO3f HO3g
            have HR3a := (HR3).cell 0; have HR3b := (HR3).cell 1; have HR3c := (HR3).cell 2; have HR3d := (HR3).cell 3; have HR3e := (HR3).cell 4; have HR3f := (HR3).cell 5; have HR3g := (HR3).cell 6; have HR3l := (HR3).lt; simp at HR3a HR3b HR3c HR3d HR3e HR3f HR3g
            have y3 := HO3.free 3
            have q0 := HR3.free 0
            have q1 := HR3.free 1
            have q2 := HR3.free 2
            have q3 := HR3.free 3
            have q4 := HR3.free 4
            have q5 := HR3.free 5
            have q6 := HR3.free 6
            have nb : w.heap.size + 1 + 1 ≠ bo := by omega
            have nb' : bo ≠ w.heap.size + 1 + 1 := by omega
            go_wp2_with fail
            refine bodyPost_ret (v := .tuple #[.agg (DayC.cells ⟨day, ra, bu, heldF tr (z1, z2) ra (bu) Span.daily, mo, z1, z2⟩), .int .i64 0]) (by simp [results, Try.results42, go_sem, DayC.cells, HR3a, HR3b, HR3c, HR3d, HR3e, HR3f, HR3g]) rfl ⟨by rw [HF.out]; simp only [dayEnd, e], by (repeat (first | (with_reducible exact hB3) | (with_reducible refine bAlloc ?_ _) | (with_reducible refine bDrewN ?_ _) | (with_reducible refine bDrew ?_) | (with_reducible refine bSet ?_ (by first | exact Nat.le_refl _ | (simp; omega) | omega) _) | (with_reducible refine bThen ?_ (by with_reducible assumption))))⟩
  · have e : dayC tr day l = (DayC.zero, rightF tr) := by simp [dayC, hr]
    rw [e]
    clear e
    generalize rightF tr = er at *
    go_enter Try.func42, Try.ntmps42
    go_wp2_with fail
    refine (R _ hT0).mono ?_
    rintro _ wq ⟨rfl, hb⟩
    replace HR := HR.below' hb
    replace hB := bThen hB hb
    have HRa := (HR).cell 0; have HRb := (HR).cell 1; have HRc := (HR).cell 2; have HRd := (HR).cell 3; have HRe := (HR).cell 4; have HRf := (HR).cell 5; have HRg := (HR).cell 6; have HRl := (HR).lt; simp at HRa HRb HRc HRd HRe HRf HRg
    have y0 := HR.free 0
    have y1 := HR.free 1
    have y2 := HR.free 2
    have y3 := HR.free 3
    have y4 := HR.free 4
    have y5 := HR.free 5
    have y6 := HR.free 6
    go_wp2_with fail
    refine bodyPost_ret (v := .tuple #[.agg DayC.zero.cells, .int .i64 er]) (by simp [results, Try.results42, go_sem, DayC.cells, DayC.zero, HRa, HRb, HRc, HRd, HRe, HRf, HRg]) rfl ⟨rfl, by (repeat (first | (with_reducible exact hB) | (with_reducible refine bAlloc ?_ _) | (with_reducible refine bDrewN ?_ _) | (with_reducible refine bDrew ?_) | (with_reducible refine bSet ?_ (by first | exact Nat.le_refl _ | (simp; omega) | omega) _) | (with_reducible refine bThen ?_ (by with_reducible assumption))))⟩
end Go.Proofs.Ytmeogadkbbeglaa
