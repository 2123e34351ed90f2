/- What the claim's walk leans on: W19c, W19d, U19, U19h. -/
import Derived.ChangeAlike
import Derived.Test.YtmeogadkbbeglaaK7
section
namespace Go.Proofs.Ytmeogadkbbeglaa
open Go.RowKit Go.Proofs.YtmeogadkbbeglaaQ
set_option maxHeartbeats 3200000
set_option maxRecDepth 100000
theorem bThen' {B : Nat} {a b c : World} (h : Below B a b) (k : Below B b c) : Below B a c := h.trans k
theorem elemP {w w' : World} {A : Option Addr} {xs : List Priced} (h : SliceAt w 7 Priced.vals A xs) (hb : Below w.heap.size w w') (k : Nat) (hk : k < xs.length) :
    ∃ b off, A = some ⟨b, off, none⟩ ∧ w'.cell? ⟨b, off + k * 7, none⟩ = some (.int .i64 xs[k].j.kind) ∧ w'.cell? ⟨b, off + k * 7 + 1, none⟩ = some (.int .i64 xs[k].j.frm) ∧ w'.cell? ⟨b, off + k * 7 + 2, none⟩ = some (.int .i64 xs[k].j.dst)
      ∧ w'.cell? ⟨b, off + k * 7 + 3, none⟩ = some (.int .i64 xs[k].j.start) ∧ w'.cell? ⟨b, off + k * 7 + 4, none⟩ = some (.int .i64 xs[k].j.stop) ∧ w'.cell? ⟨b, off + k * 7 + 5, none⟩ = some (.bool xs[k].j.free) ∧ w'.cell? ⟨b, off + k * 7 + 6, none⟩ = some (.int .i64 xs[k].fare) := by
  obtain ⟨b, off, e, hc⟩ := h.2 k xs[k] (by simp [hk])
  exact ⟨b, off, e, keep hb (hc 0 _ rfl), keep hb (hc 1 _ rfl), keep hb (hc 2 _ rfl), keep hb (hc 3 _ rfl), keep hb (hc 4 _ rfl), keep hb (hc 5 _ rfl), keep hb (hc 6 _ rfl)⟩
def DayC.cells (d : DayC) : Array Value := #[.int .i64 (d).day, .int .i64 (d).rail, .int .i64 (d).bus, .int .i64 (d).capped, .int .i64 (d).most, .int .i64 (d).low, .int .i64 (d).high]
theorem day_calls (tr : Tariff) (m : TMem) (day : Int) (l : List Priced) (A : Option Addr) (c : Nat) (w : World) (hT : tr.At w m) (hA : SliceAt w 7 Priced.vals A l) :
    Calls Try.prog 42 #[.agg (tr.cells m), .int .i64 day, .slice A l.length c] w fun e w' => e = .returned (.tuple #[.agg (dayC tr day l).1.cells, .int .i64 (dayC tr day l).2]) ∧ Below w.heap.size w w' := by
  have HB := Below.refl w.heap.size w
  have hmf : ∀ (fn : Fn) (first cap : Array Value) (w : World), (Instr.makeFunc fn first cap).run Try.prog w = .ok (.func fn first cap) w := fun _ _ _ _ => rfl
  have hlen := hA.len
  have HX := ((Box.new w (tr.cells m) 27).alloc (.cells #[.int .i64 day] 3)).alloc (.cells #[.int .i64 0, .int .i64 0, .int .i64 0, .int .i64 0, .int .i64 0, .int .i64 0, .int .i64 0] 57)
  have HD := (Box.new' (w := w.alloc (.cells (tr.cells m) 27)) (b := w.heap.size + 1) (by simp) #[.int .i64 day] 3).alloc (.cells #[.int .i64 0, .int .i64 0, .int .i64 0, .int .i64 0, .int .i64 0, .int .i64 0, .int .i64 0] 57)
  have HR := Box.new' (w := (w.alloc (.cells (tr.cells m) 27)).alloc (.cells #[.int .i64 day] 3)) (b := w.heap.size + 1 + 1) (by simp) #[.int .i64 0, .int .i64 0, .int .i64 0, .int .i64 0, .int .i64 0, .int .i64 0, .int .i64 0] 57
  have hB := bAlloc (bAlloc (bAlloc HB (.cells (tr.cells m) 27)) (.cells #[.int .i64 day] 3)) (.cells #[.int .i64 0, .int .i64 0, .int .i64 0, .int .i64 0, .int .i64 0, .int .i64 0, .int .i64 0] 57)
  have R := fun W h => right_calls tr m W h
  have hT0 := hT.keep hB
  by_cases hr : rightF tr = 0
  · rw [hr] at R
    by_cases hl : 2000 < l.length
    · have e : dayC tr day l = (DayC.zero, 2) := by simp [dayC, hr, hl]
      rw [e]
      clear e hr
      have hl' : (2000 : Int) < (l.length : Int) := by omega
      go_enter Try.func42, Try.ntmps42
      go_wp2_with fail
      refine (R _ hT0).mono ?_
      rintro _ wq ⟨rfl, hb⟩
      replace HR := HR.below' hb
      replace hB := bThen hB hb
      have HRa := (HR).cell 0; have HRb := (HR).cell 1; have HRc := (HR).cell 2; have HRd := (HR).cell 3; have HRe := (HR).cell 4; have HRf := (HR).cell 5; have HRg := (HR).cell 6; have HRl := (HR).lt; simp at HRa HRb HRc HRd HRe HRf HRg
      have y0 := HR.free 0
      have y1 := HR.free 1
      have y2 := HR.free 2
      have y3 := HR.free 3
      have y4 := HR.free 4
      have y5 := HR.free 5
      have y6 := HR.free 6
      go_wp2_with fail
      refine bodyPost_ret (v := .tuple #[.agg DayC.zero.cells, .int .i64 2]) (by simp [results, Try.results42, go_sem, DayC.cells, DayC.zero, HRa, HRb, HRc, HRd, HRe, HRf, HRg]) rfl ⟨rfl, by (repeat (first | (with_reducible exact hB) | (with_reducible refine bAlloc ?_ _) | (with_reducible refine bDrewN ?_ _) | (with_reducible refine bDrew ?_) | (with_reducible refine bSet ?_ (by first | exact Nat.le_refl _ | (simp; omega) | omega) _) | (with_reducible refine bThen ?_ (by with_reducible assumption))))⟩
    · have e : dayC tr day l = if (dayGo tr day l ⟨0, 0, 0, 0, 0⟩).1 ≠ 0 then (DayC.zero, (dayGo tr day l ⟨0, 0, 0, 0, 0⟩).1) else (dayEnd tr day (dayGo tr day l ⟨0, 0, 0, 0, 0⟩).2, 0) := by simp [dayC, hr, hl]
      have HE := Lib.hid e
      have HRR := Lib.hid hr
      clear e hr
      have hl' : ¬ (2000 : Int) < (l.length : Int) := by omega
      go_enter Try.func42, Try.ntmps42
      go_wp2_with fail
      refine (R _ hT0).mono ?_
      rintro _ wq ⟨rfl, hb⟩
      replace HX := HX.below' hb
      replace HD := HD.below' hb
      replace HR := HR.below' hb
      replace hB := bThen hB hb
      clear hb hT0
      have HDa := (HD).cell 0; have HDl := (HD).lt; simp at HDa
      have hge := HR.lt
      go_wp2_with fail
      have HO := (Box.new wq #[.int .i64 day, .int .i64 0, .int .i64 0, .int .i64 0, .int .i64 0, .int .i64 0, .int .i64 0] 57).alloc (.cells #[.int .i64 0, .int .i64 0] 128)
      have HZ := Box.new' (w := wq.alloc (.cells #[.int .i64 day, .int .i64 0, .int .i64 0, .int .i64 0, .int .i64 0, .int .i64 0, .int .i64 0] 57)) (b := wq.heap.size + 1) (by simp) #[.int .i64 0, .int .i64 0] 128
      have hz := bAlloc (bAlloc (Below.refl wq.heap.size wq) (.cells #[.int .i64 day, .int .i64 0, .int .i64 0, .int .i64 0, .int .i64 0, .int .i64 0, .int .i64 0] 57)) (.cells #[.int .i64 0, .int .i64 0] 128)
      replace HX := HX.below' hz
      replace HD := HD.below' hz
      replace HR := HR.below' hz
      replace hB := bThen hB hz
      clear HDa HDl hz
      generalize hbo : wq.heap.size = bo at *
      have hge' : w.heap.size + 1 + 1 < bo := hge
      have HBO := Lib.hid hbo
      clear hbo hge
      generalize ((wq.alloc (.cells #[.int .i64 day, .int .i64 0, .int .i64 0, .int .i64 0, .int .i64 0, .int .i64 0, .int .i64 0] 57)).alloc (.cells #[.int .i64 0, .int .i64 0] 128)) = w4 at *
      go_loopw [30] (fun i wr => ∃ (k : Nat) (a : DAcc), k ≤ l.length ∧ i = .int .i64 k ∧ a.Ok k ∧ Hid (dayGo tr day (l.drop k) a = dayGo tr day l ⟨0, 0, 0, 0, 0⟩) ∧ Box wr (w.heap.size + 1) #[.int .i64 day] 3 ∧ Box wr bo (a.out day) 57 ∧ Box wr w.heap.size (tr.cells m) 27 ∧ Box wr (bo + 1) a.zs 128 ∧ Box wr (w.heap.size + 1 + 1) #[.int .i64 0, .int .i64 0, .int .i64 0, .int .i64 0, .int .i64 0, .int .i64 0, .int .i64 0] 57 ∧ Below w.heap.size w wr) (fun i _ => l.length - (intOf i).toNat)
      case atStart => exact ⟨0, ⟨0, 0, 0, 0, 0⟩, by omega, rfl, DAcc.Ok.zero, rfl, HD, HO, HX, HZ, HR, hB⟩
      case round =>
        clear HD HO HX HZ HR hB
        obtain ⟨k, a, hk, rfl, hok, hgo, HD, HO, HX, HZ, HR, hB⟩ := hrel
        by_cases hlt : k < l.length
        · obtain ⟨b, off, hA2, c0, c1, c2, c3, c4, c5, c6⟩ := elemP hA hB k hlt
          subst hA2
          rw [drop_cons hlt, dayGo_cons] at hgo
          go_wp2_with fail
          have hz := bAlloc (Below.refl wr.heap.size wr) (.cells #[.int .i64 (l[k]).j.kind, .int .i64 (l[k]).j.frm, .int .i64 (l[k]).j.dst, .int .i64 (l[k]).j.start, .int .i64 (l[k]).j.stop, .bool (l[k]).j.free, .int .i64 (l[k]).fare] 55)
          replace HD := HD.below' hz
          replace HO := HO.below' hz
          replace HX := HX.below' hz
          replace HZ := HZ.below' hz
          replace HR := HR.below' hz
          replace hB := bThen hB hz
          clear c0 c1 c2 c3 c4 c5 c6 hz
          have hok' := hok.step (t := tr) (day := day) (p := l[k])
          refine (take_calls tr m day a l[k] (w.heap.size + 1) bo w.heap.size (bo + 1) _ (hT.keep hB) HD HO HX HZ (by omega) (by omega) (by omega) (by omega) (by omega) ?_ ?_ ?_).mono ?_
          · exact ⟨hok.r1, by have := hok.r2; omega⟩
          · exact ⟨hok.b1, by have := hok.b2; omega⟩
          · exact ⟨hok.m1, by have := hok.m2; omega⟩
          rintro _ w6 ⟨rfl, HO6, HZ6, hsp⟩
          have hB6 := bThen' hB (hsp.below (B := w.heap.size) (by omega) (by omega) hB.size)
          have HD6 := HD.spare hsp (by omega) (by omega)
          have HX6 := HX.spare hsp (by omega) (by omega)
          have HR6 := HR.spare hsp (by omega) (by omega)
          clear HD HO HX HZ HR hB hsp
          generalize dayStep tr day a l[k] = s at *
          obtain ⟨s1, s2⟩ := s
          simp only at hok' HO6 HZ6 ⊢
          by_cases hs : s1 = 0
          · subst hs
            rw [if_pos rfl] at hgo
            go_wp2_with fail
            go_roundw
            case rel => exact ⟨k + 1, s2, by omega, by go_num, hok' rfl, hgo, HD6, HO6, HX6, HZ6, HR6, hB6⟩
            case measure => simp [intOf]; omega
          · rw [if_neg hs] at hgo
            have hE := HE.out
            rw [← hgo.out, if_pos (show (s1, s2).1 ≠ 0 from hs)] at hE
            have HF := Lib.hid hE
            clear hE HE hgo
            have HR6a := (HR6).cell 0; have HR6b := (HR6).cell 1; have HR6c := (HR6).cell 2; have HR6d := (HR6).cell 3; have HR6e := (HR6).cell 4; have HR6f := (HR6).cell 5; have HR6g := (HR6).cell 6; have HR6l := (HR6).lt; simp at HR6a HR6b HR6c HR6d HR6e HR6f HR6g
            have y0 := HR6.free 0
            have y1 := HR6.free 1
            have y2 := HR6.free 2
            have y3 := HR6.free 3
            have y4 := HR6.free 4
            have y5 := HR6.free 5
            have y6 := HR6.free 6
            go_wp2_with fail
            refine bodyPost_ret (v := .tuple #[.agg DayC.zero.cells, .int .i64 s1]) (by simp [results, Try.results42, go_sem, DayC.cells, DayC.zero, HR6a, HR6b, HR6c, HR6d, HR6e, HR6f, HR6g]) rfl ⟨by rw [HF.out], by (repeat (first | (with_reducible exact hB6) | (with_reducible refine bAlloc ?_ _) | (with_reducible refine bDrewN ?_ _) | (with_reducible refine bDrew ?_) | (with_reducible refine bSet ?_ (by first | exact Nat.le_refl _ | (simp; omega) | omega) _) | (with_reducible refine bThen ?_ (by with_reducible assumption))))⟩
        · obtain rfl : k = l.length := by omega
          rw [List.drop_length] at hgo
          have hE := HE.out
          rw [← hgo.out] at hE
          simp only [dayGo, ne_eq, not_true_eq_false, if_false] at hE
          have HF := Lib.hid hE
          clear hE HE hgo
          obtain ⟨ra, bu, mo, z1, z2⟩ := a
          have HOq : Box wr bo #[.int .i64 day, .int .i64 ra, .int .i64 bu, .int .i64 0, .int .i64 mo, .int .i64 0, .int .i64 0] 57 := HO
          have HZq : Box wr (bo + 1) #[.int .i64 z1, .int .i64 z2] 128 := HZ
          clear HO HZ
          have HOqa := (HOq).cell 0; have HOqb := (HOq).cell 1; have HOqc := (HOq).cell 2; have HOqd := (HOq).cell 3; have HOqe := (HOq).cell 4; have HOqf := (HOq).cell 5; have HOqg := (HOq).cell 6; have HOql := (HOq).lt; simp at HOqa HOqb HOqc HOqd HOqe HOqf HOqg
          have HZqa := (HZq).cell 0; have HZqb := (HZq).cell 1; have HZql := (HZq).lt; simp at HZqa HZqb
          have ltx := HX.lt
          have y5 := HOq.free 5
          have y6 := HOq.free 6
          go_wp2_with fail
          go_region
          have hB2 : Below w.heap.size w ((wr.setCell ⟨bo, 5, none⟩ (.int .i64 z1)).setCell ⟨bo, 6, none⟩ (.int .i64 z2)).drew := bDrew (bSet (bSet hB (by show w.heap.size ≤ bo; omega) _) (by show w.heap.size ≤ bo; omega) _)
          have HO2 : Box ((wr.setCell ⟨bo, 5, none⟩ (.int .i64 z1)).setCell ⟨bo, 6, none⟩ (.int .i64 z2)).drew bo #[.int .i64 day, .int .i64 ra, .int .i64 bu, .int .i64 0, .int .i64 mo, .int .i64 z1, .int .i64 z2] 57 := (((HOq.set 5 (.int .i64 z1)).set 6 (.int .i64 z2)).cast (by simp)).drew
          have HZ2 : Box ((wr.setCell ⟨bo, 5, none⟩ (.int .i64 z1)).setCell ⟨bo, 6, none⟩ (.int .i64 z2)).drew (bo + 1) #[.int .i64 z1, .int .i64 z2] 128 := ((HZq.other _ (by show bo + 1 ≠ bo; omega) _).other _ (by show bo + 1 ≠ bo; omega) _).drew
          have HX2 : Box ((wr.setCell ⟨bo, 5, none⟩ (.int .i64 z1)).setCell ⟨bo, 6, none⟩ (.int .i64 z2)).drew w.heap.size (tr.cells m) 27 := ((HX.other _ (by show w.heap.size ≠ bo; omega) _).other _ (by show w.heap.size ≠ bo; omega) _).drew
          have HR2 : Box ((wr.setCell ⟨bo, 5, none⟩ (.int .i64 z1)).setCell ⟨bo, 6, none⟩ (.int .i64 z2)).drew (w.heap.size + 1 + 1) #[.int .i64 0, .int .i64 0, .int .i64 0, .int .i64 0, .int .i64 0, .int .i64 0, .int .i64 0] 57 := ((HR.other _ (by show w.heap.size + 1 + 1 ≠ bo; omega) _).other _ (by show w.heap.size + 1 + 1 ≠ bo; omega) _).drew
          clear HOqa HOqb HOqc HOqd HOqe HOqf HOqg HOql HZqa HZqb HZql HOq HZq HX HR HD hB ltx y5 y6
          generalize ((wr.setCell ⟨bo, 5, none⟩ (.int .i64 z1)).setCell ⟨bo, 6, none⟩ (.int .i64 z2)).drew = w7 at *
          obtain ⟨r1, r2, b1, b2, m1, m2⟩ := hok
          simp only at r1 r2 b1 b2 m1 m2
          have hbd := (ok_prices HRR.out).2.1
          obtain ⟨t0, t1, t2, t3, t4, t5, t6, t7, t8, t9, t10, t11, t12, t13⟩ := tcells HX2
          have ltx := HX2.lt
          have HO2a := (HO2).cell 0; have HO2b := (HO2).cell 1; have HO2c := (HO2).cell 2; have HO2d := (HO2).cell 3; have HO2e := (HO2).cell 4; have HO2f := (HO2).cell 5; have HO2g := (HO2).cell 6; have HO2l := (HO2).lt; simp at HO2a HO2b HO2c HO2d HO2e HO2f HO2g
          have HZ2a := (HZ2).cell 0; have HZ2b := (HZ2).cell 1; have HZ2l := (HZ2).lt; simp at HZ2a HZ2b
          have y2 := HO2.free 2
          go_wp2_with fail
          · have e : mn bu tr.busDaily = tr.busDaily := by unfold mn; split <;> omega
            have hB3 := bSet hB2 (p := ⟨bo, 2, none⟩) (by show w.heap.size ≤ bo; omega) (.int .i64 (tr.busDaily))
            have HO3 : Box _ bo #[.int .i64 day, .int .i64 ra, .int .i64 (tr.busDaily), .int .i64 0, .int .i64 mo, .int .i64 z1, .int .i64 z2] 57 := (HO2.set 2 (.int .i64 (tr.busDaily))).cast (by simp)
            have HR3 := HR2.other ⟨bo, 2, none⟩ (by show w.heap.size + 1 + 1 ≠ bo; omega) (.int .i64 (tr.busDaily))
            refine (heldDay_calls tr m z1 z2 ra (tr.busDaily) _ (hT.keep hB3) (by omega) (by omega)).mono ?_
            rintro _ w8 ⟨rfl, hb8⟩
            clear t0 t1 t2 t3 t4 t5 t6 t7 t8 t9 t10 t11 t12 t13 ltx HO2a HO2b HO2c HO2d HO2e HO2f HO2g HO2l HZ2a HZ2b HZ2l y2 HX2 HZ2 HO2 HR2
            replace HO3 := HO3.below' hb8
            replace HR3 := HR3.below' hb8
            replace hB3 := bThen hB3 hb8
            clear hb8
            have HO3a := (HO3).cell 0; have HO3b := (HO3).cell 1; have HO3c := (HO3).cell 2; have HO3d := (HO3).cell 3; have HO3e := (HO3).cell 4; have HO3f := (HO3).cell 5; have HO3g := (HO3).cell 6; have HO3l := (HO3).lt; simp at HO3a HO3b HO3c HO3d HO3e HO3f HO3g
            have HR3a := (HR3).cell 0; have HR3b := (HR3).cell 1; have HR3c := (HR3).cell 2; have HR3d := (HR3).cell 3; have HR3e := (HR3).cell 4; have HR3f := (HR3).cell 5; have HR3g := (HR3).cell 6; have HR3l := (HR3).lt; simp at HR3a HR3b HR3c HR3d HR3e HR3f HR3g
            have y3 := HO3.free 3
            have q0 := HR3.free 0
            have q1 := HR3.free 1
            have q2 := HR3.free 2
            have q3 := HR3.free 3
            have q4 := HR3.free 4
            have q5 := HR3.free 5
            have q6 := HR3.free 6
            have nb : w.heap.size + 1 + 1 ≠ bo := by omega
            have nb' : bo ≠ w.heap.size + 1 + 1 := by omega
            go_wp2_with fail
            refine bodyPost_ret (v := .tuple #[.agg (DayC.cells ⟨day, ra, tr.busDaily, heldF tr (z1, z2) ra (tr.busDaily) Span.daily, mo, z1, z2⟩), .int .i64 0]) (by simp [results, Try.results42, go_sem, DayC.cells, HR3a, HR3b, HR3c, HR3d, HR3e, HR3f, HR3g]) rfl ⟨by rw [HF.out]; simp only [dayEnd, e], by (repeat (first | (with_reducible exact hB3) | (with_reducible refine bAlloc ?_ _) | (with_reducible refine bDrewN ?_ _) | (with_reducible refine bDrew ?_) | (with_reducible refine bSet ?_ (by first | exact Nat.le_refl _ | (simp; omega) | omega) _) | (with_reducible refine bThen ?_ (by with_reducible assumption))))⟩
          · have e : mn bu tr.busDaily = bu := by unfold mn; split <;> omega
            have hB3 := bSet hB2 (p := ⟨bo, 2, none⟩) (by show w.heap.size ≤ bo; omega) (.int .i64 (bu))
            have HO3 : Box _ bo #[.int .i64 day, .int .i64 ra, .int .i64 (bu), .int .i64 0, .int .i64 mo, .int .i64 z1, .int .i64 z2] 57 := (HO2.set 2 (.int .i64 (bu))).cast (by simp)
            have HR3 := HR2.other ⟨bo, 2, none⟩ (by show w.heap.size + 1 + 1 ≠ bo; omega) (.int .i64 (bu))
            refine (heldDay_calls tr m z1 z2 ra (bu) _ (hT.keep hB3) (by omega) (by omega)).mono ?_
            rintro _ w8 ⟨rfl, hb8⟩
            clear t0 t1 t2 t3 t4 t5 t6 t7 t8 t9 t10 t11 t12 t13 ltx HO2a HO2b HO2c HO2d HO2e HO2f HO2g HO2l HZ2a HZ2b HZ2l y2 HX2 HZ2 HO2 HR2
            replace HO3 := HO3.below' hb8
            replace HR3 := HR3.below' hb8
            replace hB3 := bThen hB3 hb8
            clear hb8
            have HO3a := (HO3).cell 0; have HO3b := (HO3).cell 1; have HO3c := (HO3).cell 2; have HO3d := (HO3).cell 3; have HO3e := (HO3).cell 4; have HO3f := (HO3).cell 5; have HO3g := (HO3).cell 6; have HO3l := (HO3).lt; simp at HO3a HO3b HO3c HO3d HO3e HO3f HO3g
            have HR3a := (HR3).cell 0; have HR3b := (HR3).cell 1; have HR3c := (HR3).cell 2; have HR3d := (HR3).cell 3; have HR3e := (HR3).cell 4; have HR3f := (HR3).cell 5; have HR3g := (HR3).cell 6; have HR3l := (HR3).lt; simp at HR3a HR3b HR3c HR3d HR3e HR3f HR3g
            have y3 := HO3.free 3
            have q0 := HR3.free 0
            have q1 := HR3.free 1
            have q2 := HR3.free 2
            have q3 := HR3.free 3
            have q4 := HR3.free 4
            have q5 := HR3.free 5
            have q6 := HR3.free 6
            have nb : w.heap.size + 1 + 1 ≠ bo := by omega
            have nb' : bo ≠ w.heap.size + 1 + 1 := by omega
            go_wp2_with fail
            refine bodyPost_ret (v := .tuple #[.agg (DayC.cells ⟨day, ra, bu, heldF tr (z1, z2) ra (bu) Span.daily, mo, z1, z2⟩), .int .i64 0]) (by simp [results, Try.results42, go_sem, DayC.cells, HR3a, HR3b, HR3c, HR3d, HR3e, HR3f, HR3g]) rfl ⟨by rw [HF.out]; simp only [dayEnd, e], by (repeat (first | (with_reducible exact hB3) | (with_reducible refine bAlloc ?_ _) | (with_reducible refine bDrewN ?_ _) | (with_reducible refine bDrew ?_) | (with_reducible refine bSet ?_ (by first | exact Nat.le_refl _ | (simp; omega) | omega) _) | (with_reducible refine bThen ?_ (by with_reducible assumption))))⟩
  · have e : dayC tr day l = (DayC.zero, rightF tr) := by simp [dayC, hr]
    rw [e]
    clear e
    generalize rightF tr = er at *
    go_enter Try.func42, Try.ntmps42
    go_wp2_with fail
    refine (R _ hT0).mono ?_
    rintro _ wq ⟨rfl, hb⟩
    replace HR := HR.below' hb
    replace hB := bThen hB hb
    have HRa := (HR).cell 0; have HRb := (HR).cell 1; have HRc := (HR).cell 2; have HRd := (HR).cell 3; have HRe := (HR).cell 4; have HRf := (HR).cell 5; have HRg := (HR).cell 6; have HRl := (HR).lt; simp at HRa HRb HRc HRd HRe HRf HRg
    have y0 := HR.free 0
    have y1 := HR.free 1
    have y2 := HR.free 2
    have y3 := HR.free 3
    have y4 := HR.free 4
    have y5 := HR.free 5
    have y6 := HR.free 6
    go_wp2_with fail
    refine bodyPost_ret (v := .tuple #[.agg DayC.zero.cells, .int .i64 er]) (by simp [results, Try.results42, go_sem, DayC.cells, DayC.zero, HRa, HRb, HRc, HRd, HRe, HRf, HRg]) rfl ⟨rfl, by (repeat (first | (with_reducible exact hB) | (with_reducible refine bAlloc ?_ _) | (with_reducible refine bDrewN ?_ _) | (with_reducible refine bDrew ?_) | (with_reducible refine bSet ?_ (by first | exact Nat.le_refl _ | (simp; omega) | omega) _) | (with_reducible refine bThen ?_ (by with_reducible assumption))))⟩
end Go.Proofs.Ytmeogadkbbeglaa
end
section
namespace Go.Proofs.Ytmeogadkbbeglaa
open Go.RowKit Go.Proofs.YtmeogadkbbeglaaQ
set_option maxHeartbeats 3200000
set_option maxRecDepth 100000
/-- bad's answer behind its first test -/
def badG (has : Bool) (d : DayC) : Int :=
  if (sumB d.rail && (sumB d.bus && (sumB d.capped && sumB d.most))) = false then 50
  else if d.capped < d.bus then 50
  else if d.low = 0 ∧ d.high = 0 then 0
  else if has = false ∨ d.low < 1 ∨ d.high < d.low then 1
  else 0
theorem bad_late {t : Tariff} {d : DayC} {o : Option DayC} (h : lateB d o = true) : badF t d o = 60 := by simp [badF, h]
theorem bad_rest {t : Tariff} {d : DayC} {o : Option DayC} (h : lateB d o = false) : badF t d o = badG (spFind t.sp d.low d.high).isSome d := by simp [badF, badG, h]
theorem spOut_has (o : Option Span) : (spOut o).2.2.2.2.2 = o.isSome := by cases o <;> rfl
theorem spRes_out (o : Option Span) : spRes o = .tuple #[.agg #[.int .i64 (spOut o).1, .int .i64 (spOut o).2.1, .int .i64 (spOut o).2.2.1, .int .i64 (spOut o).2.2.2.1, .int .i64 (spOut o).2.2.2.2.1], .bool (spOut o).2.2.2.2.2] := by cases o <;> rfl
theorem cweek_calls (d : Int) (W : World) : Calls Try.prog 68 #[.int .i64 d] W fun e w' => e = .returned (.int .i64 (weekF d)) ∧ Below W.heap.size W w' :=
  (clock_Week.calls d (weekF d) W (cweek_f d)).mono fun _ _ h => ⟨h.1, h.2.below⟩
theorem badG_50 {has : Bool} {d : DayC} (h : sumB d.rail = false ∨ sumB d.bus = false ∨ sumB d.capped = false ∨ sumB d.most = false) : badG has d = 50 := by
  unfold badG
  rw [if_pos (by rcases h with h | h | h | h <;> simp [h])]
theorem badG_go {has : Bool} {d : DayC} (h : sumB d.rail = true ∧ sumB d.bus = true ∧ sumB d.capped = true ∧ sumB d.most = true) : badG has d = if d.capped < d.bus then 50
  else if d.low = 0 ∧ d.high = 0 then 0
  else if has = false ∨ d.low < 1 ∨ d.high < d.low then 1
  else 0 := by
  unfold badG
  rw [if_neg (by simp [h])]
theorem bad_calls (tr : Tariff) (m : TMem) (d : DayC) (o : Option (Nat × Nat × DayC)) (w : World) (hT : tr.At w m) (ho : ∀ b off x, o = some (b, off, x) → w.cell? ⟨b, off, none⟩ = some (.int .i64 x.day)) :
    Calls Try.prog 101 #[.agg (tr.cells m), .agg #[.int .i64 (d).day, .int .i64 (d).rail, .int .i64 (d).bus, .int .i64 (d).capped, .int .i64 (d).most, .int .i64 (d).low, .int .i64 (d).high], .pointer (o.map fun q => ⟨q.1, q.2.1, none⟩)] w fun e w' => e = .returned (.int .i64 (badF tr d (o.map fun q => q.2.2))) ∧ Below w.heap.size w w' := by
  have HX := (Box.new w (tr.cells m) 27).alloc (.cells #[.int .i64 (d).day, .int .i64 (d).rail, .int .i64 (d).bus, .int .i64 (d).capped, .int .i64 (d).most, .int .i64 (d).low, .int .i64 (d).high] 57)
  have HD := Box.new' (w := w.alloc (.cells (tr.cells m) 27)) (b := w.heap.size + 1) (by simp) #[.int .i64 (d).day, .int .i64 (d).rail, .int .i64 (d).bus, .int .i64 (d).capped, .int .i64 (d).most, .int .i64 (d).low, .int .i64 (d).high] 57
  have hB := bAlloc (bAlloc (Below.refl w.heap.size w) (.cells (tr.cells m) 27)) (.cells #[.int .i64 (d).day, .int .i64 (d).rail, .int .i64 (d).bus, .int .i64 (d).capped, .int .i64 (d).most, .int .i64 (d).low, .int .i64 (d).high] 57)
  replace hT := hT.keep hB
  have K := fun W => cweek_calls d.day W
  cases hlate : lateB d (o.map fun q => q.2.2)
  · rw [bad_rest hlate]
    have S := fun W h => span_calls tr m d.low d.high W h
    rw [spRes_out] at S
    have eh := spOut_has (spFind tr.sp d.low d.high)
    rw [← eh]
    clear eh
    generalize spOut (spFind tr.sp d.low d.high) = so at *
    obtain ⟨s1, s2, s3, s4, s5, s6⟩ := so
    simp only at S ⊢
    cases o with
    | none =>
      simp only [Option.map_none]
      go_enter Try.func101, Try.ntmps101
      go_wp2_with fail
      generalize (w.alloc (.cells (tr.cells m) 27)).alloc _ = w2 at *
      have HDa := (HD).cell 0; have HDb := (HD).cell 1; have HDc := (HD).cell 2; have HDd := (HD).cell 3; have HDe := (HD).cell 4; have HDf := (HD).cell 5; have HDg := (HD).cell 6; have HDl := (HD).lt; simp at HDa HDb HDc HDd HDe HDf HDg
      have ltx := HX.lt
      (refine wp_region_calm_lit (by kernel_rfl) (by kernel_rfl) ?_; (repeat (go_big_quiet_step (fail))); refine wpQuiet_nil ?_; intro _ hw'; obtain ⟨nq, hw''⟩ := hw'; subst hw'')
      have hwe := World.below_ext w2 nq
      have hB2 := bThen hB hwe
      have HX2 := HX.below' hwe
      have HD2 := HD.below' hwe
      have hT2 := hT.keep hwe
      clear hwe hT HX HD HDa HDb HDc HDd HDe HDf HDg HDl ltx
      generalize w2.ext nq = w3 at *
      clear hB
      have HD2a := (HD2).cell 0; have HD2b := (HD2).cell 1; have HD2c := (HD2).cell 2; have HD2d := (HD2).cell 3; have HD2e := (HD2).cell 4; have HD2f := (HD2).cell 5; have HD2g := (HD2).cell 6; have HD2l := (HD2).lt; simp at HD2a HD2b HD2c HD2d HD2e HD2f HD2g
      have ltx := HX2.lt
      go_wp2_with fail
      have HL := Box.new w3 #[.int .i64 d.rail, .int .i64 d.bus, .int .i64 d.capped, .int .i64 d.most] 3
      have hz := bAlloc (Below.refl w3.heap.size w3) (.cells #[.int .i64 d.rail, .int .i64 d.bus, .int .i64 d.capped, .int .i64 d.most] 3)
      replace HX2 := HX2.below' hz
      replace HD2 := HD2.below' hz
      replace hT2 := hT2.keep hz
      replace hB2 := bThen hB2 hz
      clear HD2a HD2b HD2c HD2d HD2e HD2f HD2g HD2l ltx hz
      generalize hb9 : w3.heap.size = b9 at *
      have HB9 := Lib.hid hb9
      clear hb9
      generalize (w3.alloc (.cells #[.int .i64 d.rail, .int .i64 d.bus, .int .i64 d.capped, .int .i64 d.most] 3)) = w9 at *
      go_loopw [43] (fun i wr => ∃ k : Nat, k ≤ 4 ∧ i = .int .i64 k ∧ Below w9.heap.size w9 wr ∧ Hid (([d.rail, d.bus, d.capped, d.most].take k).all sumB = true)) (fun i _ => 4 - (intOf i).toNat)
      case atStart => exact ⟨0, by omega, rfl, Below.refl _ _, rfl⟩
      case round =>
        obtain ⟨k, hk, rfl, hbr, hall⟩ := hrel
        have HLr := HL.below' hbr
        by_cases hlt : k < 4
        · have l0 : wr.cell? ⟨b9, 0, none⟩ = some (.int .i64 d.rail) := HLr.cell 0
          have l1 : wr.cell? ⟨b9, 1, none⟩ = some (.int .i64 d.bus) := HLr.cell 1
          have l2 : wr.cell? ⟨b9, 2, none⟩ = some (.int .i64 d.capped) := HLr.cell 2
          have l3 : wr.cell? ⟨b9, 3, none⟩ = some (.int .i64 d.most) := HLr.cell 3
          have ltl := HLr.lt
          have hcase : k = 0 ∨ k = 1 ∨ k = 2 ∨ k = 3 := by omega
          rcases hcase with rfl | rfl | rfl | rfl
          · go_wp2_with fail
            all_goals first
            | (go_ret
               exact ⟨ret_int (badG_50 (by simp [sumB]; omega)).symm, bThen hB2 hbr⟩)
            | (go_roundw
               case rel => exact ⟨0 + 1, by omega, by go_num, hbr, all_snoc (by simp) hall.out (by simp [sumB]; omega)⟩
               case measure => simp [intOf])
            | fail
          · go_wp2_with fail
            all_goals first
            | (go_ret
               exact ⟨ret_int (badG_50 (by simp [sumB]; omega)).symm, bThen hB2 hbr⟩)
            | (go_roundw
               case rel => exact ⟨1 + 1, by omega, by go_num, hbr, all_snoc (by simp) hall.out (by simp [sumB]; omega)⟩
               case measure => simp [intOf])
            | fail
          · go_wp2_with fail
            all_goals first
            | (go_ret
               exact ⟨ret_int (badG_50 (by simp [sumB]; omega)).symm, bThen hB2 hbr⟩)
            | (go_roundw
               case rel => exact ⟨2 + 1, by omega, by go_num, hbr, all_snoc (by simp) hall.out (by simp [sumB]; omega)⟩
               case measure => simp [intOf])
            | fail
          · go_wp2_with fail
            all_goals first
            | (go_ret
               exact ⟨ret_int (badG_50 (by simp [sumB]; omega)).symm, bThen hB2 hbr⟩)
            | (go_roundw
               case rel => exact ⟨3 + 1, by omega, by go_num, hbr, all_snoc (by simp) hall.out (by simp [sumB]; omega)⟩
               case measure => simp [intOf])
            | fail
        · obtain rfl : k = 4 := by omega
          have hs := hall.out
          simp at hs
          have hg := badG_go (has := s6) (d := d) ⟨hs.1, hs.2.1, hs.2.2.1, hs.2.2.2⟩
          have HG := Lib.hid hg
          clear hg hs hall
          have HDr := HD2.below' hbr
          have HXr := HX2.below' hbr
          have hTr := hT2.keep hbr
          have hBr := bThen hB2 hbr
          clear HD2 HX2 hT2 hB2 HLr HL
          obtain ⟨t0, t1, t2, t3, t4, t5, t6, t7, t8, t9, t10, t11, t12, t13⟩ := tcells HXr
          have lt0 := HXr.lt
          have HDra := (HDr).cell 0; have HDrb := (HDr).cell 1; have HDrc := (HDr).cell 2; have HDrd := (HDr).cell 3; have HDre := (HDr).cell 4; have HDrf := (HDr).cell 5; have HDrg := (HDr).cell 6; have HDrl := (HDr).lt; simp at HDra HDrb HDrc HDrd HDre HDrf HDrg
          go_wp2_with fail
          all_goals first
          | (with_reducible refine (S _ hTr).mono ?_
             rintro _ w5 ⟨rfl, hb5⟩
             clear t0 t1 t2 t3 t4 t5 t6 t7 t8 t9 t10 t11 t12 t13 lt0 HDra HDrb HDrc HDrd HDre HDrf HDrg HDrl
             replace HDr := HDr.below' hb5
             replace hBr := bThen hBr hb5
             have HDra := (HDr).cell 0; have HDrb := (HDr).cell 1; have HDrc := (HDr).cell 2; have HDrd := (HDr).cell 3; have HDre := (HDr).cell 4; have HDrf := (HDr).cell 5; have HDrg := (HDr).cell 6; have HDrl := (HDr).lt; simp at HDra HDrb HDrc HDrd HDre HDrf HDrg
             cases s6
             all_goals go_wp2_with fail
             all_goals
               go_ret
               exact ⟨ret_int (by rw [HG.out]; simp; grind), by (repeat (first | (with_reducible exact hBr) | (with_reducible refine bAlloc ?_ _) | (with_reducible refine bDrewN ?_ _) | (with_reducible refine bDrew ?_) | (with_reducible refine bSet ?_ (by first | exact Nat.le_refl _ | (simp; omega) | omega) _) | (with_reducible refine bThen ?_ (by with_reducible assumption))))⟩)
          | (have S2 := S
             rw [show d.low = 0 by assumption] at S2
             with_reducible refine (S2 _ hTr).mono ?_
             rintro _ w5 ⟨rfl, hb5⟩
             clear t0 t1 t2 t3 t4 t5 t6 t7 t8 t9 t10 t11 t12 t13 lt0 HDra HDrb HDrc HDrd HDre HDrf HDrg HDrl
             replace HDr := HDr.below' hb5
             replace hBr := bThen hBr hb5
             have HDra := (HDr).cell 0; have HDrb := (HDr).cell 1; have HDrc := (HDr).cell 2; have HDrd := (HDr).cell 3; have HDre := (HDr).cell 4; have HDrf := (HDr).cell 5; have HDrg := (HDr).cell 6; have HDrl := (HDr).lt; simp at HDra HDrb HDrc HDrd HDre HDrf HDrg
             cases s6
             all_goals go_wp2_with fail
             all_goals
               go_ret
               exact ⟨ret_int (by rw [HG.out]; simp; grind), by (repeat (first | (with_reducible exact hBr) | (with_reducible refine bAlloc ?_ _) | (with_reducible refine bDrewN ?_ _) | (with_reducible refine bDrew ?_) | (with_reducible refine bSet ?_ (by first | exact Nat.le_refl _ | (simp; omega) | omega) _) | (with_reducible refine bThen ?_ (by with_reducible assumption))))⟩)
          | (go_ret
             exact ⟨ret_int (by rw [HG.out]; grind), hBr⟩)
          | fail
    | some q =>
      obtain ⟨b, off, x⟩ := q
      simp only [Option.map_some]
      have hx := keep hB (ho b off x rfl)
      have L := fun W => cweek_calls x.day W
      simp only [Option.map_some, lateB, Bool.or_eq_false_iff, decide_eq_false_iff_not] at hlate
      obtain ⟨h1, h2⟩ := hlate
      have h1' : decide (d.day ≤ x.day) = false := by simpa using h1
      generalize weekF d.day = wd at *
      generalize weekF x.day = wx at *
      go_enter Try.func101, Try.ntmps101
      go_wp2_with fail
      generalize (w.alloc (.cells (tr.cells m) 27)).alloc _ = w2 at *
      have HDa := (HD).cell 0; have HDb := (HD).cell 1; have HDc := (HD).cell 2; have HDd := (HD).cell 3; have HDe := (HD).cell 4; have HDf := (HD).cell 5; have HDg := (HD).cell 6; have HDl := (HD).lt; simp at HDa HDb HDc HDd HDe HDf HDg
      have ltx := HX.lt
      have lto := World.block_lt_of_cell? _ _ hx
      (refine wp_region_calm_lit (by kernel_rfl) (by kernel_rfl) ?_; (repeat (go_big_quiet_step (first | (go_at_call 68; with_reducible exact Calls.calm (K _)) | (go_at_call 68; with_reducible exact Calls.calm (L _))))); refine wpQuiet_nil ?_; intro _ hw'; obtain ⟨nq, hw''⟩ := hw'; subst hw'')
      have hwe := World.below_ext w2 nq
      have hB2 := bThen hB hwe
      have HX2 := HX.below' hwe
      have HD2 := HD.below' hwe
      have hT2 := hT.keep hwe
      clear hwe hx lto hT HX HD HDa HDb HDc HDd HDe HDf HDg HDl ltx
      generalize w2.ext nq = w3 at *
      clear hB
      have HD2a := (HD2).cell 0; have HD2b := (HD2).cell 1; have HD2c := (HD2).cell 2; have HD2d := (HD2).cell 3; have HD2e := (HD2).cell 4; have HD2f := (HD2).cell 5; have HD2g := (HD2).cell 6; have HD2l := (HD2).lt; simp at HD2a HD2b HD2c HD2d HD2e HD2f HD2g
      have ltx := HX2.lt
      go_wp2_with fail
      have HL := Box.new w3 #[.int .i64 d.rail, .int .i64 d.bus, .int .i64 d.capped, .int .i64 d.most] 3
      have hz := bAlloc (Below.refl w3.heap.size w3) (.cells #[.int .i64 d.rail, .int .i64 d.bus, .int .i64 d.capped, .int .i64 d.most] 3)
      replace HX2 := HX2.below' hz
      replace HD2 := HD2.below' hz
      replace hT2 := hT2.keep hz
      replace hB2 := bThen hB2 hz
      clear HD2a HD2b HD2c HD2d HD2e HD2f HD2g HD2l ltx hz
      generalize hb9 : w3.heap.size = b9 at *
      have HB9 := Lib.hid hb9
      clear hb9
      generalize (w3.alloc (.cells #[.int .i64 d.rail, .int .i64 d.bus, .int .i64 d.capped, .int .i64 d.most] 3)) = w9 at *
      go_loopw [43] (fun i wr => ∃ k : Nat, k ≤ 4 ∧ i = .int .i64 k ∧ Below w9.heap.size w9 wr ∧ Hid (([d.rail, d.bus, d.capped, d.most].take k).all sumB = true)) (fun i _ => 4 - (intOf i).toNat)
      case atStart => exact ⟨0, by omega, rfl, Below.refl _ _, rfl⟩
      case round =>
        obtain ⟨k, hk, rfl, hbr, hall⟩ := hrel
        have HLr := HL.below' hbr
        by_cases hlt : k < 4
        · have l0 : wr.cell? ⟨b9, 0, none⟩ = some (.int .i64 d.rail) := HLr.cell 0
          have l1 : wr.cell? ⟨b9, 1, none⟩ = some (.int .i64 d.bus) := HLr.cell 1
          have l2 : wr.cell? ⟨b9, 2, none⟩ = some (.int .i64 d.capped) := HLr.cell 2
          have l3 : wr.cell? ⟨b9, 3, none⟩ = some (.int .i64 d.most) := HLr.cell 3
          have ltl := HLr.lt
          have hcase : k = 0 ∨ k = 1 ∨ k = 2 ∨ k = 3 := by omega
          rcases hcase with rfl | rfl | rfl | rfl
          · go_wp2_with fail
            all_goals first
            | (go_ret
               exact ⟨ret_int (badG_50 (by simp [sumB]; omega)).symm, bThen hB2 hbr⟩)
            | (go_roundw
               case rel => exact ⟨0 + 1, by omega, by go_num, hbr, all_snoc (by simp) hall.out (by simp [sumB]; omega)⟩
               case measure => simp [intOf])
            | fail
          · go_wp2_with fail
            all_goals first
            | (go_ret
               exact ⟨ret_int (badG_50 (by simp [sumB]; omega)).symm, bThen hB2 hbr⟩)
            | (go_roundw
               case rel => exact ⟨1 + 1, by omega, by go_num, hbr, all_snoc (by simp) hall.out (by simp [sumB]; omega)⟩
               case measure => simp [intOf])
            | fail
          · go_wp2_with fail
            all_goals first
            | (go_ret
               exact ⟨ret_int (badG_50 (by simp [sumB]; omega)).symm, bThen hB2 hbr⟩)
            | (go_roundw
               case rel => exact ⟨2 + 1, by omega, by go_num, hbr, all_snoc (by simp) hall.out (by simp [sumB]; omega)⟩
               case measure => simp [intOf])
            | fail
          · go_wp2_with fail
            all_goals first
            | (go_ret
               exact ⟨ret_int (badG_50 (by simp [sumB]; omega)).symm, bThen hB2 hbr⟩)
            | (go_roundw
               case rel => exact ⟨3 + 1, by omega, by go_num, hbr, all_snoc (by simp) hall.out (by simp [sumB]; omega)⟩
               case measure => simp [intOf])
            | fail
        · obtain rfl : k = 4 := by omega
          have hs := hall.out
          simp at hs
          have hg := badG_go (has := s6) (d := d) ⟨hs.1, hs.2.1, hs.2.2.1, hs.2.2.2⟩
          have HG := Lib.hid hg
          clear hg hs hall
          have HDr := HD2.below' hbr
          have HXr := HX2.below' hbr
          have hTr := hT2.keep hbr
          have hBr := bThen hB2 hbr
          clear HD2 HX2 hT2 hB2 HLr HL
          obtain ⟨t0, t1, t2, t3, t4, t5, t6, t7, t8, t9, t10, t11, t12, t13⟩ := tcells HXr
          have lt0 := HXr.lt
          have HDra := (HDr).cell 0; have HDrb := (HDr).cell 1; have HDrc := (HDr).cell 2; have HDrd := (HDr).cell 3; have HDre := (HDr).cell 4; have HDrf := (HDr).cell 5; have HDrg := (HDr).cell 6; have HDrl := (HDr).lt; simp at HDra HDrb HDrc HDrd HDre HDrf HDrg
          go_wp2_with fail
          all_goals first
          | (with_reducible refine (S _ hTr).mono ?_
             rintro _ w5 ⟨rfl, hb5⟩
             clear t0 t1 t2 t3 t4 t5 t6 t7 t8 t9 t10 t11 t12 t13 lt0 HDra HDrb HDrc HDrd HDre HDrf HDrg HDrl
             replace HDr := HDr.below' hb5
             replace hBr := bThen hBr hb5
             have HDra := (HDr).cell 0; have HDrb := (HDr).cell 1; have HDrc := (HDr).cell 2; have HDrd := (HDr).cell 3; have HDre := (HDr).cell 4; have HDrf := (HDr).cell 5; have HDrg := (HDr).cell 6; have HDrl := (HDr).lt; simp at HDra HDrb HDrc HDrd HDre HDrf HDrg
             cases s6
             all_goals go_wp2_with fail
             all_goals
               go_ret
               exact ⟨ret_int (by rw [HG.out]; simp; grind), by (repeat (first | (with_reducible exact hBr) | (with_reducible refine bAlloc ?_ _) | (with_reducible refine bDrewN ?_ _) | (with_reducible refine bDrew ?_) | (with_reducible refine bSet ?_ (by first | exact Nat.le_refl _ | (simp; omega) | omega) _) | (with_reducible refine bThen ?_ (by with_reducible assumption))))⟩)
          | (have S2 := S
             rw [show d.low = 0 by assumption] at S2
             with_reducible refine (S2 _ hTr).mono ?_
             rintro _ w5 ⟨rfl, hb5⟩
             clear t0 t1 t2 t3 t4 t5 t6 t7 t8 t9 t10 t11 t12 t13 lt0 HDra HDrb HDrc HDrd HDre HDrf HDrg HDrl
             replace HDr := HDr.below' hb5
             replace hBr := bThen hBr hb5
             have HDra := (HDr).cell 0; have HDrb := (HDr).cell 1; have HDrc := (HDr).cell 2; have HDrd := (HDr).cell 3; have HDre := (HDr).cell 4; have HDrf := (HDr).cell 5; have HDrg := (HDr).cell 6; have HDrl := (HDr).lt; simp at HDra HDrb HDrc HDrd HDre HDrf HDrg
             cases s6
             all_goals go_wp2_with fail
             all_goals
               go_ret
               exact ⟨ret_int (by rw [HG.out]; simp; grind), by (repeat (first | (with_reducible exact hBr) | (with_reducible refine bAlloc ?_ _) | (with_reducible refine bDrewN ?_ _) | (with_reducible refine bDrew ?_) | (with_reducible refine bSet ?_ (by first | exact Nat.le_refl _ | (simp; omega) | omega) _) | (with_reducible refine bThen ?_ (by with_reducible assumption))))⟩)
          | (go_ret
             exact ⟨ret_int (by rw [HG.out]; grind), hBr⟩)
          | fail
  · rw [bad_late hlate]
    cases o with
    | none => simp [lateB] at hlate
    | some q =>
      obtain ⟨b, off, x⟩ := q
      simp only [Option.map_some]
      have hx := keep hB (ho b off x rfl)
      have L := fun W => cweek_calls x.day W
      simp only [Option.map_some, lateB] at hlate
      cases h1 : decide (d.day ≤ x.day)
      · rw [h1, Bool.false_or] at hlate
        generalize weekF d.day = wd at *
        generalize weekF x.day = wx at *
        go_enter Try.func101, Try.ntmps101
        go_wp2_with fail
        generalize (w.alloc (.cells (tr.cells m) 27)).alloc _ = w2 at *
        have HDa := (HD).cell 0; have HDb := (HD).cell 1; have HDc := (HD).cell 2; have HDd := (HD).cell 3; have HDe := (HD).cell 4; have HDf := (HD).cell 5; have HDg := (HD).cell 6; have HDl := (HD).lt; simp at HDa HDb HDc HDd HDe HDf HDg
        have ltx := HX.lt
        have lto := World.block_lt_of_cell? _ _ hx
        (refine wp_region_calm_lit (by kernel_rfl) (by kernel_rfl) ?_; (repeat (go_big_quiet_step (first | (go_at_call 68; with_reducible exact Calls.calm (K _)) | (go_at_call 68; with_reducible exact Calls.calm (L _))))); refine wpQuiet_nil ?_; intro _ hw'; obtain ⟨nq, hw''⟩ := hw'; subst hw'')
        go_wp2_with fail
        go_ret
        exact ⟨rfl, bThen hB (World.below_ext _ _)⟩
      · go_enter Try.func101, Try.ntmps101
        go_wp2_with fail
        generalize (w.alloc (.cells (tr.cells m) 27)).alloc _ = w2 at *
        have HDa := (HD).cell 0; have HDb := (HD).cell 1; have HDc := (HD).cell 2; have HDd := (HD).cell 3; have HDe := (HD).cell 4; have HDf := (HD).cell 5; have HDg := (HD).cell 6; have HDl := (HD).lt; simp at HDa HDb HDc HDd HDe HDf HDg
        have ltx := HX.lt
        have lto := World.block_lt_of_cell? _ _ hx
        (refine wp_region_calm_lit (by kernel_rfl) (by kernel_rfl) ?_; (repeat (go_big_quiet_step (fail))); refine wpQuiet_nil ?_; intro _ hw'; obtain ⟨nq, hw''⟩ := hw'; subst hw'')
        go_wp2_with fail
        go_ret
        exact ⟨rfl, bThen hB (World.below_ext _ _)⟩
end Go.Proofs.Ytmeogadkbbeglaa
end
section
namespace Go.Proofs.Ytmeogadkbbeglaa
set_option linter.unusedSimpArgs false
set_option linter.unusedVariables false
theorem stGo_mem : ∀ {l : List Station} {m a : Int} {k : Int}, stGo l m a = some k → ∀ s ∈ l, (1 ≤ s.zone ∧ s.zone ≤ 9) ∧ s.zone ≤ k
  | [], m, a, k, h, s, hs => by simp at hs
  | x :: r, m, a, k, h, s, hs => by
    simp only [stGo] at h
    split at h
    · rename_i hok
      have hle : ∀ {l : List Station} {m a k : Int}, stGo l m a = some k → m ≤ k := by
        intro l
        induction l with
        | nil => intro m a k h; simp only [stGo, Option.some.injEq] at h; omega
        | cons y q ih =>
          intro m a k h
          simp only [stGo] at h
          split at h
          · have := ih h; split at this <;> omega
          · cases h
      have h1 := hle h
      rcases List.mem_cons.1 hs with rfl | hs
      · simp [stOk, inB] at hok
        refine ⟨by omega, ?_⟩
        split at h1 <;> omega
      · exact stGo_mem h s hs
    · cases h
theorem right_lists {t : Tariff} (h : rightF t = 0) : ∃ most, stationsF t.st = some most ∧ spansF t.sp most = true ∧ t.sp.all spPrice = true ∧ pricesB t = true ∧ t.sp.all (fun a => t.sp.all (fun b => wide1 a b)) = true := by
  unfold rightF at h
  cases hs : stationsF t.st with
  | none => simp [hs] at h
  | some most =>
    simp only [hs] at h
    refine ⟨most, rfl, ?_⟩
    cases h1 : spansF t.sp most
    · simp [h1] at h
    cases h2 : pricesB t
    · simp [h1, h2] at h
    cases h3 : t.sp.all spPrice
    · simp [h1, h2, h3] at h
    cases h4 : t.sp.all (fun a => t.sp.all (fun b => wide1 a b))
    · simp only [h1, h2, h3, h4] at h; simp at h
    simp
theorem st_zone {t : Tariff} (h : rightF t = 0) {id : Int} {s : Station} (hs : stFind t.st id = some s) : 1 ≤ s.zone := by
  obtain ⟨most, h1, -⟩ := right_lists h
  unfold stationsF at h1
  split at h1
  · exact (stGo_mem h1 s (List.mem_of_find?_eq_some hs)).1.1
  · cases h1
theorem zWith_pos {z : Int × Int} (hz : 0 ≤ z.1) {a b : Int} (ha : 1 ≤ a) : 1 ≤ (zWith z a b).1 := by
  obtain ⟨z1, z2⟩ := z
  simp only at hz
  unfold zWith mn
  grind
end Go.Proofs.Ytmeogadkbbeglaa
end
section
namespace Go.Proofs.Ytmeogadkbbeglaa
set_option linter.unusedSimpArgs false
set_option linter.unusedVariables false
theorem spGo_all : ∀ (l : List Span) (f t most : Int) (x y : Nat), 1 ≤ f → f ≤ t → t ≤ most → most - f = x → most - t = y → spGo l f t most = true → l.length = y + 1 + tri x →
    ∀ a b : Int, a ≤ b → b ≤ most → (f < a ∨ (a = f ∧ t ≤ b)) → ∃ s ∈ l, s.frm = a ∧ s.to = b
  | [], f, t, most, x, y, h1, h2, h3, hx, hy, hg, hl, a, b, hab, hb, hp => by simp at hl; omega
  | s :: r, f, t, most, x, y, h1, h2, h3, hx, hy, hg, hl, a, b, hab, hb, hp => by
    simp only [spGo] at hg
    split at hg
    · rename_i he
      by_cases hs : a = f ∧ b = t
      · exact ⟨s, List.mem_cons_self .., by omega, by omega⟩
      split at hg
      · rename_i hlast
        cases x with
        | zero => omega
        | succ x =>
          simp only [tri, List.length_cons] at hl
          obtain ⟨q, hq, hh⟩ := spGo_all r (f + 1) (f + 1) most x x (by omega) (by omega) (by omega) (by omega) (by omega) hg (by omega) a b hab hb (by omega)
          exact ⟨q, List.mem_cons_of_mem _ hq, hh⟩
      · rename_i hmore
        cases y with
        | zero => omega
        | succ y =>
          simp only [List.length_cons] at hl
          obtain ⟨q, hq, hh⟩ := spGo_all r f (t + 1) most x y h1 (by omega) (by omega) hx (by omega) hg (by omega) a b hab hb (by omega)
          exact ⟨q, List.mem_cons_of_mem _ hq, hh⟩
    · cases hg
theorem span_there {t : Tariff} (hr : rightF t = 0) {most : Int} (hm : stationsF t.st = some most) {a b : Int} (ha : 1 ≤ a) (hab : a ≤ b) (hb : b ≤ most) : ∃ s, spFind t.sp a b = some s := by
  obtain ⟨m', h1, h2, -⟩ := right_lists hr
  rw [hm] at h1
  cases h1
  have hrg := stations_range hm
  unfold spansF at h2
  split at h2
  · rename_i hl
    obtain ⟨x, hx⟩ : ∃ x : Nat, most = x + 1 := ⟨(most - 1).toNat, by omega⟩
    have e1 := tri_eq x
    have e2 : most * (most + 1) = ((2 * (tri x + (x + 1)) : Nat) : Int) := by
      have : 2 * (tri x + (x + 1)) = (x + 1) * (x + 1 + 1) := by have := tri_eq (x + 1); simpa [tri] using this
      rw [this, hx]; simp
    obtain ⟨s, hs, h3, h4⟩ := spGo_all t.sp 1 1 most x x (by omega) (by omega) (by omega) (by omega) (by omega) h2 (by omega) a b hab hb (by omega)
    cases hf : spFind t.sp a b with
    | some s => exact ⟨s, rfl⟩
    | none =>
      unfold spFind at hf
      rw [List.find?_eq_none] at hf
      have := hf s hs
      simp only [mn, mx, Bool.and_eq_true, beq_iff_eq] at this
      exfalso; apply this
      constructor <;> grind
  · cases h2
/-- zones as they may be -/
def ZOk (t : Tariff) (z1 z2 : Int) : Prop := (z1 = 0 ∧ z2 = 0) ∨ (1 ≤ z1 ∧ z1 ≤ z2 ∧ ∃ most, stationsF t.st = some most ∧ z2 ≤ most)
theorem ZOk.step {t : Tariff} {z1 z2 lo hi : Int} (h : ZOk t z1 z2) (k : ZOk t lo hi) : ZOk t (zWith (z1, z2) lo hi).1 (zWith (z1, z2) lo hi).2 := by
  unfold zWith
  rcases k with ⟨k1, k2⟩ | ⟨k1, k2, most, k3, k4⟩
  · rw [if_pos k1]; exact h
  · rw [if_neg (by omega)]
    rcases h with ⟨h1, h2⟩ | ⟨h1, h2, most', h3, h4⟩
    · rw [if_pos h1]; exact .inr ⟨k1, k2, most, k3, k4⟩
    · rw [if_neg (by simp only; omega)]
      rw [k3] at h3
      cases h3
      right
      simp only [mn, mx]
      refine ⟨by split <;> omega, by split <;> split <;> omega, most, k3, by split <;> omega⟩
theorem ZOk.of_st {t : Tariff} (hr : rightF t = 0) {i k : Int} {a b : Station} (ha : stFind t.st i = some a) (hb : stFind t.st k = some b) : ZOk t (mn a.zone b.zone) (mx a.zone b.zone) := by
  obtain ⟨most, h1, -⟩ := right_lists hr
  have h1' := h1
  unfold stationsF at h1
  split at h1
  · have x := stGo_mem h1 a (List.mem_of_find?_eq_some ha)
    have y := stGo_mem h1 b (List.mem_of_find?_eq_some hb)
    right
    simp only [mn, mx]
    refine ⟨by split <;> omega, by split <;> omega, most, h1', by split <;> omega⟩
  · cases h1
/-- what holds all along a day -/
structure DInv (t : Tariff) (a : DAcc) : Prop where
  z : ZOk t a.z1 a.z2
  none : a.z1 = 0 → a.rail = 0
theorem DInv.step {t : Tariff} (hr : rightF t = 0) {day : Int} {a : DAcc} {p : Priced} (h : DInv t a) (h0 : (dayStep t day a p).1 = 0) : DInv t (dayStep t day a p).2 := by
  unfold dayStep at h0 ⊢
  by_cases h1 : p.j.kind < 1 ∨ 4 < p.j.kind
  · rw [if_pos h1] at h0; exact absurd h0 (by simp)
  rw [if_neg h1] at h0 ⊢
  by_cases h2 : p.fare < 0 ∨ 1048576 < p.fare
  · rw [if_pos h2] at h0; exact absurd h0 (by simp)
  rw [if_neg h2] at h0 ⊢
  by_cases h3 : timeB p.j.start = false ∨ dayF p.j.start ≠ day
  · rw [if_pos h3] at h0; exact absurd h0 (by simp)
  rw [if_neg h3] at h0 ⊢
  by_cases h4 : p.j.kind = 4
  · rw [if_pos h4]; exact ⟨h.z, h.none⟩
  rw [if_neg h4] at h0 ⊢
  by_cases h5 : p.j.kind ≠ 1
  · rw [if_pos h5]; exact ⟨h.z, h.none⟩
  rw [if_neg h5] at h0 ⊢
  split
  · rename_i x y hx hy
    have hz := ZOk.of_st hr hx hy
    refine ⟨h.z.step hz, fun e => ?_⟩
    exfalso
    have hz0 : 0 ≤ a.z1 := by rcases h.z with ⟨e, -⟩ | ⟨e, -⟩ <;> omega
    have h1 : 1 ≤ mn x.zone y.zone := by
      have := st_zone hr hx
      have := st_zone hr hy
      unfold mn; split <;> omega
    have := zWith_pos (z := (a.z1, a.z2)) (b := mx x.zone y.zone) hz0 h1
    simp only at e
    omega
  · rename_i hno
    split at h0
    · rename_i x y hx hy
      exact absurd hy (hno x y hx)
    · exact absurd h0 (by simp)
theorem dayGo_inv {t : Tariff} (hr : rightF t = 0) {day : Int} : ∀ (l : List Priced) (a : DAcc) (k : Nat), DInv t a → a.Ok k → (dayGo t day l a).1 = 0 → DInv t (dayGo t day l a).2 ∧ (dayGo t day l a).2.Ok (k + l.length)
  | [], a, k, h, ho, h0 => ⟨h, ho⟩
  | p :: r, a, k, h, ho, h0 => by
    rw [dayGo_cons] at h0 ⊢
    by_cases h1 : (dayStep t day a p).1 = 0
    · rw [if_pos h1] at h0 ⊢
      have := dayGo_inv hr r _ (k + 1) (h.step hr h1) (ho.step h1) h0
      rw [List.length_cons, show k + (r.length + 1) = k + 1 + r.length by omega]
      exact this
    · rw [if_neg h1] at h0; exact absurd h0 h1
/-- a day that may be -/
structure DOk (t : Tariff) (d : DayC) : Prop where
  rail : 0 ≤ d.rail ∧ d.rail ≤ 1099511627776
  bus : 0 ≤ d.bus ∧ d.bus ≤ 1048576
  most : 0 ≤ d.most ∧ d.most ≤ 1099511627776
  busd : d.bus ≤ t.busDaily
  low : d.bus ≤ d.capped
  high : d.capped ≤ d.rail + d.bus
  capd : d.capped ≤ mx (spanOf t (d.low, d.high) Span.daily) t.busDaily
  z : ZOk t d.low d.high
  none : d.low = 0 → d.capped = d.bus
theorem spanOf_range {t : Tariff} (hr : rightF t = 0) (z : Int × Int) : (0 ≤ spanOf t z Span.daily ∧ spanOf t z Span.daily ≤ 1048576) ∧ (0 ≤ spanOf t z Span.weekly ∧ spanOf t z Span.weekly ≤ 1048576) := by
  unfold spanOf
  cases h : spFind t.sp z.1 z.2 with
  | none => simp
  | some s =>
    obtain ⟨-, h1, h2⟩ := ok_price hr (find_mem h).1
    simp [priceB, inB] at h1 h2
    exact ⟨h1, h2⟩
theorem day_ok {t : Tariff} {day : Int} {l : List Priced} (h : (dayC t day l).2 = 0) : rightF t = 0 ∧ (dayC t day l).1.day = day ∧ DOk t (dayC t day l).1 := by
  unfold dayC at h ⊢
  by_cases hr : rightF t ≠ 0
  · rw [if_pos hr] at h; exact absurd h hr
  rw [if_neg hr] at h ⊢
  have hr : rightF t = 0 := by simpa using hr
  by_cases hl : 2000 < l.length
  · rw [if_pos hl] at h; exact absurd h (by simp)
  rw [if_neg hl] at h ⊢
  by_cases hg : (dayGo t day l ⟨0, 0, 0, 0, 0⟩).1 ≠ 0
  · rw [if_pos hg] at h; exact absurd h hg
  rw [if_neg hg]
  obtain ⟨hi, ho⟩ := dayGo_inv hr l ⟨0, 0, 0, 0, 0⟩ 0 ⟨.inl ⟨rfl, rfl⟩, fun _ => rfl⟩ DAcc.Ok.zero (by simpa using hg)
  generalize (dayGo t day l ⟨0, 0, 0, 0, 0⟩).2 = a at *
  obtain ⟨ra, bu, mo, z1, z2⟩ := a
  obtain ⟨r1, r2, b1, b2, m1, m2⟩ := ho
  obtain ⟨-, hd, -⟩ := ok_prices hr
  have hs := spanOf_range hr (z1, z2)
  have hn := hi.none
  have hz := hi.z
  simp only at *
  refine ⟨hr, rfl, ?_⟩
  simp only [dayEnd]
  have hbus : 0 ≤ mn bu t.busDaily ∧ mn bu t.busDaily ≤ t.busDaily := by unfold mn; split <;> omega
  generalize mn bu t.busDaily = bb at *
  have hz0 : z1 ≠ 0 → 1 ≤ z1 := fun h => by rcases hz with ⟨e, -⟩ | ⟨e, -⟩ <;> omega
  generalize spanOf t (z1, z2) Span.daily = sd at *
  refine ⟨⟨r1, by simp only; omega⟩, ⟨hbus.1, by simp only; omega⟩, ⟨m1, by simp only; omega⟩, hbus.2, ?_, ?_, ?_, hz, ?_⟩
  all_goals simp only [heldF, mn, mx]
  · by_cases e : z1 = 0
    · rw [if_pos e]; omega
    · rw [if_neg e]; split <;> split <;> omega
  · by_cases e : z1 = 0
    · rw [if_pos e]; omega
    · rw [if_neg e]; split <;> split <;> omega
  · by_cases e : z1 = 0
    · rw [if_pos e, hn e]; split <;> omega
    · rw [if_neg e]; split <;> split <;> split <;> omega
  · intro e
    rw [if_pos e, hn e]; omega
theorem week_at {w d : Int} (h0 : -1000000 ≤ w) (h1 : w ≤ 1000000) (h2 : 7 * w ≤ d) (h3 : d ≤ 7 * w + 6) : weekF d = w := by
  unfold weekF dayB
  rw [decide_eq_true (by omega)]
  simp only [if_true]
  omega
/-- days of one week, one behind the other, from a day on -/
def InWeek (w : Int) : Int → List DayC → Prop
  | _, [] => True
  | i, d :: r => i ≤ d.day ∧ d.day ≤ 7 * w + 6 ∧ InWeek w (d.day + 1) r
theorem InWeek.len {w : Int} : ∀ {i : Int} {l : List DayC}, InWeek w i l → l ≠ [] → i + l.length ≤ 7 * w + 7
  | i, [], h, hn => absurd rfl hn
  | i, [d], h, hn => by have := h.1; have := h.2.1; simp; omega
  | i, d :: e :: r, h, hn => by
    have := InWeek.len h.2.2 (by simp)
    have := h.1
    simp only [List.length_cons] at *
    omega
def capSum : List DayC → Int
  | [] => 0
  | d :: r => d.capped + capSum r
def busSum : List DayC → Int
  | [] => 0
  | d :: r => d.bus + busSum r
def mostSum : List DayC → Int
  | [] => 0
  | d :: r => d.most + mostSum r
def zAll : List DayC → Int × Int → Int × Int
  | [], z => z
  | d :: r, z => zAll r (zWith z d.low d.high)
theorem bad_of_ok {t : Tariff} (hr : rightF t = 0) {d : DayC} {o : Option DayC} (h : DOk t d) (hl : lateB d o = false) : badF t d o = 0 := by
  obtain ⟨h1, h2, h3, h4, h5, h6, h7, h8, h9⟩ := h
  unfold badF
  rw [if_neg (by rw [hl]; simp)]
  have hc : 0 ≤ d.capped ∧ d.capped ≤ 1099511627776 := by
    have := spanOf_range hr (d.low, d.high)
    obtain ⟨-, hd, -⟩ := ok_prices hr
    refine ⟨by omega, ?_⟩
    have : mx (spanOf t (d.low, d.high) Span.daily) t.busDaily ≤ 1048576 := by unfold mx; split <;> omega
    omega
  rw [if_neg (by simp [sumB]; omega), if_neg (by omega)]
  by_cases e : d.low = 0 ∧ d.high = 0
  · rw [if_pos e]
  · rw [if_neg e]
    rcases h8 with h8 | ⟨k1, k2, most, k3, k4⟩
    · exact absurd h8 e
    · obtain ⟨s, hs⟩ := span_there hr k3 k1 k2 k4
      rw [if_neg (by rw [hs]; simp; omega)]
theorem wk_go {t : Tariff} (hr : rightF t = 0) {w : Int} (h0 : -1000000 ≤ w) (h1 : w ≤ 1000000) : ∀ (l : List DayC) (i : Int) (o : Option DayC) (a : WAcc), 7 * w ≤ i → InWeek w i l → (∀ d ∈ l, DOk t d) → (∀ x, o = some x → 7 * w ≤ x.day ∧ x.day < i) →
    wkGo t l o a = (0, ⟨a.rail + (capSum l - busSum l), a.bus + busSum l, a.most + mostSum l, (zAll l (a.z1, a.z2)).1, (zAll l (a.z1, a.z2)).2⟩)
  | [], i, o, a, hi, hw, hd, ho => by simp [wkGo, capSum, busSum, mostSum, zAll]
  | d :: r, i, o, a, hi, hw, hd, ho => by
    obtain ⟨hday, hday2, hw⟩ := hw
    have hdo := hd d (List.mem_cons_self ..)
    have hb : badF t d o = 0 := by
      refine bad_of_ok hr hdo ?_
      cases o with
      | none => rfl
      | some x =>
        obtain ⟨e, he⟩ := ho x rfl
        show (decide (d.day ≤ x.day) || (weekF d.day != weekF x.day)) = false
        rw [week_at (d := d.day) h0 h1 (by omega) (by omega), week_at (d := x.day) h0 h1 (by omega) (by omega)]
        simp; omega
    rw [wkGo_cons, if_pos hb, wk_go hr h0 h1 r (d.day + 1) (some d) (wkStep a d) (by omega) hw (fun x hx => hd x (List.mem_cons_of_mem _ hx)) (fun x hx => by cases hx; omega)]
    simp only [wkStep, capSum, busSum, mostSum, zAll, WAcc.mk.injEq, Prod.mk.injEq, true_and]
    refine ⟨by omega, by omega, by omega, trivial⟩
theorem sums {t : Tariff} : ∀ (l : List DayC), (∀ d ∈ l, DOk t d) → 0 ≤ busSum l ∧ busSum l ≤ capSum l ∧ 0 ≤ mostSum l
  | [], h => by simp [busSum, capSum, mostSum]
  | d :: r, h => by
    obtain ⟨h1, h2, h3⟩ := sums r fun x hx => h x (List.mem_cons_of_mem _ hx)
    have hdo := h d (List.mem_cons_self ..)
    have k1 := hdo.bus.1
    have k2 := hdo.low
    have k3 := hdo.most.1
    simp only [busSum, capSum, mostSum]
    omega
theorem zAll_ok {t : Tariff} : ∀ (l : List DayC) (z : Int × Int), (∀ d ∈ l, DOk t d) → ZOk t z.1 z.2 → ZOk t (zAll l z).1 (zAll l z).2
  | [], z, h, hz => hz
  | d :: r, z, h, hz => zAll_ok r _ (fun x hx => h x (List.mem_cons_of_mem _ hx)) (ZOk.step (z1 := z.1) (z2 := z.2) hz (h d (List.mem_cons_self ..)).z)
theorem zAll_zero {t : Tariff} : ∀ (l : List DayC) (z : Int × Int), (∀ d ∈ l, DOk t d) → ZOk t z.1 z.2 → (zAll l z).1 = 0 → z.1 = 0 ∧ busSum l = capSum l
  | [], z, h, hz, h0 => ⟨h0, rfl⟩
  | d :: r, z, h, hz, h0 => by
    have hdo := h d (List.mem_cons_self ..)
    obtain ⟨h1, h2⟩ := zAll_zero r _ (fun x hx => h x (List.mem_cons_of_mem _ hx)) (ZOk.step (z1 := z.1) (z2 := z.2) hz hdo.z) h0
    have hz0 : 0 ≤ z.1 := by rcases hz with ⟨e, -⟩ | ⟨e, -⟩ <;> omega
    by_cases hl : d.low = 0
    · refine ⟨by simpa [zWith, hl] using h1, ?_⟩
      simp only [busSum, capSum]
      have := hdo.none hl
      omega
    · exfalso
      have hl1 : 1 ≤ d.low := by rcases hdo.z with ⟨e, -⟩ | ⟨e, -⟩ <;> omega
      have := zWith_pos (z := z) (b := d.high) hz0 hl1
      have e : zWith (z.1, z.2) d.low d.high = zWith z d.low d.high := rfl
      rw [e] at h1
      omega
/-- What a week of days that may be comes to. -/
theorem week_ok {t : Tariff} (hr : rightF t = 0) {w : Int} (h0 : -1000000 ≤ w) (h1 : w ≤ 1000000) {l : List DayC} (hl : l.length ≤ 7) (hw : InWeek w (7 * w) l) (hd : ∀ d ∈ l, DOk t d) :
    (weekC t l).2 = 0 ∧ (weekC t l).1 ≤ capSum l + mostSum l ∧ (weekC t l).1 ≤ mx (spanOf t (zAll l (0, 0)) Span.weekly) t.busWeekly + mostSum l ∧ mostSum l ≤ (weekC t l).1 := by
  have hg := wk_go hr h0 h1 l (7 * w) none ⟨0, 0, 0, 0, 0⟩ (by omega) hw hd (fun x hx => by cases hx)
  obtain ⟨s1, s2, s3⟩ := sums l hd
  have hz := zAll_zero (t := t) l (0, 0) hd (.inl ⟨rfl, rfl⟩)
  obtain ⟨-, -, hb, -⟩ := ok_prices hr
  have hs := (spanOf_range hr (zAll l (0, 0))).2
  unfold weekC
  rw [if_neg (by simp [hr]), if_neg (by omega), hg]
  simp only
  rw [if_neg (by simp)]
  simp only [wkEnd, heldF]
  have e : ((zAll l (0, 0)).1, (zAll l (0, 0)).2) = zAll l (0, 0) := rfl
  simp only [e]
  generalize spanOf t (zAll l (0, 0)) Span.weekly = s at *
  generalize zAll l (0, 0) = z at *
  have hbus : 0 ≤ mn (0 + busSum l) t.busWeekly ∧ mn (0 + busSum l) t.busWeekly ≤ t.busWeekly ∧ mn (0 + busSum l) t.busWeekly ≤ busSum l := by unfold mn; split <;> omega
  generalize mn (0 + busSum l) t.busWeekly = b at *
  refine ⟨trivial, ?_, ?_, ?_⟩
  all_goals simp only [mn, mx]
  · by_cases hz0 : z.1 = 0
    · rw [if_pos hz0]; omega
    · rw [if_neg hz0]; split <;> split <;> omega
  · by_cases hz0 : z.1 = 0
    · rw [if_pos hz0]; have := (hz hz0).2; split <;> omega
    · rw [if_neg hz0]; split <;> split <;> split <;> omega
  · by_cases hz0 : z.1 = 0
    · rw [if_pos hz0]; omega
    · rw [if_neg hz0]; split <;> split <;> omega
end Go.Proofs.Ytmeogadkbbeglaa
end
