/- What the claim's walk leans on: U18, W18, U18c, W18c, Open18. -/
import Derived.Test.YtmeogadkbbeglaaH4
import Derived.Test.YtmeogadkbbeglaaH3
import Derived.Test.YtmeogadkbbeglaaK2
import Derived.Test.YtmeogadkbbeglaaK4
import Derived.Test.YtmeogadkbbeglaaK6
import Derived.Test.YtmeogadkbbeglaaK1
import Derived.Test.YtmeogadkbbeglaaOpen
section
namespace Go.Proofs.Ytmeogadkbbeglaa
open Go.RowKit Go.Proofs.YtmeogadkbbeglaaQ Go.Proofs.YtmeogadkbbeglaaW.PrintWords Go.Proofs.YtmeogadkbbeglaaW.PrintLast Go.Proofs.YtmeogadkbbeglaaW.PrintMore
set_option linter.unusedVariables false
set_option linter.unusedSimpArgs false
/-- a whole journey's fare -/
def wholeF (t : Tariff) (j : Journey) : Int × Int :=
  match stFind t.st j.frm, stFind t.st j.dst with
  | some a, some b => singleF t a.zone b.zone (peakF t.pk j.start)
  | _, _ => (0, 1)
def priceF (t : Tariff) (j : Journey) : Int × Int :=
  if j.kind < 1 ∨ 4 < j.kind then (0, 1)
  else if timeB j.start = false ∨ timeB j.stop = false ∨ j.stop < j.start then (0, 60)
  else if j.free = true ∧ j.kind ≠ 4 then (0, 1)
  else if j.free = true then (0, 0)
  else if j.kind = 4 then (t.bus, 0)
  else if j.kind ≠ 1 then (t.most, 0)
  else wholeF t j
def ofF (t : Tariff) (j : Journey) : Int × Int := if rightF t = 0 then priceF t j else (0, rightF t)
theorem fprice_ev (t : Tariff) (h : Tariff.fits t) (j : Journey) : Ev (fun k => fare_price.f k ((t).st.map ofSt) ((t).sp.map ofSp) ((t).pk.map ofBd) (t).off (t).bus (t).busDaily (t).busWeekly (t).hopper (t).most (t).longest (t).change (t).passback (t).delay (t).threshold (j).kind (j).frm (j).dst (j).start (j).stop (j).free) (priceF t j) := by
  have j3 : ∀ (x : Bool) (a b : Station), Ev (fun k => fare_price.j3 k x ((t).st.map ofSt) ((t).sp.map ofSp) ((t).pk.map ofBd) (t).off (t).bus (t).busDaily (t).busWeekly (t).hopper (t).most (t).longest (t).change (t).passback (t).delay (t).threshold (j).kind (j).frm (j).dst (j).start (j).stop (j).free a.id a.zone a.grp b.id b.zone b.grp) (if x then (0, 1) else singleF t a.zone b.zone (peakF t.pk j.start)) := by
    intro x a b
    refine Ev.step (f := fun _ => some _) (fun k => ?_) (Ev.now _)
    simp only [fare_price.j3, cpeak_f h.2.2.1, single_f h, Option.bind_some]
    cases x <;> rfl
  have j3f : ∀ (a b : Int × Int × Int), Ev (fun k => fare_price.j3 k true ((t).st.map ofSt) ((t).sp.map ofSp) ((t).pk.map ofBd) (t).off (t).bus (t).busDaily (t).busWeekly (t).hopper (t).most (t).longest (t).change (t).passback (t).delay (t).threshold (j).kind (j).frm (j).dst (j).start (j).stop (j).free a.1 a.2.1 a.2.2 b.1 b.2.1 b.2.2) (0, 1) := by
    intro a b
    refine Ev.step (f := fun _ => some _) (fun k => ?_) (Ev.now _)
    simp only [fare_price.j3]
    rfl
  have j2 : ∀ (x : Bool), 1 ≤ j.kind → j.kind ≤ 4 → Ev (fun k => fare_price.j2 k (j.kind == 4) x ((t).st.map ofSt) ((t).sp.map ofSp) ((t).pk.map ofBd) (t).off (t).bus (t).busDaily (t).busWeekly (t).hopper (t).most (t).longest (t).change (t).passback (t).delay (t).threshold (j).kind (j).frm (j).dst (j).start (j).stop (j).free) (if x then (0, 1) else if j.free = true then (0, 0) else if j.kind = 4 then (t.bus, 0) else if j.kind ≠ 1 then (t.most, 0) else wholeF t j) := by
    intro x h1 h4
    cases x with
    | true => exact Ev.step (f := fun _ => some _) (fun k => by simp only [fare_price.j2]; rfl) (Ev.now _)
    | false =>
      by_cases hf : j.free = true
      · exact Ev.step (f := fun _ => some _) (fun k => by simp only [fare_price.j2, hf]; rfl) (Ev.now _)
      · by_cases hk : j.kind = 4
        · refine Ev.step (f := fun _ => some _) (fun k => ?_) (Ev.now _)
          simp only [fare_price.j2, hf, hk]; rfl
        · by_cases h1k : j.kind = 1
          · have hk4 : (j.kind == 4) = false := by simpa using hk
            have e : (if (false : Bool) = true then ((0, 1) : Int × Int) else if j.free = true then (0, 0) else if j.kind = 4 then (t.bus, 0) else if j.kind ≠ 1 then (t.most, 0) else wholeF t j) = wholeF t j := by simp [hf, hk, h1k]
            rw [e]
            cases ha : stFind t.st j.frm with
            | none =>
              refine Ev.step (f := fun k => fare_price.j3 k true ((t).st.map ofSt) ((t).sp.map ofSp) ((t).pk.map ofBd) (t).off (t).bus (t).busDaily (t).busWeekly (t).hopper (t).most (t).longest (t).change (t).passback (t).delay (t).threshold (j).kind (j).frm (j).dst (j).start (j).stop (j).free 0 0 0 (stOut (stFind t.st j.dst)).1 (stOut (stFind t.st j.dst)).2.1 (stOut (stFind t.st j.dst)).2.2.1) (fun k => ?_) ?_
              · simp only [fare_price.j2, hf, hk4, h1k, station_f h, ha, Option.bind_some, if_true, if_false, Bool.false_eq_true]
                cases hb : stFind t.st j.dst <;> rfl
              · have e : wholeF t j = (0, 1) := by simp [wholeF, ha]
                rw [e]
                exact j3f (0, 0, 0) ((stOut (stFind t.st j.dst)).1, (stOut (stFind t.st j.dst)).2.1, (stOut (stFind t.st j.dst)).2.2.1)
            | some a =>
              cases hb : stFind t.st j.dst with
              | none =>
                refine Ev.step (f := fun k => fare_price.j3 k true ((t).st.map ofSt) ((t).sp.map ofSp) ((t).pk.map ofBd) (t).off (t).bus (t).busDaily (t).busWeekly (t).hopper (t).most (t).longest (t).change (t).passback (t).delay (t).threshold (j).kind (j).frm (j).dst (j).start (j).stop (j).free a.id a.zone a.grp 0 0 0) (fun k => ?_) ?_
                · simp only [fare_price.j2, hf, hk4, h1k, station_f h, ha, hb, Option.bind_some, if_true, if_false, Bool.false_eq_true]
                  rfl
                · have e : wholeF t j = (0, 1) := by simp [wholeF, ha, hb]
                  rw [e]
                  exact j3f (a.id, a.zone, a.grp) (0, 0, 0)
              | some b =>
                refine Ev.step (f := fun k => fare_price.j3 k false ((t).st.map ofSt) ((t).sp.map ofSp) ((t).pk.map ofBd) (t).off (t).bus (t).busDaily (t).busWeekly (t).hopper (t).most (t).longest (t).change (t).passback (t).delay (t).threshold (j).kind (j).frm (j).dst (j).start (j).stop (j).free a.id a.zone a.grp b.id b.zone b.grp) (fun k => ?_) ?_
                · simp only [fare_price.j2, hf, hk4, h1k, station_f h, ha, hb, Option.bind_some, if_true, if_false, Bool.false_eq_true]
                  rfl
                · have e : wholeF t j = singleF t a.zone b.zone (peakF t.pk j.start) := by simp [wholeF, ha, hb]
                  rw [e]
                  exact j3 false a b
          · have hk4 : (j.kind == 4) = false := by simpa using hk
            refine Ev.step (f := fun _ => some (t.most, 0)) (fun k => ?_) (by simp [hf, hk, h1k]; exact Ev.now _)
            simp only [fare_price.j2, hf, hk4, if_false, Bool.false_eq_true]
            rw [if_neg h1k]
  have j1 : ∀ (x : Bool), 1 ≤ j.kind → j.kind ≤ 4 → Ev (fun k => fare_price.j1 k (j.kind == 4) x ((t).st.map ofSt) ((t).sp.map ofSp) ((t).pk.map ofBd) (t).off (t).bus (t).busDaily (t).busWeekly (t).hopper (t).most (t).longest (t).change (t).passback (t).delay (t).threshold (j).kind (j).frm (j).dst (j).start (j).stop (j).free) (if x then (0, 60) else if j.free = true ∧ j.kind ≠ 4 then (0, 1) else if j.free = true then (0, 0) else if j.kind = 4 then (t.bus, 0) else if j.kind ≠ 1 then (t.most, 0) else wholeF t j) := by
    intro x h1 h4
    cases x with
    | true => exact Ev.step (f := fun _ => some _) (fun k => by simp only [fare_price.j1]; rfl) (Ev.now _)
    | false =>
      cases hf : j.free with
      | true =>
        refine Ev.step (f := fun k => fare_price.j2 k (j.kind == 4) (!(j.kind == 4)) ((t).st.map ofSt) ((t).sp.map ofSp) ((t).pk.map ofBd) (t).off (t).bus (t).busDaily (t).busWeekly (t).hopper (t).most (t).longest (t).change (t).passback (t).delay (t).threshold (j).kind (j).frm (j).dst (j).start (j).stop (j).free) (fun k => ?_) ?_
        · simp only [fare_price.j1, hf]; rfl
        · have := j2 (!(j.kind == 4)) h1 h4
          by_cases hk : j.kind = 4
          · simpa [hf, hk] using this
          · have hk4 : (j.kind == 4) = false := by simpa using hk
            simpa [hf, hk, hk4] using this
      | false =>
        refine Ev.step (f := fun k => fare_price.j2 k (j.kind == 4) false ((t).st.map ofSt) ((t).sp.map ofSp) ((t).pk.map ofBd) (t).off (t).bus (t).busDaily (t).busWeekly (t).hopper (t).most (t).longest (t).change (t).passback (t).delay (t).threshold (j).kind (j).frm (j).dst (j).start (j).stop (j).free) (fun k => ?_) ?_
        · simp only [fare_price.j1, hf]; rfl
        · simpa [hf] using j2 false h1 h4
  have j0 : Ev (fun k => fare_price.j0 k (j.kind == 4) (decide (j.kind < 1 ∨ 4 < j.kind)) ((t).st.map ofSt) ((t).sp.map ofSp) ((t).pk.map ofBd) (t).off (t).bus (t).busDaily (t).busWeekly (t).hopper (t).most (t).longest (t).change (t).passback (t).delay (t).threshold (j).kind (j).frm (j).dst (j).start (j).stop (j).free) (priceF t j) := by
    unfold priceF
    by_cases hk : j.kind < 1 ∨ 4 < j.kind
    · rw [if_pos hk, decide_eq_true hk]
      exact Ev.step (f := fun _ => some _) (fun k => by simp only [fare_price.j0]; rfl) (Ev.now _)
    · rw [if_neg hk, decide_eq_false hk]
      by_cases ht : timeB j.start = true ∧ timeB j.stop = true
      · refine Ev.step (f := fun k => fare_price.j1 k (j.kind == 4) (decide (j.stop < j.start)) ((t).st.map ofSt) ((t).sp.map ofSp) ((t).pk.map ofBd) (t).off (t).bus (t).busDaily (t).busWeekly (t).hopper (t).most (t).longest (t).change (t).passback (t).delay (t).threshold (j).kind (j).frm (j).dst (j).start (j).stop (j).free) (fun k => ?_) ?_
        · simp only [fare_price.j0, cright_f, ht.1, ht.2, Option.bind_some]; rfl
        · have := j1 (decide (j.stop < j.start)) (by omega) (by omega)
          by_cases hs : j.stop < j.start
          · simpa [ht.1, ht.2, hs] using this
          · simpa [ht.1, ht.2, hs] using this
      · refine Ev.step (f := fun k => fare_price.j1 k (j.kind == 4) true ((t).st.map ofSt) ((t).sp.map ofSp) ((t).pk.map ofBd) (t).off (t).bus (t).busDaily (t).busWeekly (t).hopper (t).most (t).longest (t).change (t).passback (t).delay (t).threshold (j).kind (j).frm (j).dst (j).start (j).stop (j).free) (fun k => ?_) ?_
        · simp only [fare_price.j0, cright_f, Option.bind_some]
          cases h1 : timeB j.start <;> cases h2 : timeB j.stop <;> first | rfl | (exfalso; exact ht ⟨h1, h2⟩)
        · have := j1 true (by omega) (by omega)
          have e : timeB j.start = false ∨ timeB j.stop = false ∨ j.stop < j.start := by
            cases h1 : timeB j.start <;> cases h2 : timeB j.stop <;> first | (exfalso; exact ht ⟨h1, h2⟩) | simp
          rw [if_pos e]
          simpa using this
  refine Ev.congr (fun k => ?_) j0
  unfold fare_price.f
  by_cases hk : j.kind < 1
  · rw [if_pos hk, decide_eq_true (Or.inl hk)]
  · rw [if_neg hk]
    congr 1
    apply decide_eq_decide.2
    omega
theorem fof_ev (t : Tariff) (h : Tariff.fits t) (j : Journey) : Ev (fun k => fare_Of.f k ((t).st.map ofSt) ((t).sp.map ofSp) ((t).pk.map ofBd) (t).off (t).bus (t).busDaily (t).busWeekly (t).hopper (t).most (t).longest (t).change (t).passback (t).delay (t).threshold (j).kind (j).frm (j).dst (j).start (j).stop (j).free) (ofF t j) := by
  unfold fare_Of.f ofF
  simp only [right_f h, Option.bind_some]
  by_cases hr : rightF t = 0
  · simp only [hr, if_true]
    exact Ev.bind (fprice_ev t h j) (Ev.now _)
  · simp only [hr, if_false]
    exact Ev.now _
end Go.Proofs.Ytmeogadkbbeglaa
end
section
namespace Go.Proofs.Ytmeogadkbbeglaa
open Go.RowKit Go.Proofs.YtmeogadkbbeglaaQ
set_option maxHeartbeats 1600000
set_option maxRecDepth 100000
/-- the lists' lengths are within their capacities -/
structure TMem.Caps (m : TMem) (t : Tariff) : Prop where
  k1 : t.st.length ≤ m.c1
  k2 : t.sp.length ≤ m.c2
  k3 : t.pk.length ≤ m.c3
theorem fareof_calls (t : Tariff) (m : TMem) (j : Journey) (w : World) (h : t.At w m) (hc : m.Caps t) :
    Calls Try.prog 40 #[.agg (t.cells m), .agg #[.int .i64 j.kind, .int .i64 j.frm, .int .i64 j.dst, .int .i64 j.start, .int .i64 j.stop, .bool j.free]] w fun e w' => e = .returned (.tuple #[.int .i64 (ofF t j).1, .int .i64 (ofF t j).2]) ∧ Below w.heap.size w w' := by
  obtain ⟨k, hk⟩ := (fof_ev t (fits_at h) j).rounds
  obtain ⟨r0, r1, r2⟩ := at_C h
  have := fare_Of.calls (k := k) (c0_0 := m.c1) (c0_1 := m.c2) (c0_2 := m.c3) (w := w) (hr0_0 := r0) (hc0_0 := by simpa using hc.k1) (hr0_1 := r1) (hc0_1 := by simpa using hc.k2) (hr0_2 := r2) (hc0_2 := by simpa using hc.k3) (h := hk)
  simp only [List.length_map] at this
  exact this
theorem plain_calls2 (w : World) : Calls Try.prog 70 #[] w fun e w' => ∃ m : TMem, e = .returned (.agg (plainT.cells m)) ∧ m.Caps plainT ∧ plainT.At w' m ∧ Below w.heap.size w w' := by
  have HB := Below.refl w.heap.size w
  go_enter Try.func70, Try.ntmps70
  go_wp2_with fail
  refine bodyPost_ret (v := .agg (plainT.cells ⟨some ⟨w.heap.size + 1, 0, none⟩, 2, some ⟨w.heap.size + 1 + 1, 0, none⟩, 3, none, 0⟩)) (by simp [results, Try.results70, go_sem]; simp [plainT]) rfl ?_
  refine ⟨_, rfl, ⟨Nat.le_refl _, Nat.le_refl _, Nat.le_refl _⟩, ⟨?_, ?_, sliceAt_nil _ _ _ _, by simp [plainT]⟩, by (repeat (first | (with_reducible exact HB) | (with_reducible refine bAlloc ?_ _) | (with_reducible refine bDrewN ?_ _) | (with_reducible refine bDrew ?_) | (with_reducible refine bSet ?_ (by first | exact Nat.le_refl _ | (simp; omega) | omega) _) | (with_reducible refine bThen ?_ (by with_reducible assumption))))⟩
  · exact sliceAt_box ((Box.new' (by simp) _ _).alloc _) (fun _ => rfl) (by simp [plainT]) (fun k v hk => by simpa [plainT, Station.vals] using hk)
  · exact sliceAt_box (Box.new' (by simp) _ _) (fun _ => rfl) (by simp [plainT]) (fun k v hk => by simpa [plainT, Span.vals] using hk)
def t18 : Tariff := { plainT with pk := [⟨390, 570⟩], most := 900 }
theorem t18_a : ofF t18 ⟨1, 1, 2, 480, 500, false⟩ = (300, 0) := by decide +kernel
theorem t18_b : ofF t18 ⟨1, 1, 2, 600, 700, false⟩ = (150, 0) := by decide +kernel
theorem t18_c : ofF t18 ⟨2, 1, 1, 600, 600, false⟩ = (900, 0) := by decide +kernel
theorem t18_d : ofF t18 ⟨5, 0, 0, 0, 0, false⟩ = (0, 1) := by decide +kernel
theorem awake18_calls (w : World) : Calls Try.prog 39 #[] w fun e w' => e = .returned (.bool true) ∧ Below w.heap.size w w' := by
  have HB := Below.refl w.heap.size w
  go_enter Try.func39, Try.ntmps39
  go_wp2_with fail
  refine (plain_calls2 _).mono ?_
  rintro e w1 ⟨m, rfl, hcap, hT, hB1⟩
  have hge : w.heap.size ≤ w1.heap.size := hB1.size
  go_wp2_with fail
  have hB := bAlloc (bAlloc hB1 (.cells (t18.cells ⟨m.a1, m.c1, m.a2, m.c2, some ⟨w1.heap.size + 1, 0, none⟩, 1⟩) 27)) (.cells #[.int .i64 390, .int .i64 570] 48)
  have HX := (Box.new w1 (t18.cells ⟨m.a1, m.c1, m.a2, m.c2, some ⟨w1.heap.size + 1, 0, none⟩, 1⟩) 27).alloc (.cells #[.int .i64 390, .int .i64 570] 48)
  have HZ := Box.new' (w := w1.alloc (.cells (t18.cells ⟨m.a1, m.c1, m.a2, m.c2, some ⟨w1.heap.size + 1, 0, none⟩, 1⟩) 27)) (b := w1.heap.size + 1) (by simp) #[.int .i64 390, .int .i64 570] 48
  have hT0 := hT.keep (bAlloc (bAlloc (Below.refl w1.heap.size w1) (.cells (t18.cells ⟨m.a1, m.c1, m.a2, m.c2, some ⟨w1.heap.size + 1, 0, none⟩, 1⟩) 27)) (.cells #[.int .i64 390, .int .i64 570] 48))
  have hc : TMem.Caps ⟨m.a1, m.c1, m.a2, m.c2, some ⟨w1.heap.size + 1, 0, none⟩, 1⟩ t18 := ⟨hcap.k1, hcap.k2, Nat.le_refl _⟩
  replace hT : t18.At _ ⟨m.a1, m.c1, m.a2, m.c2, some ⟨w1.heap.size + 1, 0, none⟩, 1⟩ := ⟨hT0.st, hT0.sp, sliceAt_box HZ (fun _ => rfl) (by simp [t18]) (fun k v hk => by simpa [t18, Band.vals] using hk), hT0.off⟩
  clear hT0 HZ
  refine (fareof_calls t18 _ ⟨1, 1, 2, 480, 500, false⟩ _ hT hc).mono ?_
  rw [t18_a]
  rintro _ wq ⟨rfl, hb⟩; replace HX := HX.below' hb; replace hB := bThen hB hb; replace hT := hT.keep hb; clear hb; (try clear t0 t1 t2 t3 t4 t5 t6 t7 t8 t9 t10 t11 t12 t13 lt0); obtain ⟨t0, t1, t2, t3, t4, t5, t6, t7, t8, t9, t10, t11, t12, t13⟩ := tcells HX; have lt0 := HX.lt
  go_wp2_with fail
  refine (fareof_calls t18 _ ⟨1, 1, 2, 600, 700, false⟩ _ hT hc).mono ?_
  rw [t18_b]
  rintro _ wq ⟨rfl, hb⟩; replace HX := HX.below' hb; replace hB := bThen hB hb; replace hT := hT.keep hb; clear hb; (try clear t0 t1 t2 t3 t4 t5 t6 t7 t8 t9 t10 t11 t12 t13 lt0); obtain ⟨t0, t1, t2, t3, t4, t5, t6, t7, t8, t9, t10, t11, t12, t13⟩ := tcells HX; have lt0 := HX.lt
  go_wp2_with fail
  refine (fareof_calls t18 _ ⟨2, 1, 1, 600, 600, false⟩ _ hT hc).mono ?_
  rw [t18_c]
  rintro _ wq ⟨rfl, hb⟩; replace HX := HX.below' hb; replace hB := bThen hB hb; replace hT := hT.keep hb; clear hb; (try clear t0 t1 t2 t3 t4 t5 t6 t7 t8 t9 t10 t11 t12 t13 lt0); obtain ⟨t0, t1, t2, t3, t4, t5, t6, t7, t8, t9, t10, t11, t12, t13⟩ := tcells HX; have lt0 := HX.lt
  go_wp2_with fail
  refine (fareof_calls t18 _ ⟨5, 0, 0, 0, 0, false⟩ _ hT hc).mono ?_
  rw [t18_d]
  rintro _ wq ⟨rfl, hb⟩; replace HX := HX.below' hb; replace hB := bThen hB hb; replace hT := hT.keep hb; clear hb; (try clear t0 t1 t2 t3 t4 t5 t6 t7 t8 t9 t10 t11 t12 t13 lt0); obtain ⟨t0, t1, t2, t3, t4, t5, t6, t7, t8, t9, t10, t11, t12, t13⟩ := tcells HX; have lt0 := HX.lt
  go_wp2_with fail
  go_ret
  exact ⟨rfl, hB⟩
end Go.Proofs.Ytmeogadkbbeglaa
end
section
namespace Go.Proofs.Ytmeogadkbbeglaa
open Go.RowKit
theorem single_bad {t : Tariff} {a b : Int} {p : Bool} (h : (singleF t a b p).2 ≠ 0) : (singleF t a b p).1 = 0 := by
  unfold singleF at *
  cases hs : spFind t.sp a b with
  | none => rfl
  | some s =>
    simp only [hs] at h ⊢
    cases hp : priceB s.single with
    | false => rfl
    | true =>
      simp only [hp, Bool.true_eq_false, if_false] at h ⊢
      cases p with
      | true => simp at h
      | false =>
        simp only [Bool.false_eq_true, if_false] at h ⊢
        unfold scaleF at *
        by_cases h1 : inB 0 s.single 9007199254740992 = false
        · rw [if_pos h1]
        · rw [if_neg h1] at h ⊢
          by_cases h2 : rateOk t.off = false
          · rw [if_pos h2]
          · rw [if_neg h2] at h; exact absurd rfl h
theorem whole_bad {t : Tariff} {j : Journey} (h : (wholeF t j).2 ≠ 0) : (wholeF t j).1 = 0 := by
  unfold wholeF at *
  cases ha : stFind t.st j.frm with
  | none => rfl
  | some a =>
    cases hb : stFind t.st j.dst with
    | none => rfl
    | some b =>
      simp only [ha, hb] at h ⊢
      exact single_bad h
theorem of_bad {t : Tariff} {j : Journey} (h : (ofF t j).2 ≠ 0) : (ofF t j).1 = 0 := by
  unfold ofF at *
  by_cases hr : rightF t = 0
  · rw [if_pos hr] at h ⊢
    unfold priceF at *
    by_cases h1 : j.kind < 1 ∨ 4 < j.kind
    · rw [if_pos h1]
    · rw [if_neg h1] at h ⊢
      by_cases h2 : timeB j.start = false ∨ timeB j.stop = false ∨ j.stop < j.start
      · rw [if_pos h2]
      · rw [if_neg h2] at h ⊢
        by_cases h3 : j.free = true ∧ j.kind ≠ 4
        · rw [if_pos h3]
        · rw [if_neg h3] at h ⊢
          by_cases h4 : j.free = true
          · rw [if_pos h4]
          · rw [if_neg h4] at h ⊢
            by_cases h5 : j.kind = 4
            · rw [if_pos h5] at h; exact absurd rfl h
            · rw [if_neg h5] at h ⊢
              by_cases h6 : j.kind ≠ 1
              · rw [if_pos h6] at h; exact absurd rfl h
              · rw [if_neg h6] at h ⊢
                exact whole_bad h
  · rw [if_neg hr]
/-- a whole journey's fare, where there is one -/
def fareAt (t : Tariff) (s : Span) (p : Bool) : Int := if p then s.single else ((scaleV s.single.toNat t.off : Nat) : Int)
theorem single_at {t : Tariff} {a b : Int} {s : Span} (h : rightF t = 0) (hf : spFind t.sp a b = some s) (p : Bool) : singleF t a b p = (fareAt t s p, 0) := by
  cases p
  · exact single_off h hf
  · exact single_peak h hf
structure WholeOk (t : Tariff) (j : Journey) (a b : Station) (s : Span) : Prop where
  kind : j.kind = 1
  free : j.free = false
  sa : stFind t.st j.frm = some a
  sb : stFind t.st j.dst = some b
  sp : spFind t.sp a.zone b.zone = some s
  val : ofF t j = (fareAt t s (peakF t.pk j.start), 0)
theorem of_ok {t : Tariff} {j : Journey} (h : (ofF t j).2 = 0) : rightF t = 0 ∧
    ((∃ a b s, WholeOk t j a b s) ∨ (j.kind = 4 ∧ j.free = true ∧ ofF t j = (0, 0)) ∨ (j.kind = 4 ∧ j.free = false ∧ ofF t j = (t.bus, 0)) ∨ (j.kind ≠ 1 ∧ j.kind ≠ 4 ∧ j.free = false ∧ ofF t j = (t.most, 0))) := by
  by_cases hr : rightF t = 0
  · refine ⟨hr, ?_⟩
    have e : ofF t j = priceF t j := by unfold ofF; rw [if_pos hr]
    rw [e] at h ⊢
    unfold priceF at h ⊢
    by_cases h1 : j.kind < 1 ∨ 4 < j.kind
    · rw [if_pos h1] at h; exact absurd h (by decide)
    · rw [if_neg h1] at h ⊢
      by_cases h2 : timeB j.start = false ∨ timeB j.stop = false ∨ j.stop < j.start
      · rw [if_pos h2] at h; exact absurd h (by decide)
      · rw [if_neg h2] at h ⊢
        by_cases h3 : j.free = true ∧ j.kind ≠ 4
        · rw [if_pos h3] at h; exact absurd h (by decide)
        · rw [if_neg h3] at h ⊢
          by_cases h4 : j.free = true
          · rw [if_pos h4]
            exact .inr (.inl ⟨Decidable.byContradiction fun hk => h3 ⟨h4, hk⟩, h4, rfl⟩)
          · rw [if_neg h4] at h ⊢
            have hf : j.free = false := by simpa using h4
            by_cases h5 : j.kind = 4
            · rw [if_pos h5]; exact .inr (.inr (.inl ⟨h5, hf, rfl⟩))
            · rw [if_neg h5] at h ⊢
              by_cases h6 : j.kind ≠ 1
              · rw [if_pos h6]; exact .inr (.inr (.inr ⟨h6, h5, hf, rfl⟩))
              · rw [if_neg h6] at h
                have hk : j.kind = 1 := Decidable.byContradiction h6
                left
                have e2 : priceF t j = wholeF t j := by unfold priceF; rw [if_neg h1, if_neg h2, if_neg h3, if_neg h4, if_neg h5, if_neg h6]
                unfold wholeF at h
                cases ha : stFind t.st j.frm with
                | none => simp [ha] at h
                | some a =>
                  cases hb : stFind t.st j.dst with
                  | none => simp [ha, hb] at h
                  | some b =>
                    simp only [ha, hb] at h
                    cases hs : spFind t.sp a.zone b.zone with
                    | none => rw [single_none hs] at h; exact absurd h (by decide)
                    | some s => exact ⟨a, b, s, hk, hf, ha, hb, hs, by rw [e, e2]; unfold wholeF; simp only [ha, hb]; exact single_at hr hs _⟩
  · unfold ofF at h
    rw [if_neg hr] at h
    exact absurd h hr
theorem whole_back {t : Tariff} {j : Journey} {a b : Station} {s : Span} (hr : rightF t = 0) (h : WholeOk t j a b s) : ofF t { j with frm := j.dst, dst := j.frm } = ofF t j := by
  have e : ∀ i : Journey, ofF t i = priceF t i := fun i => by unfold ofF; rw [if_pos hr]
  have hw : wholeF t { j with frm := j.dst, dst := j.frm } = wholeF t j := by
    unfold wholeF
    simp only [h.sa, h.sb]
    exact single_comm _ _ _ _
  rw [e, e]
  unfold priceF
  simp only [hw]
theorem whole_at {t : Tariff} {j : Journey} {a b : Station} {s : Span} (time : Int) (h : WholeOk t j a b s) (h2 : (ofF t { j with start := time, stop := time }).2 = 0) :
    (ofF t { j with start := time, stop := time }).1 = fareAt t s (peakF t.pk time) := by
  obtain ⟨-, ⟨a', b', s', k⟩ | ⟨k, -⟩ | ⟨k, -⟩ | ⟨k, -⟩⟩ := of_ok h2
  · have ea := k.sa.symm.trans h.sa
    have eb := k.sb.symm.trans h.sb
    cases ea; cases eb
    have es := k.sp.symm.trans h.sp
    cases es
    rw [k.val]
  all_goals
    have := h.kind
    simp only at k
    omega
theorem fare_range {t : Tariff} {a b : Int} {s : Span} (h : rightF t = 0) (hf : spFind t.sp a b = some s) (p : Bool) : 0 ≤ fareAt t s p ∧ fareAt t s p ≤ 1048576 := by
  have h1 : 0 ≤ s.single ∧ s.single ≤ 1048576 := by simpa [priceB, inB] using (ok_price h (find_mem hf).1).1
  have := off_le h hf
  unfold fareAt
  split <;> omega
theorem ok_prices {t : Tariff} (h : rightF t = 0) : (0 ≤ t.bus ∧ t.bus ≤ 1048576) ∧ (0 ≤ t.busDaily ∧ t.busDaily ≤ 1048576) ∧ (0 ≤ t.busWeekly ∧ t.busWeekly ≤ 1048576) ∧ (0 ≤ t.most ∧ t.most ≤ 1048576) := by
  have := (right_ok h).1.1.1.1.1.1.2
  simp [pricesB, priceB, inB] at this
  omega
end Go.Proofs.Ytmeogadkbbeglaa
end
section
namespace Go.Proofs.Ytmeogadkbbeglaa
open Go.RowKit Go.Proofs.YtmeogadkbbeglaaQ
set_option maxHeartbeats 1600000
set_option maxRecDepth 100000
theorem back_short (tr : Tariff) (m : TMem) (j : Journey) (time : Int) (w : World) (hT : tr.At w m) (hc : m.Caps tr) (hs : (ofF tr j).2 ≠ 0 ∨ j.kind ≠ 1) :
    Calls Try.prog 8 #[.agg (tr.cells m), .agg #[.int .i64 (j).kind, .int .i64 (j).frm, .int .i64 (j).dst, .int .i64 (j).start, .int .i64 (j).stop, .bool (j).free], .int .i64 time] w fun e w' => e = .returned (.bool true) ∧ Below w.heap.size w w' := by
  have C0 := fun W h => fareof_calls tr m j W h hc
  have hbad := of_bad (t := tr) (j := j)
  have hok := of_ok (t := tr) (j := j)
  have hpr : rightF tr = 0 → _ := ok_prices
  generalize ofF tr j = x at *
  obtain ⟨n, e⟩ := x
  obtain ⟨jk, jf, jd, js, je, jb⟩ := j
  simp only at C0 hs hbad hok
  by_cases he : e = 0
  · subst he
    have hk : jk ≠ 1 := by rcases hs with h | h; exact absurd rfl h; exact h
    obtain ⟨hr, ⟨a, b, s, k⟩ | ⟨k1, k2, k3⟩ | ⟨k1, k2, k3⟩ | ⟨k0, k1, k2, k3⟩⟩ := hok rfl
    · exact absurd k.kind hk
    · have hp := hpr hr
      skip
      subst k1 k2
      simp only [Prod.mk.injEq, and_true] at k3
      subst k3
      have HX := (Box.new w (tr.cells m) 27).alloc (.cells #[.int .i64 4, .int .i64 jf, .int .i64 jd, .int .i64 js, .int .i64 je, .bool true] 50)
      have HJ := Box.new' (w := w.alloc (.cells (tr.cells m) 27)) (b := w.heap.size + 1) (by simp) #[.int .i64 4, .int .i64 jf, .int .i64 jd, .int .i64 js, .int .i64 je, .bool true] 50
      have hB := bAlloc (bAlloc (Below.refl w.heap.size w) (.cells (tr.cells m) 27)) (.cells #[.int .i64 4, .int .i64 jf, .int .i64 jd, .int .i64 js, .int .i64 je, .bool true] 50)
      replace hT := hT.keep hB
      go_enter Try.func8, Try.ntmps8
      go_wp2_with fail
      refine (awake18_calls _).mono ?_
      rintro _ wq ⟨rfl, hb⟩; replace HX := HX.below' hb; replace hB := bThen hB hb; replace hT := hT.keep hb; (try clear t0 t1 t2 t3 t4 t5 t6 t7 t8 t9 t10 t11 t12 t13 lt0); obtain ⟨t0, t1, t2, t3, t4, t5, t6, t7, t8, t9, t10, t11, t12, t13⟩ := tcells HX; have lt0 := HX.lt
      replace HJ := HJ.below' hb
      clear hb
      have HJa := (HJ).cell 0; have HJb := (HJ).cell 1; have HJc := (HJ).cell 2; have HJd := (HJ).cell 3; have HJe := (HJ).cell 4; have HJf := (HJ).cell 5; have HJl := (HJ).lt; simp at HJa HJb HJc HJd HJe HJf
      go_wp2_with fail
      refine (C0 _ hT).mono ?_
      rintro _ wq ⟨rfl, hb⟩; replace HX := HX.below' hb; replace hB := bThen hB hb; replace hT := hT.keep hb; (try clear t0 t1 t2 t3 t4 t5 t6 t7 t8 t9 t10 t11 t12 t13 lt0); obtain ⟨t0, t1, t2, t3, t4, t5, t6, t7, t8, t9, t10, t11, t12, t13⟩ := tcells HX; have lt0 := HX.lt
      replace HJ := HJ.below' hb
      clear hb
      have HJa := (HJ).cell 0; have HJb := (HJ).cell 1; have HJc := (HJ).cell 2; have HJd := (HJ).cell 3; have HJe := (HJ).cell 4; have HJf := (HJ).cell 5; have HJl := (HJ).lt; simp at HJa HJb HJc HJd HJe HJf
      go_wp2_with fail
      all_goals go_ret
      all_goals first
        | exact ⟨rfl, hB⟩
        | (exfalso; omega)
        | exact ⟨ret_bool (by simp_all), hB⟩
    · have hp := hpr hr
      skip
      subst k1 k2
      simp only [Prod.mk.injEq, and_true] at k3
      subst k3
      have HX := (Box.new w (tr.cells m) 27).alloc (.cells #[.int .i64 4, .int .i64 jf, .int .i64 jd, .int .i64 js, .int .i64 je, .bool false] 50)
      have HJ := Box.new' (w := w.alloc (.cells (tr.cells m) 27)) (b := w.heap.size + 1) (by simp) #[.int .i64 4, .int .i64 jf, .int .i64 jd, .int .i64 js, .int .i64 je, .bool false] 50
      have hB := bAlloc (bAlloc (Below.refl w.heap.size w) (.cells (tr.cells m) 27)) (.cells #[.int .i64 4, .int .i64 jf, .int .i64 jd, .int .i64 js, .int .i64 je, .bool false] 50)
      replace hT := hT.keep hB
      go_enter Try.func8, Try.ntmps8
      go_wp2_with fail
      refine (awake18_calls _).mono ?_
      rintro _ wq ⟨rfl, hb⟩; replace HX := HX.below' hb; replace hB := bThen hB hb; replace hT := hT.keep hb; (try clear t0 t1 t2 t3 t4 t5 t6 t7 t8 t9 t10 t11 t12 t13 lt0); obtain ⟨t0, t1, t2, t3, t4, t5, t6, t7, t8, t9, t10, t11, t12, t13⟩ := tcells HX; have lt0 := HX.lt
      replace HJ := HJ.below' hb
      clear hb
      have HJa := (HJ).cell 0; have HJb := (HJ).cell 1; have HJc := (HJ).cell 2; have HJd := (HJ).cell 3; have HJe := (HJ).cell 4; have HJf := (HJ).cell 5; have HJl := (HJ).lt; simp at HJa HJb HJc HJd HJe HJf
      go_wp2_with fail
      refine (C0 _ hT).mono ?_
      rintro _ wq ⟨rfl, hb⟩; replace HX := HX.below' hb; replace hB := bThen hB hb; replace hT := hT.keep hb; (try clear t0 t1 t2 t3 t4 t5 t6 t7 t8 t9 t10 t11 t12 t13 lt0); obtain ⟨t0, t1, t2, t3, t4, t5, t6, t7, t8, t9, t10, t11, t12, t13⟩ := tcells HX; have lt0 := HX.lt
      replace HJ := HJ.below' hb
      clear hb
      have HJa := (HJ).cell 0; have HJb := (HJ).cell 1; have HJc := (HJ).cell 2; have HJd := (HJ).cell 3; have HJe := (HJ).cell 4; have HJf := (HJ).cell 5; have HJl := (HJ).lt; simp at HJa HJb HJc HJd HJe HJf
      go_wp2_with fail
      all_goals go_ret
      all_goals first
        | exact ⟨rfl, hB⟩
        | (exfalso; omega)
        | exact ⟨ret_bool (by simp_all), hB⟩
    · have hp := hpr hr
      skip
      subst k2
      simp only [Prod.mk.injEq, and_true] at k3
      subst k3
      have HX := (Box.new w (tr.cells m) 27).alloc (.cells #[.int .i64 jk, .int .i64 jf, .int .i64 jd, .int .i64 js, .int .i64 je, .bool false] 50)
      have HJ := Box.new' (w := w.alloc (.cells (tr.cells m) 27)) (b := w.heap.size + 1) (by simp) #[.int .i64 jk, .int .i64 jf, .int .i64 jd, .int .i64 js, .int .i64 je, .bool false] 50
      have hB := bAlloc (bAlloc (Below.refl w.heap.size w) (.cells (tr.cells m) 27)) (.cells #[.int .i64 jk, .int .i64 jf, .int .i64 jd, .int .i64 js, .int .i64 je, .bool false] 50)
      replace hT := hT.keep hB
      go_enter Try.func8, Try.ntmps8
      go_wp2_with fail
      refine (awake18_calls _).mono ?_
      rintro _ wq ⟨rfl, hb⟩; replace HX := HX.below' hb; replace hB := bThen hB hb; replace hT := hT.keep hb; (try clear t0 t1 t2 t3 t4 t5 t6 t7 t8 t9 t10 t11 t12 t13 lt0); obtain ⟨t0, t1, t2, t3, t4, t5, t6, t7, t8, t9, t10, t11, t12, t13⟩ := tcells HX; have lt0 := HX.lt
      replace HJ := HJ.below' hb
      clear hb
      have HJa := (HJ).cell 0; have HJb := (HJ).cell 1; have HJc := (HJ).cell 2; have HJd := (HJ).cell 3; have HJe := (HJ).cell 4; have HJf := (HJ).cell 5; have HJl := (HJ).lt; simp at HJa HJb HJc HJd HJe HJf
      go_wp2_with fail
      refine (C0 _ hT).mono ?_
      rintro _ wq ⟨rfl, hb⟩; replace HX := HX.below' hb; replace hB := bThen hB hb; replace hT := hT.keep hb; (try clear t0 t1 t2 t3 t4 t5 t6 t7 t8 t9 t10 t11 t12 t13 lt0); obtain ⟨t0, t1, t2, t3, t4, t5, t6, t7, t8, t9, t10, t11, t12, t13⟩ := tcells HX; have lt0 := HX.lt
      replace HJ := HJ.below' hb
      clear hb
      have HJa := (HJ).cell 0; have HJb := (HJ).cell 1; have HJc := (HJ).cell 2; have HJd := (HJ).cell 3; have HJe := (HJ).cell 4; have HJf := (HJ).cell 5; have HJl := (HJ).lt; simp at HJa HJb HJc HJd HJe HJf
      go_wp2_with fail
      all_goals go_ret
      all_goals first
        | exact ⟨rfl, hB⟩
        | (exfalso; omega)
        | exact ⟨ret_bool (by simp_all), hB⟩
  · have := hbad he
    subst this
    have HX := (Box.new w (tr.cells m) 27).alloc (.cells #[.int .i64 jk, .int .i64 jf, .int .i64 jd, .int .i64 js, .int .i64 je, .bool jb] 50)
    have HJ := Box.new' (w := w.alloc (.cells (tr.cells m) 27)) (b := w.heap.size + 1) (by simp) #[.int .i64 jk, .int .i64 jf, .int .i64 jd, .int .i64 js, .int .i64 je, .bool jb] 50
    have hB := bAlloc (bAlloc (Below.refl w.heap.size w) (.cells (tr.cells m) 27)) (.cells #[.int .i64 jk, .int .i64 jf, .int .i64 jd, .int .i64 js, .int .i64 je, .bool jb] 50)
    replace hT := hT.keep hB
    go_enter Try.func8, Try.ntmps8
    go_wp2_with fail
    refine (awake18_calls _).mono ?_
    rintro _ wq ⟨rfl, hb⟩; replace HX := HX.below' hb; replace hB := bThen hB hb; replace hT := hT.keep hb; (try clear t0 t1 t2 t3 t4 t5 t6 t7 t8 t9 t10 t11 t12 t13 lt0); obtain ⟨t0, t1, t2, t3, t4, t5, t6, t7, t8, t9, t10, t11, t12, t13⟩ := tcells HX; have lt0 := HX.lt
    replace HJ := HJ.below' hb
    clear hb
    have HJa := (HJ).cell 0; have HJb := (HJ).cell 1; have HJc := (HJ).cell 2; have HJd := (HJ).cell 3; have HJe := (HJ).cell 4; have HJf := (HJ).cell 5; have HJl := (HJ).lt; simp at HJa HJb HJc HJd HJe HJf
    go_wp2_with fail
    refine (C0 _ hT).mono ?_
    rintro _ wq ⟨rfl, hb⟩; replace HX := HX.below' hb; replace hB := bThen hB hb; replace hT := hT.keep hb; (try clear t0 t1 t2 t3 t4 t5 t6 t7 t8 t9 t10 t11 t12 t13 lt0); obtain ⟨t0, t1, t2, t3, t4, t5, t6, t7, t8, t9, t10, t11, t12, t13⟩ := tcells HX; have lt0 := HX.lt
    go_wp2_with fail
    go_ret
    exact ⟨rfl, hB⟩
theorem back_whole (tr : Tariff) (m : TMem) (j : Journey) (time : Int) (w : World) (hT : tr.At w m) (hc : m.Caps tr) (hr : rightF tr = 0) (a b : Station) (s : Span) (k : WholeOk tr j a b s) :
    Calls Try.prog 8 #[.agg (tr.cells m), .agg #[.int .i64 (j).kind, .int .i64 (j).frm, .int .i64 (j).dst, .int .i64 (j).start, .int .i64 (j).stop, .bool (j).free], .int .i64 time] w fun e w' => e = .returned (.bool true) ∧ Below w.heap.size w w' := by
  have hkind := k.kind
  have C0 := fun W h => fareof_calls tr m j W h hc
  have C1 := fun W h => fareof_calls tr m { j with frm := j.dst, dst := j.frm } W h hc
  have C2 := fun W h => fareof_calls tr m { j with start := time, stop := time } W h hc
  have hat := whole_at (t := tr) (j := j) (a := a) (b := b) (s := s) time k
  rw [whole_back hr k] at C1
  rw [k.val] at C0 C1
  have S1 := fun W h => station_some tr m j.frm a W h k.sa
  have S2 := fun W h => station_some tr m j.dst b W h k.sb
  have G1 := fun W h => single_calls tr m a.zone b.zone true W h
  have G2 := fun W h => single_calls tr m a.zone b.zone false W h
  rw [single_at hr k.sp] at G1 G2
  have hn : fareAt tr s (peakF tr.pk j.start) = fareAt tr s true ∨ fareAt tr s (peakF tr.pk j.start) = fareAt tr s false := by cases peakF tr.pk j.start <;> simp
  have ho : fareAt tr s (peakF tr.pk time) = fareAt tr s true ∨ fareAt tr s (peakF tr.pk time) = fareAt tr s false := by cases peakF tr.pk time <;> simp
  have hrange := fare_range hr k.sp (peakF tr.pk j.start)
  generalize ofF tr { j with start := time, stop := time } = y at *
  generalize fareAt tr s (peakF tr.pk j.start) = n at *
  generalize fareAt tr s (peakF tr.pk time) = o at *
  generalize fareAt tr s true = hi at *
  generalize fareAt tr s false = lo at *
  clear k hr
  obtain ⟨jk, jf, jd, js, je, jb⟩ := j
  obtain ⟨y1, y2⟩ := y
  obtain ⟨a1, a2, a3⟩ := a
  obtain ⟨b1, b2, b3⟩ := b
  simp only at hkind C0 C1 C2 S1 S2 G1 G2 hat
  subst hkind
  have HX := (Box.new w (tr.cells m) 27).alloc (.cells #[.int .i64 1, .int .i64 jf, .int .i64 jd, .int .i64 js, .int .i64 je, .bool jb] 50)
  have HJ := Box.new' (w := w.alloc (.cells (tr.cells m) 27)) (b := w.heap.size + 1) (by simp) #[.int .i64 1, .int .i64 jf, .int .i64 jd, .int .i64 js, .int .i64 je, .bool jb] 50
  have hB := bAlloc (bAlloc (Below.refl w.heap.size w) (.cells (tr.cells m) 27)) (.cells #[.int .i64 1, .int .i64 jf, .int .i64 jd, .int .i64 js, .int .i64 je, .bool jb] 50)
  replace hT := hT.keep hB
  have hn := Lib.hid hn
  have ho := Lib.hid ho
  have hat := Lib.hid hat
  go_enter Try.func8, Try.ntmps8
  go_wp2_with fail
  refine (awake18_calls _).mono ?_
  rintro _ wq ⟨rfl, hb⟩; replace HX := HX.below' hb; replace hB := bThen hB hb; replace hT := hT.keep hb; (try clear t0 t1 t2 t3 t4 t5 t6 t7 t8 t9 t10 t11 t12 t13 lt0); obtain ⟨t0, t1, t2, t3, t4, t5, t6, t7, t8, t9, t10, t11, t12, t13⟩ := tcells HX; have lt0 := HX.lt
  replace HJ := HJ.below' hb
  clear hb
  have HJa := (HJ).cell 0; have HJb := (HJ).cell 1; have HJc := (HJ).cell 2; have HJd := (HJ).cell 3; have HJe := (HJ).cell 4; have HJf := (HJ).cell 5; have HJl := (HJ).lt; simp at HJa HJb HJc HJd HJe HJf
  go_wp2_with fail
  refine (C0 _ hT).mono ?_
  rintro _ wq ⟨rfl, hb⟩; replace HX := HX.below' hb; replace hB := bThen hB hb; replace hT := hT.keep hb; (try clear t0 t1 t2 t3 t4 t5 t6 t7 t8 t9 t10 t11 t12 t13 lt0); obtain ⟨t0, t1, t2, t3, t4, t5, t6, t7, t8, t9, t10, t11, t12, t13⟩ := tcells HX; have lt0 := HX.lt
  replace HJ := HJ.below' hb
  clear hb
  have HJa := (HJ).cell 0; have HJb := (HJ).cell 1; have HJc := (HJ).cell 2; have HJd := (HJ).cell 3; have HJe := (HJ).cell 4; have HJf := (HJ).cell 5; have HJl := (HJ).lt; simp at HJa HJb HJc HJd HJe HJf
  go_wp2_with fail
  have HBX0 := Box.new wq #[.int .i64 1, .int .i64 jd, .int .i64 jf, .int .i64 js, .int .i64 je, .bool jb] 50; have hz := bAlloc (Below.refl wq.heap.size wq) (.cells #[.int .i64 1, .int .i64 jd, .int .i64 jf, .int .i64 js, .int .i64 je, .bool jb] 50); replace HX := HX.below' hz; replace hB := bThen hB hz; replace hT := hT.keep hz; (try clear t0 t1 t2 t3 t4 t5 t6 t7 t8 t9 t10 t11 t12 t13 lt0); obtain ⟨t0, t1, t2, t3, t4, t5, t6, t7, t8, t9, t10, t11, t12, t13⟩ := tcells HX; have lt0 := HX.lt
  replace HJ := HJ.below' hz
  clear HBX0 hz
  refine (C1 _ hT).mono ?_
  rintro _ wq ⟨rfl, hb⟩; replace HX := HX.below' hb; replace hB := bThen hB hb; replace hT := hT.keep hb; (try clear t0 t1 t2 t3 t4 t5 t6 t7 t8 t9 t10 t11 t12 t13 lt0); obtain ⟨t0, t1, t2, t3, t4, t5, t6, t7, t8, t9, t10, t11, t12, t13⟩ := tcells HX; have lt0 := HX.lt
  replace HJ := HJ.below' hb
  clear hb
  have HJa := (HJ).cell 0; have HJb := (HJ).cell 1; have HJc := (HJ).cell 2; have HJd := (HJ).cell 3; have HJe := (HJ).cell 4; have HJf := (HJ).cell 5; have HJl := (HJ).lt; simp at HJa HJb HJc HJd HJe HJf
  go_wp2_with fail
  have HBX0 := Box.new wq #[.int .i64 1, .int .i64 jf, .int .i64 jd, .int .i64 time, .int .i64 time, .bool jb] 50; have hz := bAlloc (Below.refl wq.heap.size wq) (.cells #[.int .i64 1, .int .i64 jf, .int .i64 jd, .int .i64 time, .int .i64 time, .bool jb] 50); replace HX := HX.below' hz; replace hB := bThen hB hz; replace hT := hT.keep hz; (try clear t0 t1 t2 t3 t4 t5 t6 t7 t8 t9 t10 t11 t12 t13 lt0); obtain ⟨t0, t1, t2, t3, t4, t5, t6, t7, t8, t9, t10, t11, t12, t13⟩ := tcells HX; have lt0 := HX.lt
  replace HJ := HJ.below' hz
  clear HBX0 hz
  refine (C2 _ hT).mono ?_
  rintro _ wq ⟨rfl, hb⟩; replace HX := HX.below' hb; replace hB := bThen hB hb; replace hT := hT.keep hb; (try clear t0 t1 t2 t3 t4 t5 t6 t7 t8 t9 t10 t11 t12 t13 lt0); obtain ⟨t0, t1, t2, t3, t4, t5, t6, t7, t8, t9, t10, t11, t12, t13⟩ := tcells HX; have lt0 := HX.lt
  replace HJ := HJ.below' hb
  clear hb
  have HJa := (HJ).cell 0; have HJb := (HJ).cell 1; have HJc := (HJ).cell 2; have HJd := (HJ).cell 3; have HJe := (HJ).cell 4; have HJf := (HJ).cell 5; have HJl := (HJ).lt; simp at HJa HJb HJc HJd HJe HJf
  go_wp2_with fail
  refine (S1 _ hT).mono ?_
  rintro _ wq ⟨rfl, hb⟩; replace HX := HX.below' hb; replace hB := bThen hB hb; replace hT := hT.keep hb; (try clear t0 t1 t2 t3 t4 t5 t6 t7 t8 t9 t10 t11 t12 t13 lt0); obtain ⟨t0, t1, t2, t3, t4, t5, t6, t7, t8, t9, t10, t11, t12, t13⟩ := tcells HX; have lt0 := HX.lt
  replace HJ := HJ.below' hb
  clear hb
  have HJa := (HJ).cell 0; have HJb := (HJ).cell 1; have HJc := (HJ).cell 2; have HJd := (HJ).cell 3; have HJe := (HJ).cell 4; have HJf := (HJ).cell 5; have HJl := (HJ).lt; simp at HJa HJb HJc HJd HJe HJf
  go_wp2_with fail
  have HBX0 := Box.new wq #[.int .i64 a1, .int .i64 a2, .int .i64 a3] 35; have hz := bAlloc (Below.refl wq.heap.size wq) (.cells #[.int .i64 a1, .int .i64 a2, .int .i64 a3] 35); replace HX := HX.below' hz; replace hB := bThen hB hz; replace hT := hT.keep hz; (try clear t0 t1 t2 t3 t4 t5 t6 t7 t8 t9 t10 t11 t12 t13 lt0); obtain ⟨t0, t1, t2, t3, t4, t5, t6, t7, t8, t9, t10, t11, t12, t13⟩ := tcells HX; have lt0 := HX.lt
  replace HJ := HJ.below' hz
  have HF := HBX0
  clear HBX0 hz
  refine (S2 _ hT).mono ?_
  rintro _ wq ⟨rfl, hb⟩; replace HX := HX.below' hb; replace hB := bThen hB hb; replace hT := hT.keep hb; (try clear t0 t1 t2 t3 t4 t5 t6 t7 t8 t9 t10 t11 t12 t13 lt0); obtain ⟨t0, t1, t2, t3, t4, t5, t6, t7, t8, t9, t10, t11, t12, t13⟩ := tcells HX; have lt0 := HX.lt
  replace HJ := HJ.below' hb
  replace HF := HF.below' hb
  clear hb
  have HJa := (HJ).cell 0; have HJb := (HJ).cell 1; have HJc := (HJ).cell 2; have HJd := (HJ).cell 3; have HJe := (HJ).cell 4; have HJf := (HJ).cell 5; have HJl := (HJ).lt; simp at HJa HJb HJc HJd HJe HJf
  have HFa := (HF).cell 0; have HFb := (HF).cell 1; have HFc := (HF).cell 2; have HFl := (HF).lt; simp at HFa HFb HFc
  go_wp2_with fail
  have HBX0 := Box.new wq #[.int .i64 b1, .int .i64 b2, .int .i64 b3] 35; have hz := bAlloc (Below.refl wq.heap.size wq) (.cells #[.int .i64 b1, .int .i64 b2, .int .i64 b3] 35); replace HX := HX.below' hz; replace hB := bThen hB hz; replace hT := hT.keep hz; (try clear t0 t1 t2 t3 t4 t5 t6 t7 t8 t9 t10 t11 t12 t13 lt0); obtain ⟨t0, t1, t2, t3, t4, t5, t6, t7, t8, t9, t10, t11, t12, t13⟩ := tcells HX; have lt0 := HX.lt
  replace HJ := HJ.below' hz
  replace HF := HF.below' hz
  have HG := HBX0
  clear HBX0 hz
  refine (G1 _ hT).mono ?_
  rintro _ wq ⟨rfl, hb⟩; replace HX := HX.below' hb; replace hB := bThen hB hb; replace hT := hT.keep hb; (try clear t0 t1 t2 t3 t4 t5 t6 t7 t8 t9 t10 t11 t12 t13 lt0); obtain ⟨t0, t1, t2, t3, t4, t5, t6, t7, t8, t9, t10, t11, t12, t13⟩ := tcells HX; have lt0 := HX.lt
  replace HJ := HJ.below' hb
  replace HF := HF.below' hb
  replace HG := HG.below' hb
  clear hb
  have HJa := (HJ).cell 0; have HJb := (HJ).cell 1; have HJc := (HJ).cell 2; have HJd := (HJ).cell 3; have HJe := (HJ).cell 4; have HJf := (HJ).cell 5; have HJl := (HJ).lt; simp at HJa HJb HJc HJd HJe HJf
  have HFa := (HF).cell 0; have HFb := (HF).cell 1; have HFc := (HF).cell 2; have HFl := (HF).lt; simp at HFa HFb HFc
  have HGa := (HG).cell 0; have HGb := (HG).cell 1; have HGc := (HG).cell 2; have HGl := (HG).lt; simp at HGa HGb HGc
  go_wp2_with fail
  refine (G2 _ hT).mono ?_
  rintro _ wq ⟨rfl, hb⟩; replace HX := HX.below' hb; replace hB := bThen hB hb; replace hT := hT.keep hb; (try clear t0 t1 t2 t3 t4 t5 t6 t7 t8 t9 t10 t11 t12 t13 lt0); obtain ⟨t0, t1, t2, t3, t4, t5, t6, t7, t8, t9, t10, t11, t12, t13⟩ := tcells HX; have lt0 := HX.lt
  replace HJ := HJ.below' hb
  clear hb
  have HJa := (HJ).cell 0; have HJb := (HJ).cell 1; have HJc := (HJ).cell 2; have HJd := (HJ).cell 3; have HJe := (HJ).cell 4; have HJf := (HJ).cell 5; have HJl := (HJ).lt; simp at HJa HJb HJc HJd HJe HJf
  go_wp2_with fail
  all_goals go_ret
  all_goals first
    | exact ⟨rfl, hB⟩
    | exact ⟨ret_bool (by have h1 := hn.out; have h2 := hat.out; have h3 := ho.out; grind), hB⟩
    | (exfalso; have h1 := hn.out; have h2 := hat.out; have h3 := ho.out; grind)
/-- The law's answer, whatever comes in. -/
theorem fareback_calls (tr : Tariff) (m : TMem) (j : Journey) (time : Int) (w : World) (hT : tr.At w m) (hc : m.Caps tr) :
    Calls Try.prog 8 #[.agg (tr.cells m), .agg #[.int .i64 (j).kind, .int .i64 (j).frm, .int .i64 (j).dst, .int .i64 (j).start, .int .i64 (j).stop, .bool (j).free], .int .i64 time] w fun e w' => e = .returned (.bool true) ∧ Below w.heap.size w w' := by
  by_cases h : (ofF tr j).2 = 0
  · obtain ⟨hr, ⟨a, b, s, k⟩ | ⟨k, -⟩ | ⟨k, -⟩ | ⟨k, -⟩⟩ := of_ok h
    · exact back_whole tr m j time w hT hc hr a b s k
    all_goals exact back_short tr m j time w hT hc (.inr (by omega))
  · exact back_short tr m j time w hT hc (.inl h)
end Go.Proofs.Ytmeogadkbbeglaa
end
section
namespace Go.Proofs.Ytmeogadkbbeglaa
open Go.RowKit Go.ChangeShapes Go.WideShapes Go.ChangeAt
set_option linter.unusedVariables false
def Journey.wf (s : Journey) : Prop := s.kind.in64 ∧ s.frm.in64 ∧ s.dst.in64 ∧ s.start.in64 ∧ s.stop.in64 ∧ True
theorem open_Journey {H : Type} {enc : TypeId × Value → H} {w : World} {base fuel : Nat} {spare : Nat → Bool} {held : Bool} {cs : List Value} {x : DataW H × List MemPlace} (h : DataW.trod enc Try.prog w base spare held fuel 50 cs = some x) : ∃ s : Journey, cs = s.vals ∧ s.wf := by
  obtain ⟨xs, n, rfl, hx, hl, hn, hf⟩ := DataW.trod_struct Try.underlying50 h
  have hc : Try.prog.cellsOf 50 = 6 := by kernel_rfl
  rw [hc] at hl
  have c_i : Try.prog.cellsOf 3 = 1 := by kernel_rfl
  have c_b : Try.prog.cellsOf 4 = 1 := by kernel_rfl
  obtain ⟨d0, d1, d2, d3, d4, d5, rfl⟩ := len_6 _ hl
  have g0 := hf 0 _ rfl
  rw [List.getElem?_eq_getElem (show 0 < xs.length by rw [hn]; decide)] at g0
  obtain ⟨n0, e0, -, b0⟩ := DataW.trod_int Try.underlying3 g0
  simp [c_i] at e0
  subst e0
  have g1 := hf 1 _ rfl
  rw [List.getElem?_eq_getElem (show 1 < xs.length by rw [hn]; decide)] at g1
  obtain ⟨n1, e1, -, b1⟩ := DataW.trod_int Try.underlying3 g1
  simp [c_i] at e1
  subst e1
  have g2 := hf 2 _ rfl
  rw [List.getElem?_eq_getElem (show 2 < xs.length by rw [hn]; decide)] at g2
  obtain ⟨n2, e2, -, b2⟩ := DataW.trod_int Try.underlying3 g2
  simp [c_i] at e2
  subst e2
  have g3 := hf 3 _ rfl
  rw [List.getElem?_eq_getElem (show 3 < xs.length by rw [hn]; decide)] at g3
  obtain ⟨n3, e3, -, b3⟩ := DataW.trod_int Try.underlying3 g3
  simp [c_i] at e3
  subst e3
  have g4 := hf 4 _ rfl
  rw [List.getElem?_eq_getElem (show 4 < xs.length by rw [hn]; decide)] at g4
  obtain ⟨n4, e4, -, b4⟩ := DataW.trod_int Try.underlying3 g4
  simp [c_i] at e4
  subst e4
  have g5 := hf 5 _ rfl
  rw [List.getElem?_eq_getElem (show 5 < xs.length by rw [hn]; decide)] at g5
  obtain ⟨n5, e5, -⟩ := DataW.trod_bool Try.underlying4 g5
  simp [c_b] at e5
  subst e5
  exact ⟨⟨n0, n1, n2, n3, n4, n5⟩, rfl, in64_of b0, in64_of b1, in64_of b2, in64_of b3, in64_of b4, trivial⟩
def DayC.wf (s : DayC) : Prop := s.day.in64 ∧ s.rail.in64 ∧ s.bus.in64 ∧ s.capped.in64 ∧ s.most.in64 ∧ s.low.in64 ∧ s.high.in64
def Tap.wf (s : Tap) : Prop := s.device.in64 ∧ s.counter.in64 ∧ s.token.size ≤ maxLen ∧ s.kind.in64 ∧ s.place.in64 ∧ s.time.in64
def Outage.wf (s : Outage) : Prop := s.station.in64 ∧ s.frm.in64 ∧ s.til.in64
end Go.Proofs.Ytmeogadkbbeglaa
end
