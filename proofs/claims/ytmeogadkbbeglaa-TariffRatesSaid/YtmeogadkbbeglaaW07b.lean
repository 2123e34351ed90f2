/- The walks of tariff.Station, Span, and what they call. -/
import Derived.Test.YtmeogadkbbeglaaCalm
import Derived.Test.YtmeogadkbbeglaaW07a
namespace Go.Proofs.Ytmeogadkbbeglaa
open Go.RowKit
set_option maxHeartbeats 400000

theorem station1_calls (s : Station) (id : Int) (p : Addr) (w : World) (hp : w.cell? p = some (.int .i64 id)) :
    Calls Try.prog 86 #[.agg #[.int .i64 s.id, .int .i64 s.zone, .int .i64 s.grp], .pointer (some p)] w fun e w' => e = .returned (.bool (s.id == id)) ∧ Below w.heap.size w w' := by
  have HB := Below.refl w.heap.size w
  have hlt := World.block_lt_of_cell? w p hp
  go_enter Try.func86, Try.ntmps86
  go_wp2_with fail
  go_ret
  exact ⟨rfl, by (repeat (first | (with_reducible exact HB) | (with_reducible refine bAlloc ?_ _) | (with_reducible refine bDrewN ?_ _) | (with_reducible refine bDrew ?_) | (with_reducible refine bSet ?_ (by first | exact Nat.le_refl _ | (simp; omega) | omega) _) | (with_reducible refine bThen ?_ (by with_reducible assumption))))⟩

theorem span1_calls (s : Span) (x y : Int) (p q : Addr) (w : World) (hp : w.cell? p = some (.int .i64 x)) (hq : w.cell? q = some (.int .i64 y)) :
    Calls Try.prog 88 #[.agg #[.int .i64 s.frm, .int .i64 s.to, .int .i64 s.single, .int .i64 s.daily, .int .i64 s.weekly], .pointer (some p), .pointer (some q)] w fun e w' => e = .returned (.bool (s.frm == mn x y && s.to == mx x y)) ∧ Below w.heap.size w w' := by
  have HB := Below.refl w.heap.size w
  have hlt := World.block_lt_of_cell? w p hp
  have hlt2 := World.block_lt_of_cell? w q hq
  go_enter Try.func88, Try.ntmps88
  go_wp2_with fail
  all_goals
    go_ret
    exact ⟨ret_bool (by simp only [mn, mx]; grind), by (repeat (first | (with_reducible exact HB) | (with_reducible refine bAlloc ?_ _) | (with_reducible refine bDrewN ?_ _) | (with_reducible refine bDrew ?_) | (with_reducible refine bSet ?_ (by first | exact Nat.le_refl _ | (simp; omega) | omega) _) | (with_reducible refine bThen ?_ (by with_reducible assumption))))⟩
-- INDEX ("index_station", "slices.IndexFunc[[]farebox/api.Station,farebox/api.Station]", "tariff.Station$1", "Station", "[]api.Station", 3, "elem3", ".int .i64 x.id, .int .i64 x.zone, .int .i64 x.grp", 1)

theorem index_station (l : List Station) (A : Option Addr) (c : Nat) (q0 : Value) (p : Station → Bool) (w : World) (hA : SliceAt w 3 Station.vals A l)
    (hf : ∀ (x : Station) (W : World), x ∈ l → Below w.heap.size w W → Calls Try.prog 86 #[.agg #[.int .i64 x.id, .int .i64 x.zone, .int .i64 x.grp], q0] W fun e w' => e = .returned (.bool (p x)) ∧ Below W.heap.size W w') :
    Calls Try.prog 85 #[.slice A l.length c, .func (.func 86) #[] #[q0]] w fun e w' => e = .returned (.int .i64 (idxI l p)) ∧ Below w.heap.size w w' := by
  have hm := hA.len
  have HB := Below.refl w.heap.size w
  have HF := Lib.hid hf
  clear hf
  go_enter Try.func85, Try.ntmps85
  go_wp2_with fail
  go_loopw [8] (fun i wr => ∃ k : Nat, k ≤ l.length ∧ i = .int .i64 k ∧ Hid ((l.take k).all (fun x => !p x) = true) ∧ Below w.heap.size w wr) (fun i _ => l.length - (intOf i).toNat)
  case atStart => exact ⟨0, by omega, rfl, rfl, HB⟩
  case round =>
    obtain ⟨k, hk, rfl, hall, hB⟩ := hrel
    by_cases hlt : k < l.length
    · obtain ⟨b, off, rfl, c0, c1, c2⟩ := elem3 hA hB k hlt
      cases hp : p l[k]
      · go_wp2_with (go_at_call 86; refine (HF.out l[k] _ (List.getElem_mem hlt) hB).mono ?_; rintro e w' ⟨rfl, hb1⟩)
        go_roundw
        case rel => exact ⟨k + 1, by omega, by go_num, all_snoc hlt hall.out (by simp [hp]), bThen hB hb1⟩
        case measure => simp [intOf]; omega
      · go_wp2_with (go_at_call 86; refine (HF.out l[k] _ (List.getElem_mem hlt) hB).mono ?_; rintro e w' ⟨rfl, hb1⟩)
        go_ret
        exact ⟨by rw [idxI_at hlt hall.out hp]; rfl, bThen hB hb1⟩
    · go_wp2_with fail
      go_ret
      exact ⟨by rw [idxI_none hlt hall.out]; rfl, hB⟩
-- END INDEX index_station
-- INDEX ("index_span", "slices.IndexFunc[[]farebox/api.Span,farebox/api.Span]", "tariff.Span$1", "Span", "[]api.Span", 5, "elem5", ".int .i64 x.frm, .int .i64 x.to, .int .i64 x.single, .int .i64 x.daily, .int .i64 x.weekly", 2)

theorem index_span (l : List Span) (A : Option Addr) (c : Nat) (q0 q1 : Value) (p : Span → Bool) (w : World) (hA : SliceAt w 5 Span.vals A l)
    (hf : ∀ (x : Span) (W : World), x ∈ l → Below w.heap.size w W → Calls Try.prog 88 #[.agg #[.int .i64 x.frm, .int .i64 x.to, .int .i64 x.single, .int .i64 x.daily, .int .i64 x.weekly], q0, q1] W fun e w' => e = .returned (.bool (p x)) ∧ Below W.heap.size W w') :
    Calls Try.prog 87 #[.slice A l.length c, .func (.func 88) #[] #[q0, q1]] w fun e w' => e = .returned (.int .i64 (idxI l p)) ∧ Below w.heap.size w w' := by
  have hm := hA.len
  have HB := Below.refl w.heap.size w
  have HF := Lib.hid hf
  clear hf
  go_enter Try.func87, Try.ntmps87
  go_wp2_with fail
  go_loopw [8] (fun i wr => ∃ k : Nat, k ≤ l.length ∧ i = .int .i64 k ∧ Hid ((l.take k).all (fun x => !p x) = true) ∧ Below w.heap.size w wr) (fun i _ => l.length - (intOf i).toNat)
  case atStart => exact ⟨0, by omega, rfl, rfl, HB⟩
  case round =>
    obtain ⟨k, hk, rfl, hall, hB⟩ := hrel
    by_cases hlt : k < l.length
    · obtain ⟨b, off, rfl, c0, c1, c2, c3, c4⟩ := elem5 hA hB k hlt
      cases hp : p l[k]
      · go_wp2_with (go_at_call 88; refine (HF.out l[k] _ (List.getElem_mem hlt) hB).mono ?_; rintro e w' ⟨rfl, hb1⟩)
        go_roundw
        case rel => exact ⟨k + 1, by omega, by go_num, all_snoc hlt hall.out (by simp [hp]), bThen hB hb1⟩
        case measure => simp [intOf]; omega
      · go_wp2_with (go_at_call 88; refine (HF.out l[k] _ (List.getElem_mem hlt) hB).mono ?_; rintro e w' ⟨rfl, hb1⟩)
        go_ret
        exact ⟨by rw [idxI_at hlt hall.out hp]; rfl, bThen hB hb1⟩
    · go_wp2_with fail
      go_ret
      exact ⟨by rw [idxI_none hlt hall.out]; rfl, hB⟩
-- END INDEX index_span


def stAgg (s : Station) : Value := .agg #[.int .i64 s.id, .int .i64 s.zone, .int .i64 s.grp]
def spAgg (s : Span) : Value := .agg #[.int .i64 s.frm, .int .i64 s.to, .int .i64 s.single, .int .i64 s.daily, .int .i64 s.weekly]
def stRes : Option Station → Value
  | some s => .tuple #[.agg #[.int .i64 s.id, .int .i64 s.zone, .int .i64 s.grp], .bool true]
  | none => .tuple #[.agg #[.int .i64 0, .int .i64 0, .int .i64 0], .bool false]
def spRes : Option Span → Value
  | some s => .tuple #[.agg #[.int .i64 s.frm, .int .i64 s.to, .int .i64 s.single, .int .i64 s.daily, .int .i64 s.weekly], .bool true]
  | none => .tuple #[.agg #[.int .i64 0, .int .i64 0, .int .i64 0, .int .i64 0, .int .i64 0], .bool false]

set_option maxHeartbeats 800000 in
theorem station_calls (t : Tariff) (m : TMem) (id : Int) (w : World) (h : t.At w m) :
    Calls Try.prog 31 #[.agg (t.cells m), .int .i64 id] w fun e w' => e = .returned (stRes (stFind t.st id)) ∧ Below w.heap.size w w' := by
  have HB := Below.refl w.heap.size w
  have hmf : ∀ (fn : Fn) (first cap : Array Value) (w : World), (Instr.makeFunc fn first cap).run Try.prog w = .ok (.func fn first cap) w := fun _ _ _ _ => rfl
  have hl := h.st.len
  obtain ⟨a1, mc1, a2, mc2, a3, mc3⟩ := m
  have HId : Box (((w.alloc (.cells (t.cells ⟨a1, mc1, a2, mc2, a3, mc3⟩) 27)).alloc (.cells #[.int .i64 id] 3)).alloc (.cells #[.int .i64 0, .int .i64 0, .int .i64 0] 35)) (w.heap.size + 1) #[.int .i64 id] 3 := (Box.new' (by simp) _ _).alloc _
  have HR : Box (((w.alloc (.cells (t.cells ⟨a1, mc1, a2, mc2, a3, mc3⟩) 27)).alloc (.cells #[.int .i64 id] 3)).alloc (.cells #[.int .i64 0, .int .i64 0, .int .i64 0] 35)) (w.heap.size + 1 + 1) #[.int .i64 0, .int .i64 0, .int .i64 0] 35 := Box.new' (by simp) _ _
  have HT : Box (((w.alloc (.cells (t.cells ⟨a1, mc1, a2, mc2, a3, mc3⟩) 27)).alloc (.cells #[.int .i64 id] 3)).alloc (.cells #[.int .i64 0, .int .i64 0, .int .i64 0] 35)) w.heap.size (t.cells ⟨a1, mc1, a2, mc2, a3, mc3⟩) 27 := ((Box.new _ _ _).alloc _).alloc _
  have HB3 : Below w.heap.size w (((w.alloc (.cells (t.cells ⟨a1, mc1, a2, mc2, a3, mc3⟩) 27)).alloc (.cells #[.int .i64 id] 3)).alloc (.cells #[.int .i64 0, .int .i64 0, .int .i64 0] 35)) := by (repeat (first | (with_reducible exact HB) | (with_reducible refine bAlloc ?_ _) | (with_reducible refine bDrewN ?_ _) | (with_reducible refine bDrew ?_) | (with_reducible refine bSet ?_ (by first | exact Nat.le_refl _ | (simp; omega) | omega) _) | (with_reducible refine bThen ?_ (by with_reducible assumption))))
  rcases idxI_cases t.st (fun s => s.id == id) with ⟨i, hi, hx, hfd⟩ | ⟨hx, hfd⟩
  · have HX := Lib.hid hx
    have HF := Lib.hid hfd
    clear hx hfd
    go_enter Try.func31, Try.ntmps31
    go_wp2_with fail
    generalize (((w.alloc (.cells (t.cells ⟨a1, mc1, a2, mc2, a3, mc3⟩) 27)).alloc (.cells #[.int .i64 id] 3)).alloc (.cells #[.int .i64 0, .int .i64 0, .int .i64 0] 35)) = w3 at *
    refine (index_station _ _ _ _ (fun s => s.id == id) _ (h.st.keep HB3) (fun s W hs hb => station1_calls s id _ W ((HId.below' hb).cell 0))).mono ?_
    rintro e w4 ⟨rfl, hb⟩
    rw [HX.out]
    have HT4 := HT.below' hb
    have HR4 := HR.below' hb
    have HB4 := bThen HB3 hb
    obtain ⟨t0, t1, t2, t3, t4, t5, t6, t7, t8, t9, t10, t11, t12, t13⟩ := tcells HT4
    have y0 := HR4.free 0
    have z0 := HR4.cell 0
    have y1 := HR4.free 1
    have z1 := HR4.cell 1
    have y2 := HR4.free 2
    have z2 := HR4.cell 2
    simp at z0 z1 z2
    have ltr := HR4.lt
    obtain ⟨b, off, hA, c0, c1, c2⟩ := elem3 h.st HB4 i hi
    subst hA
    go_wp2_with fail
    refine bodyPost_ret (v := .tuple #[.agg #[.int .i64 t.st[i].id, .int .i64 t.st[i].zone, .int .i64 t.st[i].grp], .bool true]) (by simp [results, Try.results31, go_sem, z0, z1, z2]) rfl ⟨by rw [stFind, HF.out]; rfl, by (repeat (first | (with_reducible exact HB4) | (with_reducible refine bAlloc ?_ _) | (with_reducible refine bDrewN ?_ _) | (with_reducible refine bDrew ?_) | (with_reducible refine bSet ?_ (by first | exact Nat.le_refl _ | (simp; omega) | omega) _) | (with_reducible refine bThen ?_ (by with_reducible assumption))))⟩
  · have HX := Lib.hid hx
    have HF := Lib.hid hfd
    clear hx hfd
    go_enter Try.func31, Try.ntmps31
    go_wp2_with fail
    generalize (((w.alloc (.cells (t.cells ⟨a1, mc1, a2, mc2, a3, mc3⟩) 27)).alloc (.cells #[.int .i64 id] 3)).alloc (.cells #[.int .i64 0, .int .i64 0, .int .i64 0] 35)) = w3 at *
    refine (index_station _ _ _ _ (fun s => s.id == id) _ (h.st.keep HB3) (fun s W hs hb => station1_calls s id _ W ((HId.below' hb).cell 0))).mono ?_
    rintro e w4 ⟨rfl, hb⟩
    rw [HX.out]
    have HT4 := HT.below' hb
    have HR4 := HR.below' hb
    have HB4 := bThen HB3 hb
    obtain ⟨t0, t1, t2, t3, t4, t5, t6, t7, t8, t9, t10, t11, t12, t13⟩ := tcells HT4
    have y0 := HR4.free 0
    have z0 := HR4.cell 0
    have y1 := HR4.free 1
    have z1 := HR4.cell 1
    have y2 := HR4.free 2
    have z2 := HR4.cell 2
    simp at z0 z1 z2
    have ltr := HR4.lt
    go_wp2_with fail
    refine bodyPost_ret (v := .tuple #[.agg #[.int .i64 0, .int .i64 0, .int .i64 0], .bool false]) (by simp [results, Try.results31, go_sem, z0, z1, z2]) rfl ⟨by rw [stFind, HF.out]; rfl, by (repeat (first | (with_reducible exact HB4) | (with_reducible refine bAlloc ?_ _) | (with_reducible refine bDrewN ?_ _) | (with_reducible refine bDrew ?_) | (with_reducible refine bSet ?_ (by first | exact Nat.le_refl _ | (simp; omega) | omega) _) | (with_reducible refine bThen ?_ (by with_reducible assumption))))⟩

set_option maxHeartbeats 800000 in
theorem span_calls (t : Tariff) (m : TMem) (x y : Int) (w : World) (h : t.At w m) :
    Calls Try.prog 32 #[.agg (t.cells m), .int .i64 x, .int .i64 y] w fun e w' => e = .returned (spRes (spFind t.sp x y)) ∧ Below w.heap.size w w' := by
  have HB := Below.refl w.heap.size w
  have hmf : ∀ (fn : Fn) (first cap : Array Value) (w : World), (Instr.makeFunc fn first cap).run Try.prog w = .ok (.func fn first cap) w := fun _ _ _ _ => rfl
  have hl := h.sp.len
  obtain ⟨a1, mc1, a2, mc2, a3, mc3⟩ := m
  have HId : Box ((((w.alloc (.cells (t.cells ⟨a1, mc1, a2, mc2, a3, mc3⟩) 27)).alloc (.cells #[.int .i64 x] 3)).alloc (.cells #[.int .i64 y] 3)).alloc (.cells #[.int .i64 0, .int .i64 0, .int .i64 0, .int .i64 0, .int .i64 0] 39)) (w.heap.size + 1) #[.int .i64 x] 3 := ((Box.new' (by simp) _ _).alloc _).alloc _
  have HJd : Box ((((w.alloc (.cells (t.cells ⟨a1, mc1, a2, mc2, a3, mc3⟩) 27)).alloc (.cells #[.int .i64 x] 3)).alloc (.cells #[.int .i64 y] 3)).alloc (.cells #[.int .i64 0, .int .i64 0, .int .i64 0, .int .i64 0, .int .i64 0] 39)) (w.heap.size + 1 + 1) #[.int .i64 y] 3 := (Box.new' (by simp) _ _).alloc _
  have HR : Box ((((w.alloc (.cells (t.cells ⟨a1, mc1, a2, mc2, a3, mc3⟩) 27)).alloc (.cells #[.int .i64 x] 3)).alloc (.cells #[.int .i64 y] 3)).alloc (.cells #[.int .i64 0, .int .i64 0, .int .i64 0, .int .i64 0, .int .i64 0] 39)) (w.heap.size + 1 + 1 + 1) #[.int .i64 0, .int .i64 0, .int .i64 0, .int .i64 0, .int .i64 0] 39 := Box.new' (by simp) _ _
  have HT : Box ((((w.alloc (.cells (t.cells ⟨a1, mc1, a2, mc2, a3, mc3⟩) 27)).alloc (.cells #[.int .i64 x] 3)).alloc (.cells #[.int .i64 y] 3)).alloc (.cells #[.int .i64 0, .int .i64 0, .int .i64 0, .int .i64 0, .int .i64 0] 39)) w.heap.size (t.cells ⟨a1, mc1, a2, mc2, a3, mc3⟩) 27 := (((Box.new _ _ _).alloc _).alloc _).alloc _
  have HB3 : Below w.heap.size w ((((w.alloc (.cells (t.cells ⟨a1, mc1, a2, mc2, a3, mc3⟩) 27)).alloc (.cells #[.int .i64 x] 3)).alloc (.cells #[.int .i64 y] 3)).alloc (.cells #[.int .i64 0, .int .i64 0, .int .i64 0, .int .i64 0, .int .i64 0] 39)) := by (repeat (first | (with_reducible exact HB) | (with_reducible refine bAlloc ?_ _) | (with_reducible refine bDrewN ?_ _) | (with_reducible refine bDrew ?_) | (with_reducible refine bSet ?_ (by first | exact Nat.le_refl _ | (simp; omega) | omega) _) | (with_reducible refine bThen ?_ (by with_reducible assumption))))
  rcases idxI_cases t.sp (fun s => s.frm == mn x y && s.to == mx x y) with ⟨i, hi, hx, hfd⟩ | ⟨hx, hfd⟩
  · have HX := Lib.hid hx
    have HF := Lib.hid hfd
    clear hx hfd
    go_enter Try.func32, Try.ntmps32
    go_wp2_with fail
    generalize ((((w.alloc (.cells (t.cells ⟨a1, mc1, a2, mc2, a3, mc3⟩) 27)).alloc (.cells #[.int .i64 x] 3)).alloc (.cells #[.int .i64 y] 3)).alloc (.cells #[.int .i64 0, .int .i64 0, .int .i64 0, .int .i64 0, .int .i64 0] 39)) = w3 at *
    refine (index_span _ _ _ _ _ (fun s => s.frm == mn x y && s.to == mx x y) _ (h.sp.keep HB3) (fun s W hs hb => span1_calls s x y _ _ W ((HId.below' hb).cell 0) ((HJd.below' hb).cell 0))).mono ?_
    rintro e w4 ⟨rfl, hb⟩
    rw [HX.out]
    have HT4 := HT.below' hb
    have HR4 := HR.below' hb
    have HB4 := bThen HB3 hb
    obtain ⟨t0, t1, t2, t3, t4, t5, t6, t7, t8, t9, t10, t11, t12, t13⟩ := tcells HT4
    have y0 := HR4.free 0
    have z0 := HR4.cell 0
    have y1 := HR4.free 1
    have z1 := HR4.cell 1
    have y2 := HR4.free 2
    have z2 := HR4.cell 2
    have y3 := HR4.free 3
    have z3 := HR4.cell 3
    have y4 := HR4.free 4
    have z4 := HR4.cell 4
    simp at z0 z1 z2 z3 z4
    have ltr := HR4.lt
    obtain ⟨b, off, hA, c0, c1, c2, c3, c4⟩ := elem5 h.sp HB4 i hi
    subst hA
    go_wp2_with fail
    refine bodyPost_ret (v := .tuple #[.agg #[.int .i64 t.sp[i].frm, .int .i64 t.sp[i].to, .int .i64 t.sp[i].single, .int .i64 t.sp[i].daily, .int .i64 t.sp[i].weekly], .bool true]) (by simp [results, Try.results32, go_sem, z0, z1, z2, z3, z4]) rfl ⟨by rw [spFind, HF.out]; rfl, by (repeat (first | (with_reducible exact HB4) | (with_reducible refine bAlloc ?_ _) | (with_reducible refine bDrewN ?_ _) | (with_reducible refine bDrew ?_) | (with_reducible refine bSet ?_ (by first | exact Nat.le_refl _ | (simp; omega) | omega) _) | (with_reducible refine bThen ?_ (by with_reducible assumption))))⟩
  · have HX := Lib.hid hx
    have HF := Lib.hid hfd
    clear hx hfd
    go_enter Try.func32, Try.ntmps32
    go_wp2_with fail
    generalize ((((w.alloc (.cells (t.cells ⟨a1, mc1, a2, mc2, a3, mc3⟩) 27)).alloc (.cells #[.int .i64 x] 3)).alloc (.cells #[.int .i64 y] 3)).alloc (.cells #[.int .i64 0, .int .i64 0, .int .i64 0, .int .i64 0, .int .i64 0] 39)) = w3 at *
    refine (index_span _ _ _ _ _ (fun s => s.frm == mn x y && s.to == mx x y) _ (h.sp.keep HB3) (fun s W hs hb => span1_calls s x y _ _ W ((HId.below' hb).cell 0) ((HJd.below' hb).cell 0))).mono ?_
    rintro e w4 ⟨rfl, hb⟩
    rw [HX.out]
    have HT4 := HT.below' hb
    have HR4 := HR.below' hb
    have HB4 := bThen HB3 hb
    obtain ⟨t0, t1, t2, t3, t4, t5, t6, t7, t8, t9, t10, t11, t12, t13⟩ := tcells HT4
    have y0 := HR4.free 0
    have z0 := HR4.cell 0
    have y1 := HR4.free 1
    have z1 := HR4.cell 1
    have y2 := HR4.free 2
    have z2 := HR4.cell 2
    have y3 := HR4.free 3
    have z3 := HR4.cell 3
    have y4 := HR4.free 4
    have z4 := HR4.cell 4
    simp at z0 z1 z2 z3 z4
    have ltr := HR4.lt
    go_wp2_with fail
    refine bodyPost_ret (v := .tuple #[.agg #[.int .i64 0, .int .i64 0, .int .i64 0, .int .i64 0, .int .i64 0], .bool false]) (by simp [results, Try.results32, go_sem, z0, z1, z2, z3, z4]) rfl ⟨by rw [spFind, HF.out]; rfl, by (repeat (first | (with_reducible exact HB4) | (with_reducible refine bAlloc ?_ _) | (with_reducible refine bDrewN ?_ _) | (with_reducible refine bDrew ?_) | (with_reducible refine bSet ?_ (by first | exact Nat.le_refl _ | (simp; omega) | omega) _) | (with_reducible refine bThen ?_ (by with_reducible assumption))))⟩

end Go.Proofs.Ytmeogadkbbeglaa
