/- The walks of tariff.Station, Span, and what they call. The walk of tariff.Single. Lists in memory that the call itself makes. The walks of the law's example. The walk of the tariff law's own look at the document's examples. Plain laws of tariffs: what follows where tariff.Right answers OK. -/
import Derived.Test.YtmeogadkbbeglaaH1
import Derived.Laws.AppendOwn
import Derived.Test.YtmeogadkbbeglaaH2
namespace Go.Proofs.Ytmeogadkbbeglaa
open Go.RowKit
set_option maxHeartbeats 400000

theorem station1_calls (s : Station) (id : Int) (p : Addr) (w : World) (hp : w.cell? p = some (.int .i64 id)) :
    Calls Try.prog 86 #[.agg #[.int .i64 s.id, .int .i64 s.zone, .int .i64 s.grp], .pointer (some p)] w fun e w' => e = .returned (.bool (s.id == id)) ∧ Below w.heap.size w w' := by
  have HB := Below.refl w.heap.size w
  have hlt := World.block_lt_of_cell? w p hp
  go_enter Try.func86, Try.ntmps86
  go_wp2_with fail
  go_ret
  exact ⟨rfl, by (repeat (first | (with_reducible exact HB) | (with_reducible refine bAlloc ?_ _) | (with_reducible refine bDrewN ?_ _) | (with_reducible refine bDrew ?_) | (with_reducible refine bSet ?_ (by first | exact Nat.le_refl _ | (simp; omega) | omega) _) | (with_reducible refine bThen ?_ (by with_reducible assumption))))⟩

theorem span1_calls (s : Span) (x y : Int) (p q : Addr) (w : World) (hp : w.cell? p = some (.int .i64 x)) (hq : w.cell? q = some (.int .i64 y)) :
    Calls Try.prog 88 #[.agg #[.int .i64 s.frm, .int .i64 s.to, .int .i64 s.single, .int .i64 s.daily, .int .i64 s.weekly], .pointer (some p), .pointer (some q)] w fun e w' => e = .returned (.bool (s.frm == mn x y && s.to == mx x y)) ∧ Below w.heap.size w w' := by
  have HB := Below.refl w.heap.size w
  have hlt := World.block_lt_of_cell? w p hp
  have hlt2 := World.block_lt_of_cell? w q hq
  go_enter Try.func88, Try.ntmps88
  go_wp2_with fail
  all_goals
    go_ret
    exact ⟨ret_bool (by simp only [mn, mx]; grind), by (repeat (first | (with_reducible exact HB) | (with_reducible refine bAlloc ?_ _) | (with_reducible refine bDrewN ?_ _) | (with_reducible refine bDrew ?_) | (with_reducible refine bSet ?_ (by first | exact Nat.le_refl _ | (simp; omega) | omega) _) | (with_reducible refine bThen ?_ (by with_reducible assumption))))⟩
-- INDEX ("index_station", "slices.IndexFunc[[]farebox/api.Station,farebox/api.Station]", "tariff.Station$1", "Station", "[]api.Station", 3, "elem3", ".int .i64 x.id, .int .i64 x.zone, .int .i64 x.grp", 1)

theorem index_station (l : List Station) (A : Option Addr) (c : Nat) (q0 : Value) (p : Station → Bool) (w : World) (hA : SliceAt w 3 Station.vals A l)
    (hf : ∀ (x : Station) (W : World), x ∈ l → Below w.heap.size w W → Calls Try.prog 86 #[.agg #[.int .i64 x.id, .int .i64 x.zone, .int .i64 x.grp], q0] W fun e w' => e = .returned (.bool (p x)) ∧ Below W.heap.size W w') :
    Calls Try.prog 85 #[.slice A l.length c, .func (.func 86) #[] #[q0]] w fun e w' => e = .returned (.int .i64 (idxI l p)) ∧ Below w.heap.size w w' := by
  have hm := hA.len
  have HB := Below.refl w.heap.size w
  have HF := Lib.hid hf
  clear hf
  go_enter Try.func85, Try.ntmps85
  go_wp2_with fail
  go_loopw [8] (fun i wr => ∃ k : Nat, k ≤ l.length ∧ i = .int .i64 k ∧ Hid ((l.take k).all (fun x => !p x) = true) ∧ Below w.heap.size w wr) (fun i _ => l.length - (intOf i).toNat)
  case atStart => exact ⟨0, by omega, rfl, rfl, HB⟩
  case round =>
    obtain ⟨k, hk, rfl, hall, hB⟩ := hrel
    by_cases hlt : k < l.length
    · obtain ⟨b, off, rfl, c0, c1, c2⟩ := elem3 hA hB k hlt
      cases hp : p l[k]
      · go_wp2_with (go_at_call 86; refine (HF.out l[k] _ (List.getElem_mem hlt) hB).mono ?_; rintro e w' ⟨rfl, hb1⟩)
        go_roundw
        case rel => exact ⟨k + 1, by omega, by go_num, all_snoc hlt hall.out (by simp [hp]), bThen hB hb1⟩
        case measure => simp [intOf]; omega
      · go_wp2_with (go_at_call 86; refine (HF.out l[k] _ (List.getElem_mem hlt) hB).mono ?_; rintro e w' ⟨rfl, hb1⟩)
        go_ret
        exact ⟨by rw [idxI_at hlt hall.out hp]; rfl, bThen hB hb1⟩
    · go_wp2_with fail
      go_ret
      exact ⟨by rw [idxI_none hlt hall.out]; rfl, hB⟩
-- END INDEX index_station
-- INDEX ("index_span", "slices.IndexFunc[[]farebox/api.Span,farebox/api.Span]", "tariff.Span$1", "Span", "[]api.Span", 5, "elem5", ".int .i64 x.frm, .int .i64 x.to, .int .i64 x.single, .int .i64 x.daily, .int .i64 x.weekly", 2)

theorem index_span (l : List Span) (A : Option Addr) (c : Nat) (q0 q1 : Value) (p : Span → Bool) (w : World) (hA : SliceAt w 5 Span.vals A l)
    (hf : ∀ (x : Span) (W : World), x ∈ l → Below w.heap.size w W → Calls Try.prog 88 #[.agg #[.int .i64 x.frm, .int .i64 x.to, .int .i64 x.single, .int .i64 x.daily, .int .i64 x.weekly], q0, q1] W fun e w' => e = .returned (.bool (p x)) ∧ Below W.heap.size W w') :
    Calls Try.prog 87 #[.slice A l.length c, .func (.func 88) #[] #[q0, q1]] w fun e w' => e = .returned (.int .i64 (idxI l p)) ∧ Below w.heap.size w w' := by
  have hm := hA.len
  have HB := Below.refl w.heap.size w
  have HF := Lib.hid hf
  clear hf
  go_enter Try.func87, Try.ntmps87
  go_wp2_with fail
  go_loopw [8] (fun i wr => ∃ k : Nat, k ≤ l.length ∧ i = .int .i64 k ∧ Hid ((l.take k).all (fun x => !p x) = true) ∧ Below w.heap.size w wr) (fun i _ => l.length - (intOf i).toNat)
  case atStart => exact ⟨0, by omega, rfl, rfl, HB⟩
  case round =>
    obtain ⟨k, hk, rfl, hall, hB⟩ := hrel
    by_cases hlt : k < l.length
    · obtain ⟨b, off, rfl, c0, c1, c2, c3, c4⟩ := elem5 hA hB k hlt
      cases hp : p l[k]
      · go_wp2_with (go_at_call 88; refine (HF.out l[k] _ (List.getElem_mem hlt) hB).mono ?_; rintro e w' ⟨rfl, hb1⟩)
        go_roundw
        case rel => exact ⟨k + 1, by omega, by go_num, all_snoc hlt hall.out (by simp [hp]), bThen hB hb1⟩
        case measure => simp [intOf]; omega
      · go_wp2_with (go_at_call 88; refine (HF.out l[k] _ (List.getElem_mem hlt) hB).mono ?_; rintro e w' ⟨rfl, hb1⟩)
        go_ret
        exact ⟨by rw [idxI_at hlt hall.out hp]; rfl, bThen hB hb1⟩
    · go_wp2_with fail
      go_ret
      exact ⟨by rw [idxI_none hlt hall.out]; rfl, hB⟩
-- END INDEX index_span


def stAgg (s : Station) : Value := .agg #[.int .i64 s.id, .int .i64 s.zone, .int .i64 s.grp]
def spAgg (s : Span) : Value := .agg #[.int .i64 s.frm, .int .i64 s.to, .int .i64 s.single, .int .i64 s.daily, .int .i64 s.weekly]
def stRes : Option Station → Value
  | some s => .tuple #[.agg #[.int .i64 s.id, .int .i64 s.zone, .int .i64 s.grp], .bool true]
  | none => .tuple #[.agg #[.int .i64 0, .int .i64 0, .int .i64 0], .bool false]
def spRes : Option Span → Value
  | some s => .tuple #[.agg #[.int .i64 s.frm, .int .i64 s.to, .int .i64 s.single, .int .i64 s.daily, .int .i64 s.weekly], .bool true]
  | none => .tuple #[.agg #[.int .i64 0, .int .i64 0, .int .i64 0, .int .i64 0, .int .i64 0], .bool false]

set_option maxHeartbeats 800000 in
theorem station_calls (t : Tariff) (m : TMem) (id : Int) (w : World) (h : t.At w m) :
    Calls Try.prog 31 #[.agg (t.cells m), .int .i64 id] w fun e w' => e = .returned (stRes (stFind t.st id)) ∧ Below w.heap.size w w' := by
  have HB := Below.refl w.heap.size w
  have hmf : ∀ (fn : Fn) (first cap : Array Value) (w : World), (Instr.makeFunc fn first cap).run Try.prog w = .ok (.func fn first cap) w := fun _ _ _ _ => rfl
  have hl := h.st.len
  obtain ⟨a1, mc1, a2, mc2, a3, mc3⟩ := m
  have HId : Box (((w.alloc (.cells (t.cells ⟨a1, mc1, a2, mc2, a3, mc3⟩) 27)).alloc (.cells #[.int .i64 id] 3)).alloc (.cells #[.int .i64 0, .int .i64 0, .int .i64 0] 35)) (w.heap.size + 1) #[.int .i64 id] 3 := (Box.new' (by simp) _ _).alloc _
  have HR : Box (((w.alloc (.cells (t.cells ⟨a1, mc1, a2, mc2, a3, mc3⟩) 27)).alloc (.cells #[.int .i64 id] 3)).alloc (.cells #[.int .i64 0, .int .i64 0, .int .i64 0] 35)) (w.heap.size + 1 + 1) #[.int .i64 0, .int .i64 0, .int .i64 0] 35 := Box.new' (by simp) _ _
  have HT : Box (((w.alloc (.cells (t.cells ⟨a1, mc1, a2, mc2, a3, mc3⟩) 27)).alloc (.cells #[.int .i64 id] 3)).alloc (.cells #[.int .i64 0, .int .i64 0, .int .i64 0] 35)) w.heap.size (t.cells ⟨a1, mc1, a2, mc2, a3, mc3⟩) 27 := ((Box.new _ _ _).alloc _).alloc _
  have HB3 : Below w.heap.size w (((w.alloc (.cells (t.cells ⟨a1, mc1, a2, mc2, a3, mc3⟩) 27)).alloc (.cells #[.int .i64 id] 3)).alloc (.cells #[.int .i64 0, .int .i64 0, .int .i64 0] 35)) := by (repeat (first | (with_reducible exact HB) | (with_reducible refine bAlloc ?_ _) | (with_reducible refine bDrewN ?_ _) | (with_reducible refine bDrew ?_) | (with_reducible refine bSet ?_ (by first | exact Nat.le_refl _ | (simp; omega) | omega) _) | (with_reducible refine bThen ?_ (by with_reducible assumption))))
  rcases idxI_cases t.st (fun s => s.id == id) with ⟨i, hi, hx, hfd⟩ | ⟨hx, hfd⟩
  · have HX := Lib.hid hx
    have HF := Lib.hid hfd
    clear hx hfd
    go_enter Try.func31, Try.ntmps31
    go_wp2_with fail
    generalize (((w.alloc (.cells (t.cells ⟨a1, mc1, a2, mc2, a3, mc3⟩) 27)).alloc (.cells #[.int .i64 id] 3)).alloc (.cells #[.int .i64 0, .int .i64 0, .int .i64 0] 35)) = w3 at *
    refine (index_station _ _ _ _ (fun s => s.id == id) _ (h.st.keep HB3) (fun s W hs hb => station1_calls s id _ W ((HId.below' hb).cell 0))).mono ?_
    rintro e w4 ⟨rfl, hb⟩
    rw [HX.out]
    have HT4 := HT.below' hb
    have HR4 := HR.below' hb
    have HB4 := bThen HB3 hb
    obtain ⟨t0, t1, t2, t3, t4, t5, t6, t7, t8, t9, t10, t11, t12, t13⟩ := tcells HT4
    have y0 := HR4.free 0
    have z0 := HR4.cell 0
    have y1 := HR4.free 1
    have z1 := HR4.cell 1
    have y2 := HR4.free 2
    have z2 := HR4.cell 2
    simp at z0 z1 z2
    have ltr := HR4.lt
    obtain ⟨b, off, hA, c0, c1, c2⟩ := elem3 h.st HB4 i hi
    subst hA
    go_wp2_with fail
    refine bodyPost_ret (v := .tuple #[.agg #[.int .i64 t.st[i].id, .int .i64 t.st[i].zone, .int .i64 t.st[i].grp], .bool true]) (by simp [results, Try.results31, go_sem, z0, z1, z2]) rfl ⟨by rw [stFind, HF.out]; rfl, by (repeat (first | (with_reducible exact HB4) | (with_reducible refine bAlloc ?_ _) | (with_reducible refine bDrewN ?_ _) | (with_reducible refine bDrew ?_) | (with_reducible refine bSet ?_ (by first | exact Nat.le_refl _ | (simp; omega) | omega) _) | (with_reducible refine bThen ?_ (by with_reducible assumption))))⟩
  · have HX := Lib.hid hx
    have HF := Lib.hid hfd
    clear hx hfd
    go_enter Try.func31, Try.ntmps31
    go_wp2_with fail
    generalize (((w.alloc (.cells (t.cells ⟨a1, mc1, a2, mc2, a3, mc3⟩) 27)).alloc (.cells #[.int .i64 id] 3)).alloc (.cells #[.int .i64 0, .int .i64 0, .int .i64 0] 35)) = w3 at *
    refine (index_station _ _ _ _ (fun s => s.id == id) _ (h.st.keep HB3) (fun s W hs hb => station1_calls s id _ W ((HId.below' hb).cell 0))).mono ?_
    rintro e w4 ⟨rfl, hb⟩
    rw [HX.out]
    have HT4 := HT.below' hb
    have HR4 := HR.below' hb
    have HB4 := bThen HB3 hb
    obtain ⟨t0, t1, t2, t3, t4, t5, t6, t7, t8, t9, t10, t11, t12, t13⟩ := tcells HT4
    have y0 := HR4.free 0
    have z0 := HR4.cell 0
    have y1 := HR4.free 1
    have z1 := HR4.cell 1
    have y2 := HR4.free 2
    have z2 := HR4.cell 2
    simp at z0 z1 z2
    have ltr := HR4.lt
    go_wp2_with fail
    refine bodyPost_ret (v := .tuple #[.agg #[.int .i64 0, .int .i64 0, .int .i64 0], .bool false]) (by simp [results, Try.results31, go_sem, z0, z1, z2]) rfl ⟨by rw [stFind, HF.out]; rfl, by (repeat (first | (with_reducible exact HB4) | (with_reducible refine bAlloc ?_ _) | (with_reducible refine bDrewN ?_ _) | (with_reducible refine bDrew ?_) | (with_reducible refine bSet ?_ (by first | exact Nat.le_refl _ | (simp; omega) | omega) _) | (with_reducible refine bThen ?_ (by with_reducible assumption))))⟩

set_option maxHeartbeats 800000 in
theorem span_calls (t : Tariff) (m : TMem) (x y : Int) (w : World) (h : t.At w m) :
    Calls Try.prog 32 #[.agg (t.cells m), .int .i64 x, .int .i64 y] w fun e w' => e = .returned (spRes (spFind t.sp x y)) ∧ Below w.heap.size w w' := by
  have HB := Below.refl w.heap.size w
  have hmf : ∀ (fn : Fn) (first cap : Array Value) (w : World), (Instr.makeFunc fn first cap).run Try.prog w = .ok (.func fn first cap) w := fun _ _ _ _ => rfl
  have hl := h.sp.len
  obtain ⟨a1, mc1, a2, mc2, a3, mc3⟩ := m
  have HId : Box ((((w.alloc (.cells (t.cells ⟨a1, mc1, a2, mc2, a3, mc3⟩) 27)).alloc (.cells #[.int .i64 x] 3)).alloc (.cells #[.int .i64 y] 3)).alloc (.cells #[.int .i64 0, .int .i64 0, .int .i64 0, .int .i64 0, .int .i64 0] 39)) (w.heap.size + 1) #[.int .i64 x] 3 := ((Box.new' (by simp) _ _).alloc _).alloc _
  have HJd : Box ((((w.alloc (.cells (t.cells ⟨a1, mc1, a2, mc2, a3, mc3⟩) 27)).alloc (.cells #[.int .i64 x] 3)).alloc (.cells #[.int .i64 y] 3)).alloc (.cells #[.int .i64 0, .int .i64 0, .int .i64 0, .int .i64 0, .int .i64 0] 39)) (w.heap.size + 1 + 1) #[.int .i64 y] 3 := (Box.new' (by simp) _ _).alloc _
  have HR : Box ((((w.alloc (.cells (t.cells ⟨a1, mc1, a2, mc2, a3, mc3⟩) 27)).alloc (.cells #[.int .i64 x] 3)).alloc (.cells #[.int .i64 y] 3)).alloc (.cells #[.int .i64 0, .int .i64 0, .int .i64 0, .int .i64 0, .int .i64 0] 39)) (w.heap.size + 1 + 1 + 1) #[.int .i64 0, .int .i64 0, .int .i64 0, .int .i64 0, .int .i64 0] 39 := Box.new' (by simp) _ _
  have HT : Box ((((w.alloc (.cells (t.cells ⟨a1, mc1, a2, mc2, a3, mc3⟩) 27)).alloc (.cells #[.int .i64 x] 3)).alloc (.cells #[.int .i64 y] 3)).alloc (.cells #[.int .i64 0, .int .i64 0, .int .i64 0, .int .i64 0, .int .i64 0] 39)) w.heap.size (t.cells ⟨a1, mc1, a2, mc2, a3, mc3⟩) 27 := (((Box.new _ _ _).alloc _).alloc _).alloc _
  have HB3 : Below w.heap.size w ((((w.alloc (.cells (t.cells ⟨a1, mc1, a2, mc2, a3, mc3⟩) 27)).alloc (.cells #[.int .i64 x] 3)).alloc (.cells #[.int .i64 y] 3)).alloc (.cells #[.int .i64 0, .int .i64 0, .int .i64 0, .int .i64 0, .int .i64 0] 39)) := by (repeat (first | (with_reducible exact HB) | (with_reducible refine bAlloc ?_ _) | (with_reducible refine bDrewN ?_ _) | (with_reducible refine bDrew ?_) | (with_reducible refine bSet ?_ (by first | exact Nat.le_refl _ | (simp; omega) | omega) _) | (with_reducible refine bThen ?_ (by with_reducible assumption))))
  rcases idxI_cases t.sp (fun s => s.frm == mn x y && s.to == mx x y) with ⟨i, hi, hx, hfd⟩ | ⟨hx, hfd⟩
  · have HX := Lib.hid hx
    have HF := Lib.hid hfd
    clear hx hfd
    go_enter Try.func32, Try.ntmps32
    go_wp2_with fail
    generalize ((((w.alloc (.cells (t.cells ⟨a1, mc1, a2, mc2, a3, mc3⟩) 27)).alloc (.cells #[.int .i64 x] 3)).alloc (.cells #[.int .i64 y] 3)).alloc (.cells #[.int .i64 0, .int .i64 0, .int .i64 0, .int .i64 0, .int .i64 0] 39)) = w3 at *
    refine (index_span _ _ _ _ _ (fun s => s.frm == mn x y && s.to == mx x y) _ (h.sp.keep HB3) (fun s W hs hb => span1_calls s x y _ _ W ((HId.below' hb).cell 0) ((HJd.below' hb).cell 0))).mono ?_
    rintro e w4 ⟨rfl, hb⟩
    rw [HX.out]
    have HT4 := HT.below' hb
    have HR4 := HR.below' hb
    have HB4 := bThen HB3 hb
    obtain ⟨t0, t1, t2, t3, t4, t5, t6, t7, t8, t9, t10, t11, t12, t13⟩ := tcells HT4
    have y0 := HR4.free 0
    have z0 := HR4.cell 0
    have y1 := HR4.free 1
    have z1 := HR4.cell 1
    have y2 := HR4.free 2
    have z2 := HR4.cell 2
    have y3 := HR4.free 3
    have z3 := HR4.cell 3
    have y4 := HR4.free 4
    have z4 := HR4.cell 4
    simp at z0 z1 z2 z3 z4
    have ltr := HR4.lt
    obtain ⟨b, off, hA, c0, c1, c2, c3, c4⟩ := elem5 h.sp HB4 i hi
    subst hA
    go_wp2_with fail
    refine bodyPost_ret (v := .tuple #[.agg #[.int .i64 t.sp[i].frm, .int .i64 t.sp[i].to, .int .i64 t.sp[i].single, .int .i64 t.sp[i].daily, .int .i64 t.sp[i].weekly], .bool true]) (by simp [results, Try.results32, go_sem, z0, z1, z2, z3, z4]) rfl ⟨by rw [spFind, HF.out]; rfl, by (repeat (first | (with_reducible exact HB4) | (with_reducible refine bAlloc ?_ _) | (with_reducible refine bDrewN ?_ _) | (with_reducible refine bDrew ?_) | (with_reducible refine bSet ?_ (by first | exact Nat.le_refl _ | (simp; omega) | omega) _) | (with_reducible refine bThen ?_ (by with_reducible assumption))))⟩
  · have HX := Lib.hid hx
    have HF := Lib.hid hfd
    clear hx hfd
    go_enter Try.func32, Try.ntmps32
    go_wp2_with fail
    generalize ((((w.alloc (.cells (t.cells ⟨a1, mc1, a2, mc2, a3, mc3⟩) 27)).alloc (.cells #[.int .i64 x] 3)).alloc (.cells #[.int .i64 y] 3)).alloc (.cells #[.int .i64 0, .int .i64 0, .int .i64 0, .int .i64 0, .int .i64 0] 39)) = w3 at *
    refine (index_span _ _ _ _ _ (fun s => s.frm == mn x y && s.to == mx x y) _ (h.sp.keep HB3) (fun s W hs hb => span1_calls s x y _ _ W ((HId.below' hb).cell 0) ((HJd.below' hb).cell 0))).mono ?_
    rintro e w4 ⟨rfl, hb⟩
    rw [HX.out]
    have HT4 := HT.below' hb
    have HR4 := HR.below' hb
    have HB4 := bThen HB3 hb
    obtain ⟨t0, t1, t2, t3, t4, t5, t6, t7, t8, t9, t10, t11, t12, t13⟩ := tcells HT4
    have y0 := HR4.free 0
    have z0 := HR4.cell 0
    have y1 := HR4.free 1
    have z1 := HR4.cell 1
    have y2 := HR4.free 2
    have z2 := HR4.cell 2
    have y3 := HR4.free 3
    have z3 := HR4.cell 3
    have y4 := HR4.free 4
    have z4 := HR4.cell 4
    simp at z0 z1 z2 z3 z4
    have ltr := HR4.lt
    go_wp2_with fail
    refine bodyPost_ret (v := .tuple #[.agg #[.int .i64 0, .int .i64 0, .int .i64 0, .int .i64 0, .int .i64 0], .bool false]) (by simp [results, Try.results32, go_sem, z0, z1, z2, z3, z4]) rfl ⟨by rw [spFind, HF.out]; rfl, by (repeat (first | (with_reducible exact HB4) | (with_reducible refine bAlloc ?_ _) | (with_reducible refine bDrewN ?_ _) | (with_reducible refine bDrew ?_) | (with_reducible refine bSet ?_ (by first | exact Nat.le_refl _ | (simp; omega) | omega) _) | (with_reducible refine bThen ?_ (by with_reducible assumption))))⟩

end Go.Proofs.Ytmeogadkbbeglaa

namespace Go.Proofs.Ytmeogadkbbeglaa
open Go.RowKit
set_option maxHeartbeats 800000

theorem span_none (t : Tariff) (m : TMem) (x y : Int) (w : World) (h : t.At w m) (hf : spFind t.sp x y = none) :
    Calls Try.prog 32 #[.agg (t.cells m), .int .i64 x, .int .i64 y] w fun e w' => e = .returned (.tuple #[.agg #[.int .i64 0, .int .i64 0, .int .i64 0, .int .i64 0, .int .i64 0], .bool false]) ∧ Below w.heap.size w w' := by
  have := span_calls t m x y w h
  rw [hf] at this
  exact this
theorem span_some (t : Tariff) (m : TMem) (x y : Int) (s : Span) (w : World) (h : t.At w m) (hf : spFind t.sp x y = some s) :
    Calls Try.prog 32 #[.agg (t.cells m), .int .i64 x, .int .i64 y] w fun e w' => e = .returned (.tuple #[.agg #[.int .i64 s.frm, .int .i64 s.to, .int .i64 s.single, .int .i64 s.daily, .int .i64 s.weekly], .bool true]) ∧ Below w.heap.size w w' := by
  have := span_calls t m x y w h
  rw [hf] at this
  exact this

theorem single_calls (t : Tariff) (m : TMem) (x y : Int) (peak : Bool) (w : World) (h : t.At w m) :
    Calls Try.prog 33 #[.agg (t.cells m), .int .i64 x, .int .i64 y, .bool peak] w fun e w' => e = .returned (.tuple #[.int .i64 (singleF t x y peak).1, .int .i64 (singleF t x y peak).2]) ∧ Below w.heap.size w w' := by
  have HB := Below.refl w.heap.size w
  have HT := Box.new w (t.cells m) 27
  have hoff := h.off
  cases hf : spFind t.sp x y with
  | none =>
    have e : singleF t x y peak = (0, 1) := by simp [singleF, hf]
    rw [e]
    go_enter Try.func33, Try.ntmps33
    go_wp2_with fail
    go_at_call 32
    refine (span_none _ _ _ _ _ (h.keep (by (repeat (first | (with_reducible exact HB) | (with_reducible refine bAlloc ?_ _) | (with_reducible refine bDrewN ?_ _) | (with_reducible refine bDrew ?_) | (with_reducible refine bSet ?_ (by first | exact Nat.le_refl _ | (simp; omega) | omega) _) | (with_reducible refine bThen ?_ (by with_reducible assumption)))))) hf).mono ?_
    rintro e w2 ⟨rfl, hb⟩
    have HB2 : Below w.heap.size w w2 := bThen (by (repeat (first | (with_reducible exact HB) | (with_reducible refine bAlloc ?_ _) | (with_reducible refine bDrewN ?_ _) | (with_reducible refine bDrew ?_) | (with_reducible refine bSet ?_ (by first | exact Nat.le_refl _ | (simp; omega) | omega) _) | (with_reducible refine bThen ?_ (by with_reducible assumption))))) hb
    obtain ⟨t0, t1, t2, t3, t4, t5, t6, t7, t8, t9, t10, t11, t12, t13⟩ := tcells (HT.below' hb)
    have lt0 := (HT.below' hb).lt
    go_wp2_with fail
    go_ret2
    exact ⟨rfl, by (repeat (first | (with_reducible exact HB2) | (with_reducible refine bAlloc ?_ _) | (with_reducible refine bDrewN ?_ _) | (with_reducible refine bDrew ?_) | (with_reducible refine bSet ?_ (by first | exact Nat.le_refl _ | (simp; omega) | omega) _) | (with_reducible refine bThen ?_ (by with_reducible assumption))))⟩
  | some s =>
    cases hp : priceB s.single
    · have e : singleF t x y peak = (0, 50) := by simp [singleF, hf, hp]
      rw [e]
      go_enter Try.func33, Try.ntmps33
      go_wp2_with fail
      go_at_call 32
      refine (span_some _ _ _ _ _ _ (h.keep (by (repeat (first | (with_reducible exact HB) | (with_reducible refine bAlloc ?_ _) | (with_reducible refine bDrewN ?_ _) | (with_reducible refine bDrew ?_) | (with_reducible refine bSet ?_ (by first | exact Nat.le_refl _ | (simp; omega) | omega) _) | (with_reducible refine bThen ?_ (by with_reducible assumption)))))) hf).mono ?_
      rintro e w2 ⟨rfl, hb⟩
      have HB2 : Below w.heap.size w w2 := bThen (by (repeat (first | (with_reducible exact HB) | (with_reducible refine bAlloc ?_ _) | (with_reducible refine bDrewN ?_ _) | (with_reducible refine bDrew ?_) | (with_reducible refine bSet ?_ (by first | exact Nat.le_refl _ | (simp; omega) | omega) _) | (with_reducible refine bThen ?_ (by with_reducible assumption))))) hb
      obtain ⟨t0, t1, t2, t3, t4, t5, t6, t7, t8, t9, t10, t11, t12, t13⟩ := tcells (HT.below' hb)
      have lt0 := (HT.below' hb).lt
      go_wp2_with (go_at_call 75; (with_reducible refine (price_calls _ _).mono ?_); rintro e w' ⟨rfl, rfl⟩)
      go_ret2
      exact ⟨rfl, by (repeat (first | (with_reducible exact HB2) | (with_reducible refine bAlloc ?_ _) | (with_reducible refine bDrewN ?_ _) | (with_reducible refine bDrew ?_) | (with_reducible refine bSet ?_ (by first | exact Nat.le_refl _ | (simp; omega) | omega) _) | (with_reducible refine bThen ?_ (by with_reducible assumption))))⟩
    · cases peak
      · have e : singleF t x y false = scaleF s.single t.off := by simp [singleF, hf, hp]
        rw [e]
        go_enter Try.func33, Try.ntmps33
        go_wp2_with fail
        go_at_call 32
        refine (span_some _ _ _ _ _ _ (h.keep (by (repeat (first | (with_reducible exact HB) | (with_reducible refine bAlloc ?_ _) | (with_reducible refine bDrewN ?_ _) | (with_reducible refine bDrew ?_) | (with_reducible refine bSet ?_ (by first | exact Nat.le_refl _ | (simp; omega) | omega) _) | (with_reducible refine bThen ?_ (by with_reducible assumption)))))) hf).mono ?_
        rintro e w2 ⟨rfl, hb⟩
        have HB2 : Below w.heap.size w w2 := bThen (by (repeat (first | (with_reducible exact HB) | (with_reducible refine bAlloc ?_ _) | (with_reducible refine bDrewN ?_ _) | (with_reducible refine bDrew ?_) | (with_reducible refine bSet ?_ (by first | exact Nat.le_refl _ | (simp; omega) | omega) _) | (with_reducible refine bThen ?_ (by with_reducible assumption))))) hb
        obtain ⟨t0, t1, t2, t3, t4, t5, t6, t7, t8, t9, t10, t11, t12, t13⟩ := tcells (HT.below' hb)
        have lt0 := (HT.below' hb).lt
        go_wp2_with (first | (go_at_call 75; (with_reducible refine (price_calls _ _).mono ?_); rintro e w' ⟨rfl, rfl⟩) | (go_at_call 89; (with_reducible refine (scale_calls _ _ hoff _).mono ?_); rintro e w4 ⟨rfl, hb4⟩))
        go_ret2
        exact ⟨rfl, bThen (by (repeat (first | (with_reducible exact HB2) | (with_reducible refine bAlloc ?_ _) | (with_reducible refine bDrewN ?_ _) | (with_reducible refine bDrew ?_) | (with_reducible refine bSet ?_ (by first | exact Nat.le_refl _ | (simp; omega) | omega) _) | (with_reducible refine bThen ?_ (by with_reducible assumption))))) hb4⟩
      · have e : singleF t x y true = (s.single, 0) := by simp [singleF, hf, hp]
        rw [e]
        go_enter Try.func33, Try.ntmps33
        go_wp2_with fail
        go_at_call 32
        refine (span_some _ _ _ _ _ _ (h.keep (by (repeat (first | (with_reducible exact HB) | (with_reducible refine bAlloc ?_ _) | (with_reducible refine bDrewN ?_ _) | (with_reducible refine bDrew ?_) | (with_reducible refine bSet ?_ (by first | exact Nat.le_refl _ | (simp; omega) | omega) _) | (with_reducible refine bThen ?_ (by with_reducible assumption)))))) hf).mono ?_
        rintro e w2 ⟨rfl, hb⟩
        have HB2 : Below w.heap.size w w2 := bThen (by (repeat (first | (with_reducible exact HB) | (with_reducible refine bAlloc ?_ _) | (with_reducible refine bDrewN ?_ _) | (with_reducible refine bDrew ?_) | (with_reducible refine bSet ?_ (by first | exact Nat.le_refl _ | (simp; omega) | omega) _) | (with_reducible refine bThen ?_ (by with_reducible assumption))))) hb
        obtain ⟨t0, t1, t2, t3, t4, t5, t6, t7, t8, t9, t10, t11, t12, t13⟩ := tcells (HT.below' hb)
        have lt0 := (HT.below' hb).lt
        go_wp2_with (go_at_call 75; (with_reducible refine (price_calls _ _).mono ?_); rintro e w' ⟨rfl, rfl⟩)
        go_ret2
        exact ⟨rfl, by (repeat (first | (with_reducible exact HB2) | (with_reducible refine bAlloc ?_ _) | (with_reducible refine bDrewN ?_ _) | (with_reducible refine bDrew ?_) | (with_reducible refine bSet ?_ (by first | exact Nat.le_refl _ | (simp; omega) | omega) _) | (with_reducible refine bThen ?_ (by with_reducible assumption))))⟩

end Go.Proofs.Ytmeogadkbbeglaa

namespace Go.Proofs.Ytmeogadkbbeglaa
open Go.RowKit

theorem flat_get {α : Type} (vals : α → List Value) (sz : Nat) (hs : ∀ x, (vals x).length = sz) : ∀ (xs : List α) (i : Nat) (x : α), xs[i]? = some x → ∀ j v, (vals x)[j]? = some v → (xs.flatMap vals)[i * sz + j]? = some v
  | [], i, x, h, _, _, _ => by simp at h
  | y :: ys, 0, x, h, j, v, hj => by
    simp at h
    subst h
    have hl : j < (vals y).length := by
      rcases Nat.lt_or_ge j (vals y).length with h | h
      · exact h
      · rw [List.getElem?_eq_none h] at hj; cases hj
    rw [List.flatMap_cons, Nat.zero_mul, Nat.zero_add, List.getElem?_append_left hl, hj]
  | y :: ys, i + 1, x, h, j, v, hj => by
    rw [List.getElem?_cons_succ] at h
    have := flat_get vals sz hs ys i x h j v hj
    rw [List.flatMap_cons, List.getElem?_append_right (by rw [hs, Nat.succ_mul]; omega), hs]
    rw [show (i + 1) * sz + j - sz = i * sz + j from by rw [Nat.succ_mul]; omega]
    exact this

/-- A block that holds just a list's elements, one behind another. -/
theorem sliceAt_box {α : Type} {w : World} {b : Nat} {cs : Array Value} {T : TypeId} {sz : Nat} {vals : α → List Value} {xs : List α} (hX : Box w b cs T) (hs : ∀ x, (vals x).length = sz) (hl : xs.length ≤ 140737488351232) (hc : ∀ (k : Nat) (v : Value), (xs.flatMap vals)[k]? = some v → cs[k]? = some v) : SliceAt w sz vals (some ⟨b, 0, none⟩) xs :=
  ⟨hl, fun i x hx => ⟨b, 0, rfl, fun j v hv => by
    rw [hX.cell, Nat.zero_add]
    exact hc _ _ (flat_get vals sz hs xs i x hx j v hv)⟩⟩

theorem sliceAt_nil {α : Type} (w : World) (sz : Nat) (vals : α → List Value) (A : Option Addr) : SliceAt w sz vals A ([] : List α) :=
  ⟨by simp, fun i x hx => by simp at hx⟩

end Go.Proofs.Ytmeogadkbbeglaa

namespace Go.Proofs.Ytmeogadkbbeglaa
open Go.RowKit
set_option maxHeartbeats 800000

/-- a tariff that was made, or came in -/
def IsT (t : Tariff) (w : World) (e : Ending) (w' : World) : Prop := ∃ m : TMem, e = .returned (.agg (t.cells m)) ∧ t.At w' m ∧ Below w.heap.size w w'

theorem plain_calls (w : World) : Calls Try.prog 70 #[] w (IsT plainT w) := by
  have HB := Below.refl w.heap.size w
  go_enter Try.func70, Try.ntmps70
  go_wp2_with fail
  refine bodyPost_ret (v := .agg (plainT.cells ⟨some ⟨w.heap.size + 1, 0, none⟩, 2, some ⟨w.heap.size + 1 + 1, 0, none⟩, 3, none, 0⟩)) (by simp [results, Try.results70, go_sem]; simp [plainT]) rfl ?_
  refine ⟨_, rfl, ⟨?_, ?_, sliceAt_nil _ _ _ _, by simp [plainT]⟩, by (repeat (first | (with_reducible exact HB) | (with_reducible refine bAlloc ?_ _) | (with_reducible refine bDrewN ?_ _) | (with_reducible refine bDrew ?_) | (with_reducible refine bSet ?_ (by first | exact Nat.le_refl _ | (simp; omega) | omega) _) | (with_reducible refine bThen ?_ (by with_reducible assumption))))⟩
  · exact sliceAt_box ((Box.new' (by simp) _ _).alloc _) (fun _ => rfl) (by simp [plainT]) (fun k v hk => by simpa [plainT, Station.vals] using hk)
  · exact sliceAt_box (Box.new' (by simp) _ _) (fun _ => rfl) (by simp [plainT]) (fun k v hk => by simpa [plainT, Span.vals] using hk)

def plainT0 : Tariff := { plainT with longest := 0 }
theorem plain_right : rightF plainT = 0 := by decide +kernel
theorem plain_right0 : rightF plainT0 = 70 := by decide +kernel
theorem plain_st : stFind plainT.st 2 = some ⟨2, 2, 7⟩ := by decide +kernel
theorem plain_single : singleF plainT 2 1 false = (150, 0) := by decide +kernel

theorem station_some (t : Tariff) (m : TMem) (id : Int) (s : Station) (w : World) (h : t.At w m) (hf : stFind t.st id = some s) :
    Calls Try.prog 31 #[.agg (t.cells m), .int .i64 id] w fun e w' => e = .returned (.tuple #[.agg #[.int .i64 s.id, .int .i64 s.zone, .int .i64 s.grp], .bool true]) ∧ Below w.heap.size w w' := by
  have := station_calls t m id w h
  rw [hf] at this
  exact this
theorem station_none (t : Tariff) (m : TMem) (id : Int) (w : World) (h : t.At w m) (hf : stFind t.st id = none) :
    Calls Try.prog 31 #[.agg (t.cells m), .int .i64 id] w fun e w' => e = .returned (.tuple #[.agg #[.int .i64 0, .int .i64 0, .int .i64 0], .bool false]) ∧ Below w.heap.size w w' := by
  have := station_calls t m id w h
  rw [hf] at this
  exact this

end Go.Proofs.Ytmeogadkbbeglaa

namespace Go.Proofs.Ytmeogadkbbeglaa
open Go.RowKit
set_option maxHeartbeats 1600000

theorem awake07_calls (w : World) : Calls Try.prog 26 #[] w fun e w' => e = .returned (.bool true) ∧ Below w.heap.size w w' := by
  have HB := Below.refl w.heap.size w
  go_enter Try.func26, Try.ntmps26
  go_wp2_with fail
  refine (plain_calls _).mono ?_
  rintro e w1 ⟨m, rfl, hT, hB1⟩
  go_wp2_with fail
  have HX := Box.new w1 (plainT.cells m) 27
  have hT2 := hT.keep (bAlloc (Below.refl _ _) (.cells (plainT.cells m) 27))
  have hB2 := bAlloc hB1 (.cells (plainT.cells m) 27)
  have hge : w.heap.size ≤ w1.heap.size := hB1.size
  have hK := bAlloc (Below.refl w1.heap.size w1) (.cells (plainT.cells m) 27)
  generalize hbx : w1.heap.size = bx at *
  have HBX := Lib.hid hbx
  clear hbx
  generalize w1.alloc (.cells (plainT.cells m) 27) = w2 at *
  refine (right_calls plainT m w2 hT2).mono ?_
  rintro e w3 ⟨rfl, hb⟩
  rw [plain_right]
  replace hK := hK.trans (hb.mono (Nat.le_of_lt HX.lt))
  replace HX := HX.below' hb
  replace hB2 := bThen hB2 hb
  replace hT2 := hT2.keep hb
  clear hb
  obtain ⟨t0, t1, t2, t3, t4, t5, t6, t7, t8, t9, t10, t11, t12, t13⟩ := tcells HX
  have lt0 := HX.lt
  go_wp2_with fail
  refine (station_some plainT m 2 _ w3 hT2 plain_st).mono ?_
  rintro e w4 ⟨rfl, hb⟩
  replace hK := hK.trans (hb.mono (Nat.le_of_lt HX.lt))
  replace HX := HX.below' hb
  replace hB2 := bThen hB2 hb
  replace hT2 := hT2.keep hb
  clear hb lt0
  clear t0 t1 t2 t3 t4 t5 t6 t7 t8 t9 t10 t11 t12 t13
  obtain ⟨t0, t1, t2, t3, t4, t5, t6, t7, t8, t9, t10, t11, t12, t13⟩ := tcells HX
  have lt0 := HX.lt
  go_wp2_with fail
  have HS := Box.new w4 #[.int .i64 2, .int .i64 2, .int .i64 7] 35
  replace hK := hK.alloc (Nat.le_of_lt HX.lt) (.cells #[.int .i64 2, .int .i64 2, .int .i64 7] 35)
  replace HX := HX.alloc (.cells #[.int .i64 2, .int .i64 2, .int .i64 7] 35)
  have hB3 := bAlloc hB2 (.cells #[.int .i64 2, .int .i64 2, .int .i64 7] 35)
  have hT3 := hT2.keep (bAlloc (Below.refl _ _) (.cells #[.int .i64 2, .int .i64 2, .int .i64 7] 35))
  have hne : bx < w4.heap.size := lt0
  generalize hbs : w4.heap.size = bs at *
  have HBS := Lib.hid hbs
  clear hbs
  generalize w4.alloc (.cells #[.int .i64 2, .int .i64 2, .int .i64 7] 35) = w5 at *
  refine (single_calls plainT m 2 1 false w5 hT3).mono ?_
  rintro e w6 ⟨rfl, hb⟩
  rw [plain_single]
  replace hK := hK.trans (hb.mono (Nat.le_of_lt HX.lt))
  replace HX := HX.below' hb
  replace HS := HS.below' hb
  replace hB3 := bThen hB3 hb
  replace hT3 := hT3.keep hb
  clear hb lt0 hT2 hB2
  clear t0 t1 t2 t3 t4 t5 t6 t7 t8 t9 t10 t11 t12 t13
  obtain ⟨t0, t1, t2, t3, t4, t5, t6, t7, t8, t9, t10, t11, t12, t13⟩ := tcells HX
  have lt0 := HX.lt
  have ltS := HS.lt
  have y9 := HX.free 9
  go_wp2_with fail
  have HX' : Box (w6.setCell ⟨bx, 9, none⟩ (.int .i64 0)) bx (plainT0.cells m) 27 := (HX.set 9 (.int .i64 0)).cast (by simp [Tariff.cells, plainT0])
  have HS' := HS.other ⟨bx, 9, none⟩ (by show bs ≠ bx; omega) (.int .i64 0)
  have hB4 := bSet hB3 (p := ⟨bx, 9, none⟩) (by show w.heap.size ≤ bx; omega) (.int .i64 0)
  have hK' := hK.setCell (p := ⟨bx, 9, none⟩) (Nat.le_refl _) (.int .i64 0)
  have hT4 : plainT0.At (w6.setCell ⟨bx, 9, none⟩ (.int .i64 0)) m := by
    have hk : Below w1.heap.size w1 (w6.setCell ⟨bx, 9, none⟩ (.int .i64 0)) := by rw [HBX.out]; exact hK'
    exact ⟨hT.st.keep hk, hT.sp.keep hk, hT.pk.keep hk, hT.off⟩
  clear hK hK' hB3 hT3 HS HX
  refine (right_calls plainT0 m _ hT4).mono ?_
  rintro e w7 ⟨rfl, hb⟩
  rw [plain_right0]
  replace HS' := HS'.below' hb
  replace hB4 := bThen hB4 hb
  clear hb lt0 hT4 HX' ltS y9 hT
  clear t0 t1 t2 t3 t4 t5 t6 t7 t8 t9 t10 t11 t12 t13
  have s2 := HS'.cell 2
  simp at s2
  go_wp2_with fail
  go_ret
  exact ⟨rfl, by (repeat (first | (with_reducible exact hB4) | (with_reducible refine bAlloc ?_ _) | (with_reducible refine bDrewN ?_ _) | (with_reducible refine bDrew ?_) | (with_reducible refine bSet ?_ (by first | exact Nat.le_refl _ | (simp; omega) | omega) _) | (with_reducible refine bThen ?_ (by with_reducible assumption))))⟩

end Go.Proofs.Ytmeogadkbbeglaa

namespace Go.Proofs.Ytmeogadkbbeglaa

theorem mn_comm (a b : Int) : mn a b = mn b a := by unfold mn; split <;> split <;> omega
theorem mx_comm (a b : Int) : mx a b = mx b a := by unfold mx; split <;> split <;> omega
theorem spFind_comm (l : List Span) (a b : Int) : spFind l a b = spFind l b a := by unfold spFind; rw [mn_comm a b, mx_comm a b]
theorem single_comm (t : Tariff) (a b : Int) (p : Bool) : singleF t a b p = singleF t b a p := by unfold singleF; rw [spFind_comm]

/-- what Right's OK says -/
theorem right_ok {t : Tariff} (h : rightF t = 0) : R6 t ∧ minsB t = true := by
  have r0 : R0 t := by
    cases hst : stationsF t.st with
    | none => simp [rightF, hst] at h
    | some m =>
      cases hsp : spansF t.sp m with
      | false => simp [rightF, hst, hsp] at h
      | true => exact ⟨m, hst, hsp⟩
  have r1 : R1 t := by
    cases hp : pricesB t with
    | false => have := rf_prices r0 hp; omega
    | true => exact ⟨r0, hp⟩
  have r2 : R2 t := by
    cases hp : t.sp.all spPrice with
    | false => have := rf_sp r1 hp; omega
    | true => exact ⟨r1, hp⟩
  have r3 : R3 t := by
    cases hp : t.sp.all (fun a => t.sp.all (fun b => wide1 a b)) with
    | false => have := rf_wide r2 hp; omega
    | true => exact ⟨r2, hp⟩
  have r4 : R4 t := by
    cases hp : bandsF t.pk with
    | false => have := rf_bands r3 hp; omega
    | true => exact ⟨r3, hp⟩
  have r5 : R5 t := by
    cases hp : rateOk t.off with
    | false => have := rf_rate r4 hp; omega
    | true => exact ⟨r4, hp⟩
  have r6 : R6 t := by
    cases hp : inB 1 t.longest 1440 with
    | false => have := rf_long r5 hp; omega
    | true => exact ⟨r5, hp⟩
  cases hp : minsB t with
  | false => have := rf_mins r6 hp; omega
  | true => exact ⟨r6, rfl⟩
theorem ok_price {t : Tariff} (h : rightF t = 0) {s : Span} (hs : s ∈ t.sp) : priceB s.single = true ∧ priceB s.daily = true ∧ priceB s.weekly = true := by
  have := (right_ok h).1.1.1.1.1.2
  rw [List.all_eq_true] at this
  have := this s hs
  simp [spPrice] at this
  exact ⟨this.1.1, this.1.2, this.2⟩
theorem ok_rate {t : Tariff} (h : rightF t = 0) : rateOk t.off = true := (right_ok h).1.1.2
theorem ok_wide {t : Tariff} (h : rightF t = 0) {a b : Span} (ha : a ∈ t.sp) (hb : b ∈ t.sp) (hf : b.frm ≤ a.frm) (ht : a.to ≤ b.to) : a.single ≤ b.single ∧ a.daily ≤ b.daily ∧ a.weekly ≤ b.weekly := by
  have := (right_ok h).1.1.1.1.2
  rw [List.all_eq_true] at this
  have := this a ha
  rw [List.all_eq_true] at this
  have := this b hb
  simp [wide1, spWithin, spLe] at this
  rcases this with h1 | h1
  · omega
  · exact h1
theorem find_mem {l : List Span} {a b : Int} {s : Span} (h : spFind l a b = some s) : s ∈ l ∧ s.frm = mn a b ∧ s.to = mx a b := by
  unfold spFind at h
  have h1 := List.mem_of_find?_eq_some h
  have h2 := List.find?_some h
  simp at h2
  exact ⟨h1, h2.1, h2.2⟩

theorem frac_le {b : Nat} (h : rateOk b = true) : fracF b ≤ 2 ^ byF b := by
  have hb : b ≤ 4607182418800017408 := by simpa [rateOk] using h
  unfold fracF byF
  split
  · have h52 : ∀ k, 52 ≤ k → (2 : Nat) ^ 52 ≤ 2 ^ k := fun k hk => Nat.pow_le_pow_right (by decide) hk
    have := h52 1074 (by decide)
    generalize (2 : Nat) ^ 1074 = q at *
    clear h52
    have e : (2 : Nat) ^ 52 = 4503599627370496 := by decide
    have := Nat.mod_lt b (show 0 < 4503599627370496 by decide)
    omega
  · by_cases hx : b / 4503599627370496 = 1023
    · rw [hx]
      have e : (2 : Nat) ^ (1075 - 1023) = 4503599627370496 := by decide
      rw [e]; omega
    · have : (2 : Nat) ^ 53 ≤ 2 ^ (1075 - b / 4503599627370496) := Nat.pow_le_pow_right (by decide) (by omega)
      have e : (2 : Nat) ^ 53 = 9007199254740992 := by decide
      have := Nat.mod_lt b (show 0 < 4503599627370496 by decide)
      omega
theorem scaleV_le {n b : Nat} (h : rateOk b = true) : scaleV n b ≤ n := by
  unfold scaleV
  have hf := frac_le h
  have hy : 52 ≤ byF b := by
    have hb : b ≤ 4607182418800017408 := by simpa [rateOk] using h
    unfold byF; split <;> omega
  have h2 : 2 ^ byF b = 2 ^ (byF b - 1) * 2 := by rw [← Nat.pow_succ]; congr 1; omega
  have h3 : n * fracF b ≤ n * (2 ^ (byF b - 1) * 2) := Nat.mul_le_mul_left _ (by omega)
  have h4 : n * fracF b / 2 ^ (byF b - 1) ≤ n * 2 := by
    have : n * (2 ^ (byF b - 1) * 2) / 2 ^ (byF b - 1) = n * 2 := by
      rw [Nat.mul_comm (2 ^ (byF b - 1)), ← Nat.mul_assoc, Nat.mul_div_cancel _ (Nat.two_pow_pos _)]
    rw [← this]
    exact Nat.div_le_div_right h3
  omega
theorem scaleV_mono {n m b : Nat} (h : n ≤ m) : scaleV n b ≤ scaleV m b := by
  unfold scaleV
  have h1 : n * fracF b / 2 ^ (byF b - 1) ≤ m * fracF b / 2 ^ (byF b - 1) := Nat.div_le_div_right (Nat.mul_le_mul_right _ h)
  omega

theorem scaleF_ok {n : Int} {b : Nat} (hn : priceB n = true) (h : rateOk b = true) : scaleF n b = (((scaleV n.toNat b : Nat) : Int), (0 : Int)) := by
  have h1 : 0 ≤ n ∧ n ≤ 1048576 := by simpa [priceB, inB] using hn
  have h2 : inB 0 n 9007199254740992 = true := by simp [inB]; omega
  simp [scaleF, h2, h]

/-- fares of spans, where the tariff may be -/
theorem single_none {t : Tariff} {a b : Int} {p : Bool} (h : spFind t.sp a b = none) : singleF t a b p = (0, 1) := by simp [singleF, h]
theorem single_peak {t : Tariff} {a b : Int} {s : Span} (h : rightF t = 0) (hf : spFind t.sp a b = some s) : singleF t a b true = (s.single, 0) := by
  simp [singleF, hf, (ok_price h (find_mem hf).1).1]
theorem single_off {t : Tariff} {a b : Int} {s : Span} (h : rightF t = 0) (hf : spFind t.sp a b = some s) : singleF t a b false = (((scaleV s.single.toNat t.off : Nat) : Int), (0 : Int)) := by
  simp only [singleF, hf, (ok_price h (find_mem hf).1).1]
  simp [scaleF_ok (ok_price h (find_mem hf).1).1 (ok_rate h)]
theorem off_le {t : Tariff} {a b : Int} {s : Span} (h : rightF t = 0) (hf : spFind t.sp a b = some s) : ((scaleV s.single.toNat t.off : Nat) : Int) ≤ s.single := by
  have h1 : 0 ≤ s.single ∧ s.single ≤ 1048576 := by simpa [priceB, inB] using (ok_price h (find_mem hf).1).1
  have := scaleV_le (n := s.single.toNat) (ok_rate h)
  omega

end Go.Proofs.Ytmeogadkbbeglaa
