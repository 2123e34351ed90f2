/- The walk of the tariff law's Kept: what was lent is as it was; then it is written over. PRINTED by kept.py. -/
import Derived.Test.YtmeogadkbbeglaaH4
import Derived.Test.YtmeogadkbbeglaaLentW
namespace Go.Proofs.Ytmeogadkbbeglaa
open Go.RowKit
set_option maxHeartbeats 3200000
set_option maxRecDepth 100000

theorem mark_at {w : World} {g : Nat} {cur : Array Value} {T : TypeId} (h : Box w g cur T) {F mk : List Value} (hc : cur.toList = F ++ mk) {k : Nat} (hk : F.length = k) {v : Value} (hv : mk[0]? = some v) : w.cell? ⟨g, k, none⟩ = some v := by
  rw [h.cell, ← Array.getElem?_toList, hc, List.getElem?_append_right (by omega), hk, Nat.sub_self]; exact hv
theorem cell_some {w : World} {g : Nat} {cur : Array Value} {T : TypeId} (h : Box w g cur T) {k : Nat} (hk : k < cur.size) : w.cell? ⟨g, k, none⟩ = some cur[k] := by
  rw [h.cell, Array.getElem?_eq_getElem hk]

/-- All of w's blocks, but the three lent ones, are as they were. -/
structure But (B g1 g2 g3 : Nat) (w w' : World) : Prop where
  below : Below B w w'
  block : ∀ k, k < w.heap.size → k ≠ g1 → k ≠ g2 → k ≠ g3 → w'.heap[k]? = w.heap[k]?
theorem But.set {B g1 g2 g3 : Nat} {w W : World} (h : But B g1 g2 g3 w W) {p : Addr} (hp : p.block = g1 ∨ p.block = g2 ∨ p.block = g3) (hB : B ≤ p.block) (u : Value) : But B g1 g2 g3 w (W.setCell p u) :=
  ⟨bSet h.below hB u, fun k hk h1 h2 h3 => (Below.heap_setCell W p u k (by omega)).trans (h.block k hk h1 h2 h3)⟩
theorem Box.but {B g1 g2 g3 : Nat} {w w' : World} {b : Nat} {cs : Array Value} {T : TypeId} (h : Box w b cs T) (hb : But B g1 g2 g3 w w') (h1 : b ≠ g1) (h2 : b ≠ g2) (h3 : b ≠ g3) : Box w' b cs T :=
  (hb.block b h.lt h1 h2 h3).trans h
theorem Tariff.Lent.lts {w : World} {t : Tariff} {m : TMem} {B g1 g2 g3 : Nat} (h : Tariff.Lent w t m B g1 g2 g3) : g1 < w.heap.size ∧ g2 < w.heap.size ∧ g3 < w.heap.size :=
  ⟨let ⟨_, x, _⟩ := h.b1; x.lt, let ⟨_, x, _⟩ := h.b2; x.lt, let ⟨_, x, _⟩ := h.b3; x.lt⟩

theorem kept_calls (t : Tariff) (m n : TMem) (w : World) (B g1 g2 g3 : Nat) (hL : Tariff.Lent w t m B g1 g2 g3) (h1 : t.At w m) (h2 : t.At w n) (hBw : B ≤ w.heap.size) :
    Calls Try.prog 29 #[.agg (t.cells m), .agg (t.cells n)] w fun e w' => e = .returned (.bool true) ∧ But B g1 g2 g3 w w' := by
  have HX := (Box.new w (t.cells m) 27).alloc (.cells (t.cells n) 27)
  have hB := bAlloc (bAlloc (Below.refl w.heap.size w) (.cells (t.cells m) 27)) (.cells (t.cells n) 27)
  replace h1 := h1.keep hB
  replace h2 := h2.keep hB
  replace hL := hL.keep hB
  have hst := h1.st.1
  have hsp := h1.sp.1
  have hpk := h1.pk.1
  go_enter Try.func29, Try.ntmps29
  go_wp2_with fail
  generalize (w.alloc (.cells (t.cells m) 27)).alloc _ = w2 at *
  refine (same_calls t m n _ h1 h2).mono ?_
  rintro _ wq ⟨rfl, hb⟩
  replace HX := HX.below' hb
  replace hL := hL.keep hb
  have hBq : But B g1 g2 g3 w wq := ⟨(bThen hB hb).mono hBw, fun k hk _ _ _ => (bThen hB hb).block k hk⟩
  clear h1 h2 hB hb
  obtain ⟨hm, ⟨cur1, b1, e1⟩, ⟨cur2, b2, e2⟩, ⟨cur3, b3, e3⟩, l1, l2, l3⟩ := hL
  subst hm
  obtain ⟨t0, t1, t2, t3, t4, t5, t6, t7, t8, t9, t10, t11, t12, t13⟩ := tcells HX
  simp only at t0 t1 t2
  have f1 := flat_len Station.vals 3 (fun _ => rfl) t.st
  have f2 := flat_len Span.vals 5 (fun _ => rfl) t.sp
  have f3 := flat_len Band.vals 2 (fun _ => rfl) t.pk
  have m1 := mark_at b1 e1 f1 rfl
  have m2 := mark_at b2 e2 f2 rfl
  have m3 := mark_at b3 e3 f3 rfl
  have z1 : cur1.size = (t.st.length + 1) * 3 := by rw [← Array.length_toList, e1, List.length_append, f1]; simp; omega
  have z2 : cur2.size = (t.sp.length + 1) * 5 := by rw [← Array.length_toList, e2, List.length_append, f2]; simp; omega
  have z3 : cur3.size = (t.pk.length + 1) * 2 := by rw [← Array.length_toList, e3, List.length_append, f3]; simp; omega
  have B1 : ∃ c, Box wq g1 c 35 ∧ c.size = (t.st.length + 1) * 3 := ⟨_, b1, z1⟩
  have B2 : ∃ c, Box wq g2 c 39 ∧ c.size = (t.sp.length + 1) * 5 := ⟨_, b2, z2⟩
  have B3 : ∃ c, Box wq g3 c 48 ∧ c.size = (t.pk.length + 1) * 2 := ⟨_, b3, z3⟩
  clear b1 b2 b3 e1 e2 e3 f1 f2 f3 z1 z2 z3
  go_wp2_with fail
  clear t0 t1 t2 t3 t4 t5 t6 t7 t8 t9 t10 t11 t12 t13 m1 m2 m3 HX
  go_loopw [10] (fun i wr => ∃ k : Nat, k ≤ t.st.length + 1 ∧ i = .int .i64 k ∧ (∃ c, Box wr g1 c 35 ∧ c.size = (t.st.length + 1) * 3) ∧ (∃ c, Box wr g2 c 39 ∧ c.size = (t.sp.length + 1) * 5) ∧ (∃ c, Box wr g3 c 48 ∧ c.size = (t.pk.length + 1) * 2) ∧ But B g1 g2 g3 w wr) (fun i _ => t.st.length + 1 - (intOf i).toNat)
  case atStart => exact ⟨0, by omega, rfl, B1, B2, B3, hBq⟩
  case round =>
    obtain ⟨k, hk, rfl, B1, B2, B3, hBr⟩ := hrel
    by_cases hlt : k < t.st.length + 1
    · obtain ⟨c, hc, hcs⟩ := B1
      have c0 := cell_some hc (k := k * 3) (by rw [hcs]; omega)
      have y0 := hc.free (k * 3)
      have c1 := cell_some hc (k := k * 3 + 1) (by rw [hcs]; omega)
      have y1 := hc.free (k * 3 + 1)
      have c2 := cell_some hc (k := k * 3 + 2) (by rw [hcs]; omega)
      have y2 := hc.free (k * 3 + 2)
      have lt0 := hc.lt
      go_wp2_with fail
      go_roundw
      case rel => exact ⟨k + 1, by omega, by go_num, ⟨_, (((hc).set (k * 3) (.int .i64 (-9))).set (k * 3 + 1) (.int .i64 0)).set (k * 3 + 2) (.int .i64 0), by simpa using hcs⟩, (let ⟨c, x, y⟩ := B2; ⟨c, (((x).other ⟨g1, k * 3, none⟩ (by show g2 ≠ g1; omega) (.int .i64 (-9))).other ⟨g1, k * 3 + 1, none⟩ (by show g2 ≠ g1; omega) (.int .i64 0)).other ⟨g1, k * 3 + 2, none⟩ (by show g2 ≠ g1; omega) (.int .i64 0), y⟩), (let ⟨c, x, y⟩ := B3; ⟨c, (((x).other ⟨g1, k * 3, none⟩ (by show g3 ≠ g1; omega) (.int .i64 (-9))).other ⟨g1, k * 3 + 1, none⟩ (by show g3 ≠ g1; omega) (.int .i64 0)).other ⟨g1, k * 3 + 2, none⟩ (by show g3 ≠ g1; omega) (.int .i64 0), y⟩), But.set (But.set (But.set (hBr) (p := ⟨g1, k * 3, none⟩) (by simp) (by show B ≤ g1; omega) (.int .i64 (-9))) (p := ⟨g1, k * 3 + 1, none⟩) (by simp) (by show B ≤ g1; omega) (.int .i64 0)) (p := ⟨g1, k * 3 + 2, none⟩) (by simp) (by show B ≤ g1; omega) (.int .i64 0)⟩
      case measure => simp [intOf]; omega
    · go_wp2_with fail
      clear hlt hk
      generalize wr = wu at *
      go_loopw [11] (fun i wr => ∃ k : Nat, k ≤ t.sp.length + 1 ∧ i = .int .i64 k ∧ (∃ c, Box wr g1 c 35 ∧ c.size = (t.st.length + 1) * 3) ∧ (∃ c, Box wr g2 c 39 ∧ c.size = (t.sp.length + 1) * 5) ∧ (∃ c, Box wr g3 c 48 ∧ c.size = (t.pk.length + 1) * 2) ∧ But B g1 g2 g3 w wr) (fun i _ => t.sp.length + 1 - (intOf i).toNat)
      case atStart => exact ⟨0, by omega, rfl, B1, B2, B3, hBr⟩
      case round =>
        obtain ⟨k, hk, rfl, B1, B2, B3, hBr⟩ := hrel
        by_cases hlt : k < t.sp.length + 1
        · obtain ⟨c, hc, hcs⟩ := B2
          have c0 := cell_some hc (k := k * 5) (by rw [hcs]; omega)
          have y0 := hc.free (k * 5)
          have c1 := cell_some hc (k := k * 5 + 1) (by rw [hcs]; omega)
          have y1 := hc.free (k * 5 + 1)
          have c2 := cell_some hc (k := k * 5 + 2) (by rw [hcs]; omega)
          have y2 := hc.free (k * 5 + 2)
          have c3 := cell_some hc (k := k * 5 + 3) (by rw [hcs]; omega)
          have y3 := hc.free (k * 5 + 3)
          have c4 := cell_some hc (k := k * 5 + 4) (by rw [hcs]; omega)
          have y4 := hc.free (k * 5 + 4)
          have lt0 := hc.lt
          go_wp2_with fail
          go_roundw
          case rel => exact ⟨k + 1, by omega, by go_num, (let ⟨c, x, y⟩ := B1; ⟨c, (((((x).other ⟨g2, k * 5, none⟩ (by show g1 ≠ g2; omega) (.int .i64 (-9))).other ⟨g2, k * 5 + 1, none⟩ (by show g1 ≠ g2; omega) (.int .i64 0)).other ⟨g2, k * 5 + 2, none⟩ (by show g1 ≠ g2; omega) (.int .i64 0)).other ⟨g2, k * 5 + 3, none⟩ (by show g1 ≠ g2; omega) (.int .i64 0)).other ⟨g2, k * 5 + 4, none⟩ (by show g1 ≠ g2; omega) (.int .i64 0), y⟩), ⟨_, (((((hc).set (k * 5) (.int .i64 (-9))).set (k * 5 + 1) (.int .i64 0)).set (k * 5 + 2) (.int .i64 0)).set (k * 5 + 3) (.int .i64 0)).set (k * 5 + 4) (.int .i64 0), by simpa using hcs⟩, (let ⟨c, x, y⟩ := B3; ⟨c, (((((x).other ⟨g2, k * 5, none⟩ (by show g3 ≠ g2; omega) (.int .i64 (-9))).other ⟨g2, k * 5 + 1, none⟩ (by show g3 ≠ g2; omega) (.int .i64 0)).other ⟨g2, k * 5 + 2, none⟩ (by show g3 ≠ g2; omega) (.int .i64 0)).other ⟨g2, k * 5 + 3, none⟩ (by show g3 ≠ g2; omega) (.int .i64 0)).other ⟨g2, k * 5 + 4, none⟩ (by show g3 ≠ g2; omega) (.int .i64 0), y⟩), But.set (But.set (But.set (But.set (But.set (hBr) (p := ⟨g2, k * 5, none⟩) (by simp) (by show B ≤ g2; omega) (.int .i64 (-9))) (p := ⟨g2, k * 5 + 1, none⟩) (by simp) (by show B ≤ g2; omega) (.int .i64 0)) (p := ⟨g2, k * 5 + 2, none⟩) (by simp) (by show B ≤ g2; omega) (.int .i64 0)) (p := ⟨g2, k * 5 + 3, none⟩) (by simp) (by show B ≤ g2; omega) (.int .i64 0)) (p := ⟨g2, k * 5 + 4, none⟩) (by simp) (by show B ≤ g2; omega) (.int .i64 0)⟩
          case measure => simp [intOf]; omega
        · go_wp2_with fail
          clear hlt hk
          generalize wr = wv at *
          go_loopw [12] (fun i wr => ∃ k : Nat, k ≤ t.pk.length + 1 ∧ i = .int .i64 k ∧ (∃ c, Box wr g1 c 35 ∧ c.size = (t.st.length + 1) * 3) ∧ (∃ c, Box wr g2 c 39 ∧ c.size = (t.sp.length + 1) * 5) ∧ (∃ c, Box wr g3 c 48 ∧ c.size = (t.pk.length + 1) * 2) ∧ But B g1 g2 g3 w wr) (fun i _ => t.pk.length + 1 - (intOf i).toNat)
          case atStart => exact ⟨0, by omega, rfl, B1, B2, B3, hBr⟩
          case round =>
            obtain ⟨k, hk, rfl, B1, B2, B3, hBr⟩ := hrel
            by_cases hlt : k < t.pk.length + 1
            · obtain ⟨c, hc, hcs⟩ := B3
              have c0 := cell_some hc (k := k * 2) (by rw [hcs]; omega)
              have y0 := hc.free (k * 2)
              have c1 := cell_some hc (k := k * 2 + 1) (by rw [hcs]; omega)
              have y1 := hc.free (k * 2 + 1)
              have lt0 := hc.lt
              go_wp2_with fail
              go_roundw
              case rel => exact ⟨k + 1, by omega, by go_num, (let ⟨c, x, y⟩ := B1; ⟨c, ((x).other ⟨g3, k * 2, none⟩ (by show g1 ≠ g3; omega) (.int .i64 (-9))).other ⟨g3, k * 2 + 1, none⟩ (by show g1 ≠ g3; omega) (.int .i64 0), y⟩), (let ⟨c, x, y⟩ := B2; ⟨c, ((x).other ⟨g3, k * 2, none⟩ (by show g2 ≠ g3; omega) (.int .i64 (-9))).other ⟨g3, k * 2 + 1, none⟩ (by show g2 ≠ g3; omega) (.int .i64 0), y⟩), ⟨_, ((hc).set (k * 2) (.int .i64 (-9))).set (k * 2 + 1) (.int .i64 0), by simpa using hcs⟩, But.set (But.set (hBr) (p := ⟨g3, k * 2, none⟩) (by simp) (by show B ≤ g3; omega) (.int .i64 (-9))) (p := ⟨g3, k * 2 + 1, none⟩) (by simp) (by show B ≤ g3; omega) (.int .i64 0)⟩
              case measure => simp [intOf]; omega
            · go_wp2_with fail
              go_ret
              exact ⟨rfl, hBr⟩
end Go.Proofs.Ytmeogadkbbeglaa
