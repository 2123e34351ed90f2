/- The walk of the tariff law's lending: lists in memory of their own, a mark behind each. PRINTED by lent.py. -/
import Derived.Test.YtmeogadkbbeglaaH4
import Derived.Test.YtmeogadkbbeglaaH1
namespace Go.Proofs.Ytmeogadkbbeglaa
open Go.RowKit Go.Rg
set_option maxHeartbeats 1600000
set_option maxRecDepth 100000

/-- A tariff that was lent: where its lists lie, what lies behind them. -/
structure Tariff.Lent (w : World) (t : Tariff) (m : TMem) (B g1 g2 g3 : Nat) : Prop where
  m_ : m = ⟨some ⟨g1, 0, none⟩, t.st.length + 1, some ⟨g2, 0, none⟩, t.sp.length + 1, some ⟨g3, 0, none⟩, t.pk.length + 1⟩
  b1 : ∃ cur, Box w g1 cur 35 ∧ cur.toList = t.st.flatMap Station.vals ++ [.int .i64 (-7), .int .i64 0, .int .i64 0]
  b2 : ∃ cur, Box w g2 cur 39 ∧ cur.toList = t.sp.flatMap Span.vals ++ [.int .i64 (-7), .int .i64 0, .int .i64 0, .int .i64 0, .int .i64 0]
  b3 : ∃ cur, Box w g3 cur 48 ∧ cur.toList = t.pk.flatMap Band.vals ++ [.int .i64 (-7), .int .i64 0]
  l1 : B ≤ g1
  l2 : g1 < g2
  l3 : g2 < g3
theorem Tariff.Lent.keep {w w' : World} {t : Tariff} {m : TMem} {B g1 g2 g3 : Nat} (h : Tariff.Lent w t m B g1 g2 g3) (hb : Below w.heap.size w w') : Tariff.Lent w' t m B g1 g2 g3 :=
  ⟨h.m_, let ⟨c, x, y⟩ := h.b1; ⟨c, x.below' hb, y⟩, let ⟨c, x, y⟩ := h.b2; ⟨c, x.below' hb, y⟩, let ⟨c, x, y⟩ := h.b3; ⟨c, x.below' hb, y⟩, h.l1, h.l2, h.l3⟩
theorem sliceAt_lent {α : Type} {w : World} {g : Nat} {cur : Array Value} {T : TypeId} {sz : Nat} {vals : α → List Value} {xs : List α} {mk : List Value} (hX : Box w g cur T) (hs : ∀ x, (vals x).length = sz) (hl : xs.length ≤ 140737488351232) (hc : cur.toList = xs.flatMap vals ++ mk) : SliceAt w sz vals (some ⟨g, 0, none⟩) xs :=
  sliceAt_box hX hs hl fun k v hv => by
    have hk : k < (xs.flatMap vals).length := (List.getElem?_eq_some_iff.1 hv).1
    rw [← Array.getElem?_toList, hc, List.getElem?_append_left hk]; exact hv
theorem Tariff.Lent.at_ {w : World} {t : Tariff} {m : TMem} {B g1 g2 g3 : Nat} (h : Tariff.Lent w t m B g1 g2 g3) {w0 : World} {m0 : TMem} (h0 : t.At w0 m0) : t.At w m := by
  obtain ⟨c1, x1, y1⟩ := h.b1
  obtain ⟨c2, x2, y2⟩ := h.b2
  obtain ⟨c3, x3, y3⟩ := h.b3
  rw [h.m_]
  exact ⟨sliceAt_lent x1 (fun _ => rfl) h0.st.1 y1, sliceAt_lent x2 (fun _ => rfl) h0.sp.1 y2, sliceAt_lent x3 (fun _ => rfl) h0.pk.1 y3, h0.off⟩

theorem lent_calls (t : Tariff) (m : TMem) (w : World) (hT : t.At w m) (h24 : t.st.length * 24 ≤ 140737488351232) (h40 : t.sp.length * 40 ≤ 140737488351232) (h16 : t.pk.length * 16 ≤ 140737488351232) :
    Calls Try.prog 27 #[.agg (t.cells m)] w fun e w' => ∃ m', e = .returned (.agg (t.cells m')) ∧ (∃ g1 g2 g3, Tariff.Lent w' t m' w.heap.size g1 g2 g3) ∧ Below w.heap.size w w' := by
  have HX := Box.new w (t.cells m) 27
  have hB := bAlloc (Below.refl w.heap.size w) (.cells (t.cells m) 27)
  go_enter Try.func27, Try.ntmps27
  go_wp2_with fail
  have HX0 := HX.alloc (.cells #[.slice none 0 0, .slice none 0 0, .slice none 0 0, .float .f64 0, .int .i64 0, .int .i64 0, .int .i64 0, .int .i64 0, .int .i64 0, .int .i64 0, .int .i64 0, .int .i64 0, .int .i64 0, .int .i64 0] 27)
  have HZ := Lib.hid (Box.new' (w := w.alloc (.cells (t.cells m) 27)) (b := w.heap.size + 1) (by simp) #[.slice none 0 0, .slice none 0 0, .slice none 0 0, .float .f64 0, .int .i64 0, .int .i64 0, .int .i64 0, .int .i64 0, .int .i64 0, .int .i64 0, .int .i64 0, .int .i64 0, .int .i64 0, .int .i64 0] 27)
  have hB0 := bAlloc hB (.cells #[.slice none 0 0, .slice none 0 0, .slice none 0 0, .float .f64 0, .int .i64 0, .int .i64 0, .int .i64 0, .int .i64 0, .int .i64 0, .int .i64 0, .int .i64 0, .int .i64 0, .int .i64 0, .int .i64 0] 27)
  clear HX hB
  generalize (w.alloc (.cells (t.cells m) 27)).alloc _ = w1 at *
  have hsz0 : w.heap.size + 1 < w1.heap.size := HZ.out.lt
  have hwr : IntKind.i64.wrap ((t.st.length : Int) + 1) = (t.st.length : Int) + 1 := by have := hT.st.1; rw [IntKind.wrap_i64]; omega
  have hby : 24 * (t.st.length + 1) ≤ 281474976710656 := by omega
  obtain ⟨i0, hi, hz0, hz1, hz2⟩ := info_parts iStation
  refine wp_region_steps (LentI w1 w.heap.size (t.cells m) 27 0 m.a1 t.st.length m.c1 35 3 (t.st.flatMap Station.vals) [.int .i64 (-7), .int .i64 0, .int .i64 0]) (by kernel_rfl) (by kernel_rfl) (by kernel_rfl) 52 rfl (by kernel_rfl) ?h1 ?step1 ?fin1
  case h1 => exact LentI.start HX0
  case step1 =>
    refine ⟨?_, ?_, ?_, ?_, ?_, ?_, ?_, ?_, ?_, ?_, ?_, ?_, ?_, ?_, ?_, ?_, ?_, trivial⟩
    · intro S w' A K hA hA0 hI hS haf hK
      have a1 : A.tmps[1]? = some (.pointer (some ⟨w.heap.size, 0, none⟩)) := (hA0 1 (by kernel_rfl)).trans rfl
      have hk := hK _ w' (hI.quiet (by decide) hS rfl)
      clear hA hA0 hK
      simp [Oper.wp, go_sem, a1]
      exact hk
    · intro S w' A K hA hA0 hI hS haf hK
      obtain ⟨x0, s0⟩ := haf ⟨0, .data⟩ (by simp) rfl
      obtain rfl := hI.v0 _ s0
      have a3 := hA 3 0 _ rfl s0
      have c0 := (hI.tb (hI.not16 (by decide) hS)).cell 0
      simp at c0
      have hk := hK _ w' (hI.quiet (by decide) hS rfl)
      clear hA hA0 hK
      simp [Oper.wp, go_sem, a3, c0]
      exact hk
    · intro S w' A K hA hA0 hI hS haf hK
      obtain ⟨x1, s1⟩ := haf ⟨1, .data⟩ (by simp) rfl
      obtain rfl := hI.v1 _ s1
      have a4 := hA 4 1 _ rfl s1
      have hk := hK _ w' (hI.quiet (by decide) hS rfl)
      clear hA hA0 hK
      simp [Oper.wp, go_sem, a4]
      exact hk
    · intro S w' A K hA hA0 hI hS haf hK
      obtain ⟨x2, s2⟩ := haf ⟨2, .data⟩ (by simp) rfl
      obtain rfl := hI.v2 _ s2
      have a5 := hA 5 2 _ rfl s2
      have hk := hK _ w' (hI.quiet (by decide) hS rfl)
      clear hA hA0 hK
      simp [Oper.wp, go_sem, a5, hwr]
      exact hk
    · intro S w' A K hA hA0 hI hS haf hK
      obtain ⟨x3, s3⟩ := haf ⟨3, .data⟩ (by simp) rfl
      obtain rfl := hI.v3 _ s3
      exact wp_make_room w' (.tmp 6) _ rfl _ i0 _ 3 _ _ Try.underlying22 hi hz0 hz1 hz2 (eval_at (hA 6 3 _ rfl s3)) hby (by omega) (fun zs hzs => hK _ _ (hI.make hS zs hzs))
    · intro S w' A K hA hA0 hI hS haf hK
      have a1 : A.tmps[1]? = some (.pointer (some ⟨w.heap.size, 0, none⟩)) := (hA0 1 (by kernel_rfl)).trans rfl
      have hk := hK _ w' (hI.quiet (by decide) hS rfl)
      clear hA hA0 hK
      simp [Oper.wp, go_sem, a1]
      exact hk
    · intro S w' A K hA hA0 hI hS haf hK
      obtain ⟨x5, s5⟩ := haf ⟨5, .data⟩ (by simp) rfl
      obtain rfl := hI.v5 _ s5
      have a8 := hA 8 5 _ rfl s5
      have c0 := (hI.tb (hI.not16 (by decide) hS)).cell 0
      simp at c0
      have hk := hK _ w' (hI.quiet (by decide) hS rfl)
      clear hA hA0 hK
      simp [Oper.wp, go_sem, a8, c0]
      exact hk
    · intro S w' A K hA hA0 hI hS haf hK
      obtain ⟨x4, s4⟩ := haf ⟨4, .data⟩ (by simp) rfl
      obtain ⟨x6, s6⟩ := haf ⟨6, .data⟩ (by simp) rfl
      obtain rfl := hI.v6 _ s6
      obtain ⟨g, cur, rfl, hg, hcs, hbg, hgo⟩ := hI.fill hS s4
      have hat := (hT.st).keep (hI.below hB0 (Nat.le_refl _))
      have hfl := flat_len Station.vals 3 (fun _ => rfl) t.st
      refine wp_append_room' w' (.tmp 7) (.tmp 9) _ rfl _ i0 3 Try.underlying22 hi hz1 g 0 _ cur hg (eval_at (hA 7 4 _ rfl s4)) _ _ _ (t.st.flatMap Station.vals) (eval_at (hA 9 6 _ rfl s6)) (fun e => (e ▸ hat).none_nil) hfl (hat.cells (fun _ => rfl)) (fun u hu => by obtain ⟨x, -, hx⟩ := List.mem_flatMap.1 hu; simp [Station.vals] at hx; rcases hx with rfl | rfl | rfl <;> rfl) (by omega) (by rw [hcs]; omega) ?_
      rw [Nat.zero_add]
      refine hK _ _ (hgo _ ?_ ?_)
      · simp [hfl, hcs]; omega
      · simp [← hfl]
    · intro S w' A K hA hA0 hI hS haf hK
      have hk := hK _ w' (hI.quiet (by decide) hS rfl)
      clear hA hA0 hK
      simp [Oper.wp, go_sem]
      exact hk
    · intro S w' A K hA hA0 hI hS haf hK
      obtain ⟨x8, s8⟩ := haf ⟨8, .data⟩ (by simp) rfl
      obtain rfl := hI.v8 _ s8
      have a11 := hA 11 8 _ rfl s8
      have hk := hK _ _ (hI.marks hS)
      clear hA hA0 hK
      simp [Oper.wp, go_sem, a11]
      exact hk
    · intro S w' A K hA hA0 hI hS haf hK
      obtain ⟨x7, s7⟩ := haf ⟨7, .data⟩ (by simp) rfl
      obtain ⟨x9, s9⟩ := haf ⟨9, .data⟩ (by simp) rfl
      obtain ⟨g, cur, b, rfl, rfl, hg, hcs, hF, hbx, hgo⟩ := hI.close hS s7 s9
      have hfl := flat_len Station.vals 3 (fun _ => rfl) t.st
      refine wp_append_room' w' (.tmp 10) (.tmp 12) _ rfl _ i0 3 Try.underlying22 hi hz1 g _ _ cur hg (eval_at (hA 10 7 _ rfl s7)) _ 1 1 [.int .i64 (-7), .int .i64 0, .int .i64 0] (eval_at (hA 12 9 _ rfl s9)) (fun e => by cases e) rfl (fun ad e j u hj => by cases e; rw [addr_zero, hbx.cell]; simpa using hj) (fun u hu => by simp at hu; rcases hu with rfl | rfl <;> rfl) (Nat.le_refl _) (by rw [hcs]; omega) ?_
      have hdr : cur.toList.drop (t.st.length * 3 + ([.int .i64 (-7), .int .i64 0, .int .i64 0] : List Value).length) = [] := List.drop_eq_nil_of_le (by simp [hcs]; omega)
      rw [hdr, hF, List.append_nil]
      refine hK _ _ (hgo _ ?_ ?_ rfl)
      · simp [hfl]; omega
      · simp [← hfl]
    · intro S w' A K hA hA0 hI hS haf hK
      have a1 : A.tmps[1]? = some (.pointer (some ⟨w.heap.size, 0, none⟩)) := (hA0 1 (by kernel_rfl)).trans rfl
      have hk := hK _ w' (hI.quiet (by decide) hS rfl)
      clear hA hA0 hK
      simp [Oper.wp, go_sem, a1]
      exact hk
    · intro S w' A K hA hA0 hI hS haf hK
      obtain ⟨x11, s11⟩ := haf ⟨11, .data⟩ (by simp) rfl
      obtain rfl := hI.v11 _ s11
      have a14 := hA 14 11 _ rfl s11
      have c0 := (hI.tb (hI.not16 (by decide) hS)).cell 0
      simp at c0
      have hk := hK _ w' (hI.quiet (by decide) hS rfl)
      clear hA hA0 hK
      simp [Oper.wp, go_sem, a14, c0]
      exact hk
    · intro S w' A K hA hA0 hI hS haf hK
      obtain ⟨x12, s12⟩ := haf ⟨12, .data⟩ (by simp) rfl
      obtain rfl := hI.v12 _ s12
      have a15 := hA 15 12 _ rfl s12
      have hk := hK _ w' (hI.quiet (by decide) hS rfl)
      clear hA hA0 hK
      simp [Oper.wp, go_sem, a15]
      exact hk
    · intro S w' A K hA hA0 hI hS haf hK
      obtain ⟨x10, s10⟩ := haf ⟨10, .data⟩ (by simp) rfl
      obtain ⟨x13, s13⟩ := haf ⟨13, .data⟩ (by simp) rfl
      obtain rfl := hI.v13 _ s13
      obtain ⟨x7, s7⟩ := hI.d10 _ s10
      obtain ⟨x4, s4⟩ := hI.d7 _ s7
      obtain ⟨g, cur, -, -, hg, hcs, -, e10, -, -⟩ := hI.own _ s4
      obtain ⟨rfl, hcur⟩ := e10 _ s10
      have a13 := hA 13 10 _ rfl s10
      have a16 := hA 16 13 _ rfl s13
      have hk := hK (.slice (some ⟨g, 0, none⟩) t.st.length (t.st.length + 1)) w' (hI.quiet (by decide) hS ⟨g, rfl, s10⟩)
      clear hA hA0 hK
      have hbnd : (t.st.length : Int) ≤ (t.st.length : Int) + 1 := by omega
      simp [Oper.wp, go_sem, a13, a16, hbnd]
      exact hk
    · intro S w' A K hA hA0 hI hS haf hK
      have a1 : A.tmps[1]? = some (.pointer (some ⟨w.heap.size, 0, none⟩)) := (hA0 1 (by kernel_rfl)).trans rfl
      have hk := hK _ w' (hI.quiet (by decide) hS rfl)
      clear hA hA0 hK
      simp [Oper.wp, go_sem, a1]
      exact hk
    · intro S w' A K hA hA0 hI hS haf hK
      have hall : ∀ i, i < 16 → ∃ u, S i = some u := fun i hi => by
        rcases (show i = 15 ∨ i = 14 ∨ i = 13 ∨ i = 12 ∨ i = 11 ∨ i = 10 ∨ i = 9 ∨ i = 8 ∨ i = 7 ∨ i = 6 ∨ i = 5 ∨ i = 4 ∨ i = 3 ∨ i = 2 ∨ i = 1 ∨ i = 0 by omega) with rfl | rfl | rfl | rfl | rfl | rfl | rfl | rfl | rfl | rfl | rfl | rfl | rfl | rfl | rfl | rfl
        · exact haf ⟨15, .data⟩ (by simp) rfl
        · exact haf ⟨14, .data⟩ (by simp) rfl
        all_goals exact haf ⟨_, .phase⟩ (by simp) rfl
      obtain ⟨x14, s14⟩ := hall 14 (by decide)
      obtain ⟨x15, s15⟩ := hall 15 (by decide)
      obtain rfl := hI.v15 _ s15
      obtain ⟨x10, s10⟩ := hI.d14 _ s14
      obtain ⟨x7, s7⟩ := hI.d10 _ s10
      obtain ⟨x4, s4⟩ := hI.d7 _ s7
      obtain ⟨g, cur, -, -, -, -, -, -, e14, -⟩ := hI.own _ s4
      obtain rfl := e14 _ s14
      have a17 := hA 17 14 _ rfl s14
      have a18 := hA 18 15 _ rfl s15
      have c0 := (hI.tb hS).cell 0
      simp at c0
      have z0 := (hI.tb hS).free 0
      have hk := hK undef _ (hI.stored hS hall s14)
      clear hA hA0 hK
      simp [Oper.wp, go_sem, a17, a18, c0, z0]
      exact hk
  intro S w2 hI hall
  obtain ⟨x0, e0⟩ := hall 0 (by decide)
  obtain ⟨x1, e1⟩ := hall 1 (by decide)
  obtain ⟨x2, e2⟩ := hall 2 (by decide)
  obtain ⟨x3, e3⟩ := hall 3 (by decide)
  obtain ⟨x4, e4⟩ := hall 4 (by decide)
  obtain ⟨x5, e5⟩ := hall 5 (by decide)
  obtain ⟨x6, e6⟩ := hall 6 (by decide)
  obtain ⟨x7, e7⟩ := hall 7 (by decide)
  obtain ⟨x8, e8⟩ := hall 8 (by decide)
  obtain ⟨x9, e9⟩ := hall 9 (by decide)
  obtain ⟨x10, e10⟩ := hall 10 (by decide)
  obtain ⟨x11, e11⟩ := hall 11 (by decide)
  obtain ⟨x12, e12⟩ := hall 12 (by decide)
  obtain ⟨x13, e13⟩ := hall 13 (by decide)
  obtain ⟨x14, e14⟩ := hall 14 (by decide)
  obtain ⟨x15, e15⟩ := hall 15 (by decide)
  obtain ⟨x16, e16⟩ := hall 16 (by decide)
  obtain ⟨g1, cur1, HX1, hg1, HG1, hc1⟩ := hI.done e16
  replace HX1 : Box w2 w.heap.size (t.cells ⟨some ⟨g1, 0, none⟩, t.st.length + 1, m.a2, m.c2, m.a3, m.c3⟩) 27 := HX1
  have hB1 := hI.below hB0 (Nat.le_refl _)
  replace HZ := Lib.hid (hI.other HZ.out (by simp))
  have hlt1 : g1 < w2.heap.size := HG1.lt
  have hsz1 : w1.heap.size ≤ w2.heap.size := hI.size
  simp only [puts, e0, e1, e2, e3, e4, e5, e6, e7, e8, e9, e10, e11, e12, e13, e14, e15, e16]
  simp only [Act.put, List.setIfInBounds_toArray, List.set_cons_succ, List.set_cons_zero]
  clear hI hall e0 e1 e2 e3 e4 e5 e6 e7 e8 e9 e10 e11 e12 e13 e14 e15 e16 hi hz0 hz1 hz2 hwr hby HX0
  go_wp2_with fail
  have hwr : IntKind.i64.wrap ((t.sp.length : Int) + 1) = (t.sp.length : Int) + 1 := by have := hT.sp.1; rw [IntKind.wrap_i64]; omega
  have hby : 40 * (t.sp.length + 1) ≤ 281474976710656 := by omega
  obtain ⟨i0, hi, hz0, hz1, hz2⟩ := info_parts iSpan
  refine wp_region_steps (LentI w2 w.heap.size (t.cells ⟨some ⟨g1, 0, none⟩, t.st.length + 1, m.a2, m.c2, m.a3, m.c3⟩) 27 1 m.a2 t.sp.length m.c2 39 5 (t.sp.flatMap Span.vals) [.int .i64 (-7), .int .i64 0, .int .i64 0, .int .i64 0, .int .i64 0]) (by kernel_rfl) (by kernel_rfl) (by kernel_rfl) 52 rfl (by kernel_rfl) ?h2 ?step2 ?fin2
  case h2 => exact LentI.start HX1
  case step2 =>
    refine ⟨?_, ?_, ?_, ?_, ?_, ?_, ?_, ?_, ?_, ?_, ?_, ?_, ?_, ?_, ?_, ?_, ?_, trivial⟩
    · intro S w' A K hA hA0 hI hS haf hK
      have a1 : A.tmps[1]? = some (.pointer (some ⟨w.heap.size, 0, none⟩)) := (hA0 1 (by kernel_rfl)).trans rfl
      have hk := hK _ w' (hI.quiet (by decide) hS rfl)
      clear hA hA0 hK
      simp [Oper.wp, go_sem, a1]
      exact hk
    · intro S w' A K hA hA0 hI hS haf hK
      obtain ⟨x0, s0⟩ := haf ⟨0, .data⟩ (by simp) rfl
      obtain rfl := hI.v0 _ s0
      have a19 := hA 19 0 _ rfl s0
      have c0 := (hI.tb (hI.not16 (by decide) hS)).cell 1
      simp at c0
      have hk := hK _ w' (hI.quiet (by decide) hS rfl)
      clear hA hA0 hK
      simp [Oper.wp, go_sem, a19, c0]
      exact hk
    · intro S w' A K hA hA0 hI hS haf hK
      obtain ⟨x1, s1⟩ := haf ⟨1, .data⟩ (by simp) rfl
      obtain rfl := hI.v1 _ s1
      have a20 := hA 20 1 _ rfl s1
      have hk := hK _ w' (hI.quiet (by decide) hS rfl)
      clear hA hA0 hK
      simp [Oper.wp, go_sem, a20]
      exact hk
    · intro S w' A K hA hA0 hI hS haf hK
      obtain ⟨x2, s2⟩ := haf ⟨2, .data⟩ (by simp) rfl
      obtain rfl := hI.v2 _ s2
      have a21 := hA 21 2 _ rfl s2
      have hk := hK _ w' (hI.quiet (by decide) hS rfl)
      clear hA hA0 hK
      simp [Oper.wp, go_sem, a21, hwr]
      exact hk
    · intro S w' A K hA hA0 hI hS haf hK
      obtain ⟨x3, s3⟩ := haf ⟨3, .data⟩ (by simp) rfl
      obtain rfl := hI.v3 _ s3
      exact wp_make_room w' (.tmp 22) _ rfl _ i0 _ 5 _ _ Try.underlying23 hi hz0 hz1 hz2 (eval_at (hA 22 3 _ rfl s3)) hby (by omega) (fun zs hzs => hK _ _ (hI.make hS zs hzs))
    · intro S w' A K hA hA0 hI hS haf hK
      have a1 : A.tmps[1]? = some (.pointer (some ⟨w.heap.size, 0, none⟩)) := (hA0 1 (by kernel_rfl)).trans rfl
      have hk := hK _ w' (hI.quiet (by decide) hS rfl)
      clear hA hA0 hK
      simp [Oper.wp, go_sem, a1]
      exact hk
    · intro S w' A K hA hA0 hI hS haf hK
      obtain ⟨x5, s5⟩ := haf ⟨5, .data⟩ (by simp) rfl
      obtain rfl := hI.v5 _ s5
      have a24 := hA 24 5 _ rfl s5
      have c0 := (hI.tb (hI.not16 (by decide) hS)).cell 1
      simp at c0
      have hk := hK _ w' (hI.quiet (by decide) hS rfl)
      clear hA hA0 hK
      simp [Oper.wp, go_sem, a24, c0]
      exact hk
    · intro S w' A K hA hA0 hI hS haf hK
      obtain ⟨x4, s4⟩ := haf ⟨4, .data⟩ (by simp) rfl
      obtain ⟨x6, s6⟩ := haf ⟨6, .data⟩ (by simp) rfl
      obtain rfl := hI.v6 _ s6
      obtain ⟨g, cur, rfl, hg, hcs, hbg, hgo⟩ := hI.fill hS s4
      have hat := (hT.sp).keep (hI.below hB1 (Nat.le_refl _))
      have hfl := flat_len Span.vals 5 (fun _ => rfl) t.sp
      refine wp_append_room' w' (.tmp 23) (.tmp 25) _ rfl _ i0 5 Try.underlying23 hi hz1 g 0 _ cur hg (eval_at (hA 23 4 _ rfl s4)) _ _ _ (t.sp.flatMap Span.vals) (eval_at (hA 25 6 _ rfl s6)) (fun e => (e ▸ hat).none_nil) hfl (hat.cells (fun _ => rfl)) (fun u hu => by obtain ⟨x, -, hx⟩ := List.mem_flatMap.1 hu; simp [Span.vals] at hx; rcases hx with rfl | rfl | rfl | rfl | rfl <;> rfl) (by omega) (by rw [hcs]; omega) ?_
      rw [Nat.zero_add]
      refine hK _ _ (hgo _ ?_ ?_)
      · simp [hfl, hcs]; omega
      · simp [← hfl]
    · intro S w' A K hA hA0 hI hS haf hK
      have hk := hK _ w' (hI.quiet (by decide) hS rfl)
      clear hA hA0 hK
      simp [Oper.wp, go_sem]
      exact hk
    · intro S w' A K hA hA0 hI hS haf hK
      obtain ⟨x8, s8⟩ := haf ⟨8, .data⟩ (by simp) rfl
      obtain rfl := hI.v8 _ s8
      have a27 := hA 27 8 _ rfl s8
      have hk := hK _ _ (hI.marks hS)
      clear hA hA0 hK
      simp [Oper.wp, go_sem, a27]
      exact hk
    · intro S w' A K hA hA0 hI hS haf hK
      obtain ⟨x7, s7⟩ := haf ⟨7, .data⟩ (by simp) rfl
      obtain ⟨x9, s9⟩ := haf ⟨9, .data⟩ (by simp) rfl
      obtain ⟨g, cur, b, rfl, rfl, hg, hcs, hF, hbx, hgo⟩ := hI.close hS s7 s9
      have hfl := flat_len Span.vals 5 (fun _ => rfl) t.sp
      refine wp_append_room' w' (.tmp 26) (.tmp 28) _ rfl _ i0 5 Try.underlying23 hi hz1 g _ _ cur hg (eval_at (hA 26 7 _ rfl s7)) _ 1 1 [.int .i64 (-7), .int .i64 0, .int .i64 0, .int .i64 0, .int .i64 0] (eval_at (hA 28 9 _ rfl s9)) (fun e => by cases e) rfl (fun ad e j u hj => by cases e; rw [addr_zero, hbx.cell]; simpa using hj) (fun u hu => by simp at hu; rcases hu with rfl | rfl <;> rfl) (Nat.le_refl _) (by rw [hcs]; omega) ?_
      have hdr : cur.toList.drop (t.sp.length * 5 + ([.int .i64 (-7), .int .i64 0, .int .i64 0, .int .i64 0, .int .i64 0] : List Value).length) = [] := List.drop_eq_nil_of_le (by simp [hcs]; omega)
      rw [hdr, hF, List.append_nil]
      refine hK _ _ (hgo _ ?_ ?_ rfl)
      · simp [hfl]; omega
      · simp [← hfl]
    · intro S w' A K hA hA0 hI hS haf hK
      have a1 : A.tmps[1]? = some (.pointer (some ⟨w.heap.size, 0, none⟩)) := (hA0 1 (by kernel_rfl)).trans rfl
      have hk := hK _ w' (hI.quiet (by decide) hS rfl)
      clear hA hA0 hK
      simp [Oper.wp, go_sem, a1]
      exact hk
    · intro S w' A K hA hA0 hI hS haf hK
      obtain ⟨x11, s11⟩ := haf ⟨11, .data⟩ (by simp) rfl
      obtain rfl := hI.v11 _ s11
      have a30 := hA 30 11 _ rfl s11
      have c0 := (hI.tb (hI.not16 (by decide) hS)).cell 1
      simp at c0
      have hk := hK _ w' (hI.quiet (by decide) hS rfl)
      clear hA hA0 hK
      simp [Oper.wp, go_sem, a30, c0]
      exact hk
    · intro S w' A K hA hA0 hI hS haf hK
      obtain ⟨x12, s12⟩ := haf ⟨12, .data⟩ (by simp) rfl
      obtain rfl := hI.v12 _ s12
      have a31 := hA 31 12 _ rfl s12
      have hk := hK _ w' (hI.quiet (by decide) hS rfl)
      clear hA hA0 hK
      simp [Oper.wp, go_sem, a31]
      exact hk
    · intro S w' A K hA hA0 hI hS haf hK
      obtain ⟨x10, s10⟩ := haf ⟨10, .data⟩ (by simp) rfl
      obtain ⟨x13, s13⟩ := haf ⟨13, .data⟩ (by simp) rfl
      obtain rfl := hI.v13 _ s13
      obtain ⟨x7, s7⟩ := hI.d10 _ s10
      obtain ⟨x4, s4⟩ := hI.d7 _ s7
      obtain ⟨g, cur, -, -, hg, hcs, -, e10, -, -⟩ := hI.own _ s4
      obtain ⟨rfl, hcur⟩ := e10 _ s10
      have a29 := hA 29 10 _ rfl s10
      have a32 := hA 32 13 _ rfl s13
      have hk := hK (.slice (some ⟨g, 0, none⟩) t.sp.length (t.sp.length + 1)) w' (hI.quiet (by decide) hS ⟨g, rfl, s10⟩)
      clear hA hA0 hK
      have hbnd : (t.sp.length : Int) ≤ (t.sp.length : Int) + 1 := by omega
      simp [Oper.wp, go_sem, a29, a32, hbnd]
      exact hk
    · intro S w' A K hA hA0 hI hS haf hK
      have a1 : A.tmps[1]? = some (.pointer (some ⟨w.heap.size, 0, none⟩)) := (hA0 1 (by kernel_rfl)).trans rfl
      have hk := hK _ w' (hI.quiet (by decide) hS rfl)
      clear hA hA0 hK
      simp [Oper.wp, go_sem, a1]
      exact hk
    · intro S w' A K hA hA0 hI hS haf hK
      have hall : ∀ i, i < 16 → ∃ u, S i = some u := fun i hi => by
        rcases (show i = 15 ∨ i = 14 ∨ i = 13 ∨ i = 12 ∨ i = 11 ∨ i = 10 ∨ i = 9 ∨ i = 8 ∨ i = 7 ∨ i = 6 ∨ i = 5 ∨ i = 4 ∨ i = 3 ∨ i = 2 ∨ i = 1 ∨ i = 0 by omega) with rfl | rfl | rfl | rfl | rfl | rfl | rfl | rfl | rfl | rfl | rfl | rfl | rfl | rfl | rfl | rfl
        · exact haf ⟨15, .data⟩ (by simp) rfl
        · exact haf ⟨14, .data⟩ (by simp) rfl
        all_goals exact haf ⟨_, .phase⟩ (by simp) rfl
      obtain ⟨x14, s14⟩ := hall 14 (by decide)
      obtain ⟨x15, s15⟩ := hall 15 (by decide)
      obtain rfl := hI.v15 _ s15
      obtain ⟨x10, s10⟩ := hI.d14 _ s14
      obtain ⟨x7, s7⟩ := hI.d10 _ s10
      obtain ⟨x4, s4⟩ := hI.d7 _ s7
      obtain ⟨g, cur, -, -, -, -, -, -, e14, -⟩ := hI.own _ s4
      obtain rfl := e14 _ s14
      have a33 := hA 33 14 _ rfl s14
      have a34 := hA 34 15 _ rfl s15
      have c0 := (hI.tb hS).cell 1
      simp at c0
      have z0 := (hI.tb hS).free 1
      have hk := hK undef _ (hI.stored hS hall s14)
      clear hA hA0 hK
      simp [Oper.wp, go_sem, a33, a34, c0, z0]
      exact hk
  intro S w3 hI hall
  obtain ⟨x0, e0⟩ := hall 0 (by decide)
  obtain ⟨x1, e1⟩ := hall 1 (by decide)
  obtain ⟨x2, e2⟩ := hall 2 (by decide)
  obtain ⟨x3, e3⟩ := hall 3 (by decide)
  obtain ⟨x4, e4⟩ := hall 4 (by decide)
  obtain ⟨x5, e5⟩ := hall 5 (by decide)
  obtain ⟨x6, e6⟩ := hall 6 (by decide)
  obtain ⟨x7, e7⟩ := hall 7 (by decide)
  obtain ⟨x8, e8⟩ := hall 8 (by decide)
  obtain ⟨x9, e9⟩ := hall 9 (by decide)
  obtain ⟨x10, e10⟩ := hall 10 (by decide)
  obtain ⟨x11, e11⟩ := hall 11 (by decide)
  obtain ⟨x12, e12⟩ := hall 12 (by decide)
  obtain ⟨x13, e13⟩ := hall 13 (by decide)
  obtain ⟨x14, e14⟩ := hall 14 (by decide)
  obtain ⟨x15, e15⟩ := hall 15 (by decide)
  obtain ⟨x16, e16⟩ := hall 16 (by decide)
  obtain ⟨g2, cur2, HX2, hg2, HG2, hc2⟩ := hI.done e16
  replace HX2 : Box w3 w.heap.size (t.cells ⟨some ⟨g1, 0, none⟩, t.st.length + 1, some ⟨g2, 0, none⟩, t.sp.length + 1, m.a3, m.c3⟩) 27 := HX2
  have hB2 := hI.below hB1 (Nat.le_refl _)
  replace HZ := Lib.hid (hI.other HZ.out (by simp))
  replace HG1 := hI.other HG1 (by omega)
  have hlt2 : g2 < w3.heap.size := HG2.lt
  have hsz2 : w2.heap.size ≤ w3.heap.size := hI.size
  simp only [puts, e0, e1, e2, e3, e4, e5, e6, e7, e8, e9, e10, e11, e12, e13, e14, e15, e16]
  simp only [Act.put, List.setIfInBounds_toArray, List.set_cons_succ, List.set_cons_zero]
  clear hI hall e0 e1 e2 e3 e4 e5 e6 e7 e8 e9 e10 e11 e12 e13 e14 e15 e16 hi hz0 hz1 hz2 hwr hby HX1
  go_wp2_with fail
  have hwr : IntKind.i64.wrap ((t.pk.length : Int) + 1) = (t.pk.length : Int) + 1 := by have := hT.pk.1; rw [IntKind.wrap_i64]; omega
  have hby : 16 * (t.pk.length + 1) ≤ 281474976710656 := by omega
  obtain ⟨i0, hi, hz0, hz1, hz2⟩ := info_parts iBand
  refine wp_region_steps (LentI w3 w.heap.size (t.cells ⟨some ⟨g1, 0, none⟩, t.st.length + 1, some ⟨g2, 0, none⟩, t.sp.length + 1, m.a3, m.c3⟩) 27 2 m.a3 t.pk.length m.c3 48 2 (t.pk.flatMap Band.vals) [.int .i64 (-7), .int .i64 0]) (by kernel_rfl) (by kernel_rfl) (by kernel_rfl) 52 rfl (by kernel_rfl) ?h3 ?step3 ?fin3
  case h3 => exact LentI.start HX2
  case step3 =>
    refine ⟨?_, ?_, ?_, ?_, ?_, ?_, ?_, ?_, ?_, ?_, ?_, ?_, ?_, ?_, ?_, ?_, ?_, trivial⟩
    · intro S w' A K hA hA0 hI hS haf hK
      have a1 : A.tmps[1]? = some (.pointer (some ⟨w.heap.size, 0, none⟩)) := (hA0 1 (by kernel_rfl)).trans rfl
      have hk := hK _ w' (hI.quiet (by decide) hS rfl)
      clear hA hA0 hK
      simp [Oper.wp, go_sem, a1]
      exact hk
    · intro S w' A K hA hA0 hI hS haf hK
      obtain ⟨x0, s0⟩ := haf ⟨0, .data⟩ (by simp) rfl
      obtain rfl := hI.v0 _ s0
      have a35 := hA 35 0 _ rfl s0
      have c0 := (hI.tb (hI.not16 (by decide) hS)).cell 2
      simp at c0
      have hk := hK _ w' (hI.quiet (by decide) hS rfl)
      clear hA hA0 hK
      simp [Oper.wp, go_sem, a35, c0]
      exact hk
    · intro S w' A K hA hA0 hI hS haf hK
      obtain ⟨x1, s1⟩ := haf ⟨1, .data⟩ (by simp) rfl
      obtain rfl := hI.v1 _ s1
      have a36 := hA 36 1 _ rfl s1
      have hk := hK _ w' (hI.quiet (by decide) hS rfl)
      clear hA hA0 hK
      simp [Oper.wp, go_sem, a36]
      exact hk
    · intro S w' A K hA hA0 hI hS haf hK
      obtain ⟨x2, s2⟩ := haf ⟨2, .data⟩ (by simp) rfl
      obtain rfl := hI.v2 _ s2
      have a37 := hA 37 2 _ rfl s2
      have hk := hK _ w' (hI.quiet (by decide) hS rfl)
      clear hA hA0 hK
      simp [Oper.wp, go_sem, a37, hwr]
      exact hk
    · intro S w' A K hA hA0 hI hS haf hK
      obtain ⟨x3, s3⟩ := haf ⟨3, .data⟩ (by simp) rfl
      obtain rfl := hI.v3 _ s3
      exact wp_make_room w' (.tmp 38) _ rfl _ i0 _ 2 _ _ Try.underlying24 hi hz0 hz1 hz2 (eval_at (hA 38 3 _ rfl s3)) hby (by omega) (fun zs hzs => hK _ _ (hI.make hS zs hzs))
    · intro S w' A K hA hA0 hI hS haf hK
      have a1 : A.tmps[1]? = some (.pointer (some ⟨w.heap.size, 0, none⟩)) := (hA0 1 (by kernel_rfl)).trans rfl
      have hk := hK _ w' (hI.quiet (by decide) hS rfl)
      clear hA hA0 hK
      simp [Oper.wp, go_sem, a1]
      exact hk
    · intro S w' A K hA hA0 hI hS haf hK
      obtain ⟨x5, s5⟩ := haf ⟨5, .data⟩ (by simp) rfl
      obtain rfl := hI.v5 _ s5
      have a40 := hA 40 5 _ rfl s5
      have c0 := (hI.tb (hI.not16 (by decide) hS)).cell 2
      simp at c0
      have hk := hK _ w' (hI.quiet (by decide) hS rfl)
      clear hA hA0 hK
      simp [Oper.wp, go_sem, a40, c0]
      exact hk
    · intro S w' A K hA hA0 hI hS haf hK
      obtain ⟨x4, s4⟩ := haf ⟨4, .data⟩ (by simp) rfl
      obtain ⟨x6, s6⟩ := haf ⟨6, .data⟩ (by simp) rfl
      obtain rfl := hI.v6 _ s6
      obtain ⟨g, cur, rfl, hg, hcs, hbg, hgo⟩ := hI.fill hS s4
      have hat := (hT.pk).keep (hI.below hB2 (Nat.le_refl _))
      have hfl := flat_len Band.vals 2 (fun _ => rfl) t.pk
      refine wp_append_room' w' (.tmp 39) (.tmp 41) _ rfl _ i0 2 Try.underlying24 hi hz1 g 0 _ cur hg (eval_at (hA 39 4 _ rfl s4)) _ _ _ (t.pk.flatMap Band.vals) (eval_at (hA 41 6 _ rfl s6)) (fun e => (e ▸ hat).none_nil) hfl (hat.cells (fun _ => rfl)) (fun u hu => by obtain ⟨x, -, hx⟩ := List.mem_flatMap.1 hu; simp [Band.vals] at hx; rcases hx with rfl | rfl <;> rfl) (by omega) (by rw [hcs]; omega) ?_
      rw [Nat.zero_add]
      refine hK _ _ (hgo _ ?_ ?_)
      · simp [hfl, hcs]; omega
      · simp [← hfl]
    · intro S w' A K hA hA0 hI hS haf hK
      have hk := hK _ w' (hI.quiet (by decide) hS rfl)
      clear hA hA0 hK
      simp [Oper.wp, go_sem]
      exact hk
    · intro S w' A K hA hA0 hI hS haf hK
      obtain ⟨x8, s8⟩ := haf ⟨8, .data⟩ (by simp) rfl
      obtain rfl := hI.v8 _ s8
      have a43 := hA 43 8 _ rfl s8
      have hk := hK _ _ (hI.marks hS)
      clear hA hA0 hK
      simp [Oper.wp, go_sem, a43]
      exact hk
    · intro S w' A K hA hA0 hI hS haf hK
      obtain ⟨x7, s7⟩ := haf ⟨7, .data⟩ (by simp) rfl
      obtain ⟨x9, s9⟩ := haf ⟨9, .data⟩ (by simp) rfl
      obtain ⟨g, cur, b, rfl, rfl, hg, hcs, hF, hbx, hgo⟩ := hI.close hS s7 s9
      have hfl := flat_len Band.vals 2 (fun _ => rfl) t.pk
      refine wp_append_room' w' (.tmp 42) (.tmp 44) _ rfl _ i0 2 Try.underlying24 hi hz1 g _ _ cur hg (eval_at (hA 42 7 _ rfl s7)) _ 1 1 [.int .i64 (-7), .int .i64 0] (eval_at (hA 44 9 _ rfl s9)) (fun e => by cases e) rfl (fun ad e j u hj => by cases e; rw [addr_zero, hbx.cell]; simpa using hj) (fun u hu => by simp at hu; rcases hu with rfl | rfl <;> rfl) (Nat.le_refl _) (by rw [hcs]; omega) ?_
      have hdr : cur.toList.drop (t.pk.length * 2 + ([.int .i64 (-7), .int .i64 0] : List Value).length) = [] := List.drop_eq_nil_of_le (by simp [hcs]; omega)
      rw [hdr, hF, List.append_nil]
      refine hK _ _ (hgo _ ?_ ?_ rfl)
      · simp [hfl]; omega
      · simp [← hfl]
    · intro S w' A K hA hA0 hI hS haf hK
      have a1 : A.tmps[1]? = some (.pointer (some ⟨w.heap.size, 0, none⟩)) := (hA0 1 (by kernel_rfl)).trans rfl
      have hk := hK _ w' (hI.quiet (by decide) hS rfl)
      clear hA hA0 hK
      simp [Oper.wp, go_sem, a1]
      exact hk
    · intro S w' A K hA hA0 hI hS haf hK
      obtain ⟨x11, s11⟩ := haf ⟨11, .data⟩ (by simp) rfl
      obtain rfl := hI.v11 _ s11
      have a46 := hA 46 11 _ rfl s11
      have c0 := (hI.tb (hI.not16 (by decide) hS)).cell 2
      simp at c0
      have hk := hK _ w' (hI.quiet (by decide) hS rfl)
      clear hA hA0 hK
      simp [Oper.wp, go_sem, a46, c0]
      exact hk
    · intro S w' A K hA hA0 hI hS haf hK
      obtain ⟨x12, s12⟩ := haf ⟨12, .data⟩ (by simp) rfl
      obtain rfl := hI.v12 _ s12
      have a47 := hA 47 12 _ rfl s12
      have hk := hK _ w' (hI.quiet (by decide) hS rfl)
      clear hA hA0 hK
      simp [Oper.wp, go_sem, a47]
      exact hk
    · intro S w' A K hA hA0 hI hS haf hK
      obtain ⟨x10, s10⟩ := haf ⟨10, .data⟩ (by simp) rfl
      obtain ⟨x13, s13⟩ := haf ⟨13, .data⟩ (by simp) rfl
      obtain rfl := hI.v13 _ s13
      obtain ⟨x7, s7⟩ := hI.d10 _ s10
      obtain ⟨x4, s4⟩ := hI.d7 _ s7
      obtain ⟨g, cur, -, -, hg, hcs, -, e10, -, -⟩ := hI.own _ s4
      obtain ⟨rfl, hcur⟩ := e10 _ s10
      have a45 := hA 45 10 _ rfl s10
      have a48 := hA 48 13 _ rfl s13
      have hk := hK (.slice (some ⟨g, 0, none⟩) t.pk.length (t.pk.length + 1)) w' (hI.quiet (by decide) hS ⟨g, rfl, s10⟩)
      clear hA hA0 hK
      have hbnd : (t.pk.length : Int) ≤ (t.pk.length : Int) + 1 := by omega
      simp [Oper.wp, go_sem, a45, a48, hbnd]
      exact hk
    · intro S w' A K hA hA0 hI hS haf hK
      have a1 : A.tmps[1]? = some (.pointer (some ⟨w.heap.size, 0, none⟩)) := (hA0 1 (by kernel_rfl)).trans rfl
      have hk := hK _ w' (hI.quiet (by decide) hS rfl)
      clear hA hA0 hK
      simp [Oper.wp, go_sem, a1]
      exact hk
    · intro S w' A K hA hA0 hI hS haf hK
      have hall : ∀ i, i < 16 → ∃ u, S i = some u := fun i hi => by
        rcases (show i = 15 ∨ i = 14 ∨ i = 13 ∨ i = 12 ∨ i = 11 ∨ i = 10 ∨ i = 9 ∨ i = 8 ∨ i = 7 ∨ i = 6 ∨ i = 5 ∨ i = 4 ∨ i = 3 ∨ i = 2 ∨ i = 1 ∨ i = 0 by omega) with rfl | rfl | rfl | rfl | rfl | rfl | rfl | rfl | rfl | rfl | rfl | rfl | rfl | rfl | rfl | rfl
        · exact haf ⟨15, .data⟩ (by simp) rfl
        · exact haf ⟨14, .data⟩ (by simp) rfl
        all_goals exact haf ⟨_, .phase⟩ (by simp) rfl
      obtain ⟨x14, s14⟩ := hall 14 (by decide)
      obtain ⟨x15, s15⟩ := hall 15 (by decide)
      obtain rfl := hI.v15 _ s15
      obtain ⟨x10, s10⟩ := hI.d14 _ s14
      obtain ⟨x7, s7⟩ := hI.d10 _ s10
      obtain ⟨x4, s4⟩ := hI.d7 _ s7
      obtain ⟨g, cur, -, -, -, -, -, -, e14, -⟩ := hI.own _ s4
      obtain rfl := e14 _ s14
      have a49 := hA 49 14 _ rfl s14
      have a50 := hA 50 15 _ rfl s15
      have c0 := (hI.tb hS).cell 2
      simp at c0
      have z0 := (hI.tb hS).free 2
      have hk := hK undef _ (hI.stored hS hall s14)
      clear hA hA0 hK
      simp [Oper.wp, go_sem, a49, a50, c0, z0]
      exact hk
  intro S w4 hI hall
  obtain ⟨x0, e0⟩ := hall 0 (by decide)
  obtain ⟨x1, e1⟩ := hall 1 (by decide)
  obtain ⟨x2, e2⟩ := hall 2 (by decide)
  obtain ⟨x3, e3⟩ := hall 3 (by decide)
  obtain ⟨x4, e4⟩ := hall 4 (by decide)
  obtain ⟨x5, e5⟩ := hall 5 (by decide)
  obtain ⟨x6, e6⟩ := hall 6 (by decide)
  obtain ⟨x7, e7⟩ := hall 7 (by decide)
  obtain ⟨x8, e8⟩ := hall 8 (by decide)
  obtain ⟨x9, e9⟩ := hall 9 (by decide)
  obtain ⟨x10, e10⟩ := hall 10 (by decide)
  obtain ⟨x11, e11⟩ := hall 11 (by decide)
  obtain ⟨x12, e12⟩ := hall 12 (by decide)
  obtain ⟨x13, e13⟩ := hall 13 (by decide)
  obtain ⟨x14, e14⟩ := hall 14 (by decide)
  obtain ⟨x15, e15⟩ := hall 15 (by decide)
  obtain ⟨x16, e16⟩ := hall 16 (by decide)
  obtain ⟨g3, cur3, HX3, hg3, HG3, hc3⟩ := hI.done e16
  replace HX3 : Box w4 w.heap.size (t.cells ⟨some ⟨g1, 0, none⟩, t.st.length + 1, some ⟨g2, 0, none⟩, t.sp.length + 1, some ⟨g3, 0, none⟩, t.pk.length + 1⟩) 27 := HX3
  have hB3 := hI.below hB2 (Nat.le_refl _)
  replace HZ := Lib.hid (hI.other HZ.out (by simp))
  replace HG1 := hI.other HG1 (by omega)
  replace HG2 := hI.other HG2 (by omega)
  have hlt3 : g3 < w4.heap.size := HG3.lt
  have hsz3 : w3.heap.size ≤ w4.heap.size := hI.size
  simp only [puts, e0, e1, e2, e3, e4, e5, e6, e7, e8, e9, e10, e11, e12, e13, e14, e15, e16]
  simp only [Act.put, List.setIfInBounds_toArray, List.set_cons_succ, List.set_cons_zero]
  clear hI hall e0 e1 e2 e3 e4 e5 e6 e7 e8 e9 e10 e11 e12 e13 e14 e15 e16 hi hz0 hz1 hz2 hwr hby HX2
  obtain ⟨t0, t1, t2, t3, t4, t5, t6, t7, t8, t9, t10, t11, t12, t13⟩ := tcells HX3
  have HY := HZ.out
  have y0 := HY.cell 0
  have z0 := HY.free 0
  have y1 := HY.cell 1
  have z1 := HY.free 1
  have y2 := HY.cell 2
  have z2 := HY.free 2
  have y3 := HY.cell 3
  have z3 := HY.free 3
  have y4 := HY.cell 4
  have z4 := HY.free 4
  have y5 := HY.cell 5
  have z5 := HY.free 5
  have y6 := HY.cell 6
  have z6 := HY.free 6
  have y7 := HY.cell 7
  have z7 := HY.free 7
  have y8 := HY.cell 8
  have z8 := HY.free 8
  have y9 := HY.cell 9
  have z9 := HY.free 9
  have y10 := HY.cell 10
  have z10 := HY.free 10
  have y11 := HY.cell 11
  have z11 := HY.free 11
  have y12 := HY.cell 12
  have z12 := HY.free 12
  have y13 := HY.cell 13
  have z13 := HY.free 13
  simp at y0 y1 y2 y3 y4 y5 y6 y7 y8 y9 y10 y11 y12 y13
  go_wp2_with fail
  clear y0 z0 t0 y1 z1 t1 y2 z2 t2 y3 z3 t3 y4 z4 t4 y5 z5 t5 y6 z6 t6 y7 z7 t7 y8 z8 t8 y9 z9 t9 y10 z10 t10 y11 z11 t11 y12 z12 t12 y13 z13 t13
  replace HY := HY.set 0 (.slice (some ⟨g1, 0, none⟩) t.st.length (t.st.length + 1))
  replace HG1 := HG1.other ⟨w.heap.size + 1, 0, none⟩ (by show g1 ≠ w.heap.size + 1; omega) (.slice (some ⟨g1, 0, none⟩) t.st.length (t.st.length + 1))
  replace HG2 := HG2.other ⟨w.heap.size + 1, 0, none⟩ (by show g2 ≠ w.heap.size + 1; omega) (.slice (some ⟨g1, 0, none⟩) t.st.length (t.st.length + 1))
  replace HG3 := HG3.other ⟨w.heap.size + 1, 0, none⟩ (by show g3 ≠ w.heap.size + 1; omega) (.slice (some ⟨g1, 0, none⟩) t.st.length (t.st.length + 1))
  have hB4 := bSet hB3 (p := ⟨w.heap.size + 1, 0, none⟩) (by show w.heap.size ≤ w.heap.size + 1; omega) (.slice (some ⟨g1, 0, none⟩) t.st.length (t.st.length + 1))
  replace HY := HY.set 1 (.slice (some ⟨g2, 0, none⟩) t.sp.length (t.sp.length + 1))
  replace HG1 := HG1.other ⟨w.heap.size + 1, 1, none⟩ (by show g1 ≠ w.heap.size + 1; omega) (.slice (some ⟨g2, 0, none⟩) t.sp.length (t.sp.length + 1))
  replace HG2 := HG2.other ⟨w.heap.size + 1, 1, none⟩ (by show g2 ≠ w.heap.size + 1; omega) (.slice (some ⟨g2, 0, none⟩) t.sp.length (t.sp.length + 1))
  replace HG3 := HG3.other ⟨w.heap.size + 1, 1, none⟩ (by show g3 ≠ w.heap.size + 1; omega) (.slice (some ⟨g2, 0, none⟩) t.sp.length (t.sp.length + 1))
  have hB5 := bSet hB4 (p := ⟨w.heap.size + 1, 1, none⟩) (by show w.heap.size ≤ w.heap.size + 1; omega) (.slice (some ⟨g2, 0, none⟩) t.sp.length (t.sp.length + 1))
  replace HY := HY.set 2 (.slice (some ⟨g3, 0, none⟩) t.pk.length (t.pk.length + 1))
  replace HG1 := HG1.other ⟨w.heap.size + 1, 2, none⟩ (by show g1 ≠ w.heap.size + 1; omega) (.slice (some ⟨g3, 0, none⟩) t.pk.length (t.pk.length + 1))
  replace HG2 := HG2.other ⟨w.heap.size + 1, 2, none⟩ (by show g2 ≠ w.heap.size + 1; omega) (.slice (some ⟨g3, 0, none⟩) t.pk.length (t.pk.length + 1))
  replace HG3 := HG3.other ⟨w.heap.size + 1, 2, none⟩ (by show g3 ≠ w.heap.size + 1; omega) (.slice (some ⟨g3, 0, none⟩) t.pk.length (t.pk.length + 1))
  have hB6 := bSet hB5 (p := ⟨w.heap.size + 1, 2, none⟩) (by show w.heap.size ≤ w.heap.size + 1; omega) (.slice (some ⟨g3, 0, none⟩) t.pk.length (t.pk.length + 1))
  replace HY := HY.set 3 (.float .f64 t.off)
  replace HG1 := HG1.other ⟨w.heap.size + 1, 3, none⟩ (by show g1 ≠ w.heap.size + 1; omega) (.float .f64 t.off)
  replace HG2 := HG2.other ⟨w.heap.size + 1, 3, none⟩ (by show g2 ≠ w.heap.size + 1; omega) (.float .f64 t.off)
  replace HG3 := HG3.other ⟨w.heap.size + 1, 3, none⟩ (by show g3 ≠ w.heap.size + 1; omega) (.float .f64 t.off)
  have hB7 := bSet hB6 (p := ⟨w.heap.size + 1, 3, none⟩) (by show w.heap.size ≤ w.heap.size + 1; omega) (.float .f64 t.off)
  replace HY := HY.set 4 (.int .i64 t.bus)
  replace HG1 := HG1.other ⟨w.heap.size + 1, 4, none⟩ (by show g1 ≠ w.heap.size + 1; omega) (.int .i64 t.bus)
  replace HG2 := HG2.other ⟨w.heap.size + 1, 4, none⟩ (by show g2 ≠ w.heap.size + 1; omega) (.int .i64 t.bus)
  replace HG3 := HG3.other ⟨w.heap.size + 1, 4, none⟩ (by show g3 ≠ w.heap.size + 1; omega) (.int .i64 t.bus)
  have hB8 := bSet hB7 (p := ⟨w.heap.size + 1, 4, none⟩) (by show w.heap.size ≤ w.heap.size + 1; omega) (.int .i64 t.bus)
  replace HY := HY.set 5 (.int .i64 t.busDaily)
  replace HG1 := HG1.other ⟨w.heap.size + 1, 5, none⟩ (by show g1 ≠ w.heap.size + 1; omega) (.int .i64 t.busDaily)
  replace HG2 := HG2.other ⟨w.heap.size + 1, 5, none⟩ (by show g2 ≠ w.heap.size + 1; omega) (.int .i64 t.busDaily)
  replace HG3 := HG3.other ⟨w.heap.size + 1, 5, none⟩ (by show g3 ≠ w.heap.size + 1; omega) (.int .i64 t.busDaily)
  have hB9 := bSet hB8 (p := ⟨w.heap.size + 1, 5, none⟩) (by show w.heap.size ≤ w.heap.size + 1; omega) (.int .i64 t.busDaily)
  replace HY := HY.set 6 (.int .i64 t.busWeekly)
  replace HG1 := HG1.other ⟨w.heap.size + 1, 6, none⟩ (by show g1 ≠ w.heap.size + 1; omega) (.int .i64 t.busWeekly)
  replace HG2 := HG2.other ⟨w.heap.size + 1, 6, none⟩ (by show g2 ≠ w.heap.size + 1; omega) (.int .i64 t.busWeekly)
  replace HG3 := HG3.other ⟨w.heap.size + 1, 6, none⟩ (by show g3 ≠ w.heap.size + 1; omega) (.int .i64 t.busWeekly)
  have hB10 := bSet hB9 (p := ⟨w.heap.size + 1, 6, none⟩) (by show w.heap.size ≤ w.heap.size + 1; omega) (.int .i64 t.busWeekly)
  replace HY := HY.set 7 (.int .i64 t.hopper)
  replace HG1 := HG1.other ⟨w.heap.size + 1, 7, none⟩ (by show g1 ≠ w.heap.size + 1; omega) (.int .i64 t.hopper)
  replace HG2 := HG2.other ⟨w.heap.size + 1, 7, none⟩ (by show g2 ≠ w.heap.size + 1; omega) (.int .i64 t.hopper)
  replace HG3 := HG3.other ⟨w.heap.size + 1, 7, none⟩ (by show g3 ≠ w.heap.size + 1; omega) (.int .i64 t.hopper)
  have hB11 := bSet hB10 (p := ⟨w.heap.size + 1, 7, none⟩) (by show w.heap.size ≤ w.heap.size + 1; omega) (.int .i64 t.hopper)
  replace HY := HY.set 8 (.int .i64 t.most)
  replace HG1 := HG1.other ⟨w.heap.size + 1, 8, none⟩ (by show g1 ≠ w.heap.size + 1; omega) (.int .i64 t.most)
  replace HG2 := HG2.other ⟨w.heap.size + 1, 8, none⟩ (by show g2 ≠ w.heap.size + 1; omega) (.int .i64 t.most)
  replace HG3 := HG3.other ⟨w.heap.size + 1, 8, none⟩ (by show g3 ≠ w.heap.size + 1; omega) (.int .i64 t.most)
  have hB12 := bSet hB11 (p := ⟨w.heap.size + 1, 8, none⟩) (by show w.heap.size ≤ w.heap.size + 1; omega) (.int .i64 t.most)
  replace HY := HY.set 9 (.int .i64 t.longest)
  replace HG1 := HG1.other ⟨w.heap.size + 1, 9, none⟩ (by show g1 ≠ w.heap.size + 1; omega) (.int .i64 t.longest)
  replace HG2 := HG2.other ⟨w.heap.size + 1, 9, none⟩ (by show g2 ≠ w.heap.size + 1; omega) (.int .i64 t.longest)
  replace HG3 := HG3.other ⟨w.heap.size + 1, 9, none⟩ (by show g3 ≠ w.heap.size + 1; omega) (.int .i64 t.longest)
  have hB13 := bSet hB12 (p := ⟨w.heap.size + 1, 9, none⟩) (by show w.heap.size ≤ w.heap.size + 1; omega) (.int .i64 t.longest)
  replace HY := HY.set 10 (.int .i64 t.change)
  replace HG1 := HG1.other ⟨w.heap.size + 1, 10, none⟩ (by show g1 ≠ w.heap.size + 1; omega) (.int .i64 t.change)
  replace HG2 := HG2.other ⟨w.heap.size + 1, 10, none⟩ (by show g2 ≠ w.heap.size + 1; omega) (.int .i64 t.change)
  replace HG3 := HG3.other ⟨w.heap.size + 1, 10, none⟩ (by show g3 ≠ w.heap.size + 1; omega) (.int .i64 t.change)
  have hB14 := bSet hB13 (p := ⟨w.heap.size + 1, 10, none⟩) (by show w.heap.size ≤ w.heap.size + 1; omega) (.int .i64 t.change)
  replace HY := HY.set 11 (.int .i64 t.passback)
  replace HG1 := HG1.other ⟨w.heap.size + 1, 11, none⟩ (by show g1 ≠ w.heap.size + 1; omega) (.int .i64 t.passback)
  replace HG2 := HG2.other ⟨w.heap.size + 1, 11, none⟩ (by show g2 ≠ w.heap.size + 1; omega) (.int .i64 t.passback)
  replace HG3 := HG3.other ⟨w.heap.size + 1, 11, none⟩ (by show g3 ≠ w.heap.size + 1; omega) (.int .i64 t.passback)
  have hB15 := bSet hB14 (p := ⟨w.heap.size + 1, 11, none⟩) (by show w.heap.size ≤ w.heap.size + 1; omega) (.int .i64 t.passback)
  replace HY := HY.set 12 (.int .i64 t.delay)
  replace HG1 := HG1.other ⟨w.heap.size + 1, 12, none⟩ (by show g1 ≠ w.heap.size + 1; omega) (.int .i64 t.delay)
  replace HG2 := HG2.other ⟨w.heap.size + 1, 12, none⟩ (by show g2 ≠ w.heap.size + 1; omega) (.int .i64 t.delay)
  replace HG3 := HG3.other ⟨w.heap.size + 1, 12, none⟩ (by show g3 ≠ w.heap.size + 1; omega) (.int .i64 t.delay)
  have hB16 := bSet hB15 (p := ⟨w.heap.size + 1, 12, none⟩) (by show w.heap.size ≤ w.heap.size + 1; omega) (.int .i64 t.delay)
  replace HY := HY.set 13 (.int .i64 t.threshold)
  replace HG1 := HG1.other ⟨w.heap.size + 1, 13, none⟩ (by show g1 ≠ w.heap.size + 1; omega) (.int .i64 t.threshold)
  replace HG2 := HG2.other ⟨w.heap.size + 1, 13, none⟩ (by show g2 ≠ w.heap.size + 1; omega) (.int .i64 t.threshold)
  replace HG3 := HG3.other ⟨w.heap.size + 1, 13, none⟩ (by show g3 ≠ w.heap.size + 1; omega) (.int .i64 t.threshold)
  have hB17 := bSet hB16 (p := ⟨w.heap.size + 1, 13, none⟩) (by show w.heap.size ≤ w.heap.size + 1; omega) (.int .i64 t.threshold)
  clear HZ HX3 hB0 hB1 hB2 hB3 hB4 hB5 hB6 hB7 hB8 hB9 hB10 hB11 hB12 hB13 hB14 hB15 hB16
  generalize World.setCell _ _ _ = w5 at *
  replace HY : Box w5 (w.heap.size + 1) (t.cells ⟨some ⟨g1, 0, none⟩, t.st.length + 1, some ⟨g2, 0, none⟩, t.sp.length + 1, some ⟨g3, 0, none⟩, t.pk.length + 1⟩) 27 := HY.cast (by simp)
  obtain ⟨t0, t1, t2, t3, t4, t5, t6, t7, t8, t9, t10, t11, t12, t13⟩ := tcells HY
  refine bodyPost_ret (v := .agg (t.cells ⟨some ⟨g1, 0, none⟩, t.st.length + 1, some ⟨g2, 0, none⟩, t.sp.length + 1, some ⟨g3, 0, none⟩, t.pk.length + 1⟩)) (by simp [results, Try.results27, go_sem, t0, t1, t2, t3, t4, t5, t6, t7, t8, t9, t10, t11, t12, t13]) rfl ?_
  exact ⟨_, rfl, ⟨g1, g2, g3, rfl, ⟨_, HG1, hc1⟩, ⟨_, HG2, hc2⟩, ⟨_, HG3, hc3⟩, by omega, by omega, by omega⟩, hB17⟩
end Go.Proofs.Ytmeogadkbbeglaa
