/- What the claim's walk leans on: W19k, Open18. -/
import Derived.Test.YtmeogadkbbeglaaK24
import Derived.Test.YtmeogadkbbeglaaK27
import Derived.Test.YtmeogadkbbeglaaOpen
import Derived.Test.YtmeogadkbbeglaaK4
section
namespace Go.Proofs.Ytmeogadkbbeglaa
open Go.RowKit Go.Rg Go.Proofs.YtmeogadkbbeglaaQ
set_option maxHeartbeats 3200000
set_option maxRecDepth 100000
theorem iDay : (Try.prog.info? 57).map (fun i => (i.zero, i.size, i.bytes)) = some (some (.agg #[.int .i64 0, .int .i64 0, .int .i64 0, .int .i64 0, .int .i64 0, .int .i64 0, .int .i64 0]), 7, 56) := by kernel_rfl
theorem slice_row {α : Type} {w : World} {g : Nat} {cur : Array Value} {T : TypeId} {sz : Nat} {vals : α → List Value} {xs : List α} {mk : List Value} (hX : Box w g cur T) (hs : ∀ x, (vals x).length = sz) (hl : xs.length ≤ 140737488351232) (hc : cur.toList = xs.flatMap vals ++ mk) : SliceAt w sz vals (some ⟨g, 0, none⟩) xs :=
  sliceAt_box hX hs hl fun k v hv => by
    have hk : k < (xs.flatMap vals).length := (List.getElem?_eq_some_iff.1 hv).1
    rw [← Array.getElem?_toList, hc, List.getElem?_append_left hk]; exact hv
theorem mark_row {w : World} {g : Nat} {cur : Array Value} {T : TypeId} (h : Box w g cur T) {F mk : List Value} (hc : cur.toList = F ++ mk) {k : Nat} (hk : F.length = k) {v : Value} (hv : mk[0]? = some v) : w.cell? ⟨g, k, none⟩ = some v := by
  rw [h.cell, ← Array.getElem?_toList, hc, List.getElem?_append_right (by omega), hk, Nat.sub_self]; exact hv
theorem stopW {p : World → Prop} {x : World} (h : ∀ y, Hid (y = x) → p y) : p x := h x (Lib.hid rfl)
theorem bRow {B : Nat} {w W : World} (h : Below B w W) {g : Nat} (hg : B ≤ g) (cur : Array Value) : Below B w (W.setRow g cur) :=
  ⟨h.os, h.tape, h.output, by rw [size_setRow]; exact h.size, fun k hk => (setRow_other W g k cur (by omega)).trans (h.block k hk)⟩
theorem capsweeks_calls (tr : Tariff) (m : TMem) (l : List DayC) (A : Option Addr) (c : Nat) (w : World) (hT : tr.At w m) (hcp : m.Caps tr) (hA : SliceAt w 7 DayC.vals A l) (hby0 : l.length * 56 ≤ 140737488351232) :
    Calls Try.prog 11 #[.agg (tr.cells m), .slice A l.length c] w fun e w' => e = .returned (.bool true) ∧ Below w.heap.size w w' := by
  have HB := Below.refl w.heap.size w
  have hlen := hA.len
  have HX := Box.new w (tr.cells m) 27
  have hB := bAlloc HB (.cells (tr.cells m) 27)
  have CW := fun A c W h1 h2 => week_calls tr m l A c W h1 h2
  have CR := fun W h1 h2 => refweek_calls tr m l A c W h1 hcp h2
  generalize weekC tr l = q at CW CR
  obtain ⟨q1, q2⟩ := q
  simp only at CW CR
  obtain ⟨i0, hi, hz0, hz1, hz2⟩ := info_parts iDay
  have hby : 56 * (l.length + 1) ≤ 281474976710656 := by omega
  have hfl := flat_len DayC.vals 7 (fun _ => rfl) l
  go_enter Try.func11, Try.ntmps11
  go_wp2_with fail
  refine (awake19_calls _).mono ?_
  rintro _ wq ⟨rfl, hb⟩
  replace HX := HX.below' hb
  replace hB := bThen hB hb
  clear hb
  go_wp2_with (at_make; refine wpList_plain rfl fun K hK => wp_make_room _ (.tmp 16) _ rfl _ i0 _ 7 _ l.length Try.underlying61 hi hz0 hz1 hz2 rfl hby (by omega) ?_)
  intro zs hzs
  refine hK _ _ ?_
  clear hK
  have hge := hB.size
  have hxg : w.heap.size ≠ wq.heap.size := by have := HX.lt; omega
  have HG := Box.new wq zs 57
  have hz := bAlloc (Below.refl wq.heap.size wq) (.cells zs 57)
  replace HX := HX.below' hz
  replace hB := bThen hB hz
  clear hz
  generalize hgg : wq.heap.size = g at *
  have HGG := Lib.hid hgg
  clear hgg
  generalize wq.alloc (.cells zs 57) = w1 at *
  have hat := hA.keep hB
  go_wp2_with (at_builtin; refine wpList_plain rfl fun K hK => wp_append_room' _ (.tmp 17) (.tmp 18) _ rfl _ i0 7 Try.underlying61 hi hz1 g 0 _ zs HG rfl _ _ _ (l.flatMap DayC.vals) rfl (fun e => (e ▸ hat).none_nil) hfl (hat.cells (fun _ => rfl)) (fun u hu => by obtain ⟨x, -, hx⟩ := List.mem_flatMap.1 hu; simp [DayC.vals] at hx; rcases hx with rfl | rfl | rfl | rfl | rfl | rfl | rfl <;> rfl) (by omega) (by rw [hzs]; omega) (stopW ?_))
  intro w2 hw2
  replace hw2 := hw2.out
  refine hK _ _ ?_
  clear hK
  have hcur : ∃ cur : Array Value, w2 = w1.setRow g cur ∧ cur.size = (l.length + 1) * 7 ∧ cur.toList.take (l.length * 7) = l.flatMap DayC.vals := ⟨_, hw2, by simp [hfl, hzs]; omega, by simp [← hfl]⟩
  clear hw2
  obtain ⟨cur, hw2, hcs, hct⟩ := hcur
  have HG2 : Box w2 g cur 57 := hw2 ▸ box_setRow HG
  have HX2 : Box w2 w.heap.size (tr.cells m) 27 := hw2 ▸ box_other HX hxg
  have hB2 : Below w.heap.size w w2 := hw2 ▸ bRow hB (by omega) cur
  clear hw2 HG HX hB hat hzs
  have HG := Lib.hid HG2
  clear HG2
  go_wp2_with (at_builtin; refine wpList_plain rfl fun K hK => wp_append_room' _ (.tmp 19) (.tmp 21) _ rfl _ i0 7 Try.underlying61 hi hz1 g l.length (l.length + 1) cur (HG.out.alloc _) rfl (some ⟨w2.heap.size, 0, none⟩) 1 1 ((#[.int .i64 (-77), .int .i64 0, .int .i64 0, .int .i64 0, .int .i64 0, .int .i64 0, .int .i64 0] : Array Value).toList) rfl (fun e => by cases e) rfl (fun ad e j u hj => by cases e; rw [addr_zero, (Box.new w2 #[.int .i64 (-77), .int .i64 0, .int .i64 0, .int .i64 0, .int .i64 0, .int .i64 0, .int .i64 0] 57).cell]; simpa using hj) (fun u hu => by simp at hu; rcases hu with rfl | rfl <;> rfl) (Nat.le_refl _) (by rw [hcs]; omega) (stopW ?_))
  intro w4 hw4
  replace hw4 := hw4.out
  refine hK _ _ ?_
  clear hK
  have HG3 := HG.out.alloc (.cells #[.int .i64 (-77), .int .i64 0, .int .i64 0, .int .i64 0, .int .i64 0, .int .i64 0, .int .i64 0] 57)
  have hz := bAlloc (Below.refl w2.heap.size w2) (.cells #[.int .i64 (-77), .int .i64 0, .int .i64 0, .int .i64 0, .int .i64 0, .int .i64 0, .int .i64 0] 57)
  have HX3 := HX2.below' hz
  have hB3 := bThen hB2 hz
  generalize w2.alloc (.cells #[.int .i64 (-77), .int .i64 0, .int .i64 0, .int .i64 0, .int .i64 0, .int .i64 0, .int .i64 0] 57) = w3 at *
  clear hz HG HX2 hB2
  have hcur : ∃ cur2 : Array Value, w4 = w3.setRow g cur2 ∧ cur2.toList = l.flatMap DayC.vals ++ (#[.int .i64 (-77), .int .i64 0, .int .i64 0, .int .i64 0, .int .i64 0, .int .i64 0, .int .i64 0] : Array Value).toList := by
    refine ⟨_, hw4, ?_⟩
    have hdr : cur.toList.drop (l.length * 7 + 7) = [] := List.drop_eq_nil_of_le (by simp [hcs]; omega)
    simp [hdr, hct]
  clear hw4 hcs hct
  obtain ⟨cur2, hw4, hc2⟩ := hcur
  have HG : Box w4 g cur2 57 := hw4 ▸ box_setRow HG3
  have HX : Box w4 w.heap.size (tr.cells m) 27 := hw4 ▸ box_other HX3 hxg
  have hB : Below w.heap.size w w4 := hw4 ▸ bRow hB3 (by omega) cur2
  clear hw4 HG3 HX3 hB3
  have HC2 := Lib.hid hc2
  clear hc2
  have SI : SliceAt w4 7 DayC.vals (some ⟨g, 0, none⟩) l := slice_row HG (fun _ => rfl) hlen HC2.out
  have CWn := fun n => CW (some ⟨g, 0, none⟩) (l.length + 1) (w4.ext n) ((hT.keep hB).keep (World.below_ext w4 n)) (SI.keep (World.below_ext w4 n))
  have hge := hB.size
  have ltg := HG.lt
  obtain ⟨t0, t1, t2, t3, t4, t5, t6, t7, t8, t9, t10, t11, t12, t13⟩ := tcells HX
  have ltx := HX.lt
  have hll : (l.length : Int) ≤ (l.length : Int) + 1 := by omega
  go_wp2_with fail
  (refine wp_region_calm_lit (by kernel_rfl) (by kernel_rfl) ?_; (repeat (go_big_quiet_step ((go_at_call 44; exact Calls.calm (CWn _))))); refine wpQuiet_nil ?_; intro _ hw'; obtain ⟨nq, hw''⟩ := hw'; subst hw'')
  have hwe := World.below_ext w4 nq
  replace HX := HX.below' hwe
  replace HG := HG.below' hwe
  replace hB := bThen hB hwe
  clear hwe CWn CW SI t0 t1 t2 t3 t4 t5 t6 t7 t8 t9 t10 t11 t12 t13 ltx ltg
  generalize w4.ext nq = w5 at *
  have hm := mark_row HG HC2.out hfl rfl
  have ltg := HG.lt
  go_wp2_with fail
  go_loopw [9, 10] (fun st i wr => ∃ (k : Nat), k ≤ l.length ∧ st = .bool true ∧ i = .int .i64 k ∧ Box wr w.heap.size (tr.cells m) 27 ∧ Box wr g cur2 57 ∧ Below w.heap.size w wr) (fun _ i _ => l.length - (intOf i).toNat)
  case atStart => exact ⟨0, by omega, rfl, rfl, HX, HG, hB⟩
  case round =>
    clear HX HG hB hm ltg
    obtain ⟨k, hk, rfl, rfl, HX, HG, hB⟩ := hrel
    by_cases hlt : k < l.length
    · obtain ⟨b, off, hA2, c0, c1, c2, c3, c4, c5, c6⟩ := elemDy hA hB k hlt
      obtain ⟨b2, off2, e2, d0, d1, d2, d3, d4, d5, d6⟩ := elemDy (slice_row HG (fun _ => rfl) hlen HC2.out) (Below.refl _ _) k hlt
      cases e2
      simp only [Nat.zero_add] at d0 d1 d2 d3 d4 d5 d6
      subst hA2
      have ltb := World.block_lt_of_cell? _ _ c0
      have ltg := HG.lt
      generalize l[k] = d at *
      go_wp2_with fail
      (refine wp_region_calm_lit (by kernel_rfl) (by kernel_rfl) ?_; (repeat (go_big_quiet_step (fail))); refine wpQuiet_nil ?_; intro _ hw'; obtain ⟨nq, hw''⟩ := hw'; subst hw'')
      have hwe := World.below_ext wr nq
      replace HX := HX.below' hwe
      replace HG := HG.below' hwe
      replace hB := bThen hB hwe
      clear hwe c0 c1 c2 c3 c4 c5 c6 d0 d1 d2 d3 d4 d5 d6 ltb ltg
      generalize wr.ext nq = wr2 at *
      go_wp2_with fail
      go_roundw
      case rel => exact ⟨k + 1, by omega, rfl, by go_num, HX, HG, hB⟩
      case measure => simp [intOf]; omega
    · obtain rfl : k = l.length := by omega
      obtain ⟨t0, t1, t2, t3, t4, t5, t6, t7, t8, t9, t10, t11, t12, t13⟩ := tcells HX
      have ltx := HX.lt
      go_wp2_with fail
      refine (CR _ (hT.keep hB) (hA.keep hB)).mono ?_
      rintro _ w8 ⟨rfl, hb8⟩
      go_wp2_with fail
      go_ret
      exact ⟨rfl, bThen hB hb8⟩
end Go.Proofs.Ytmeogadkbbeglaa
end
section
namespace Go.Proofs.Ytmeogadkbbeglaa
open Go.RowKit Go.ChangeShapes Go.WideShapes Go.ChangeAt
set_option linter.unusedVariables false
def Journey.wf (s : Journey) : Prop := s.kind.in64 ∧ s.frm.in64 ∧ s.dst.in64 ∧ s.start.in64 ∧ s.stop.in64 ∧ True
def DayC.wf (s : DayC) : Prop := s.day.in64 ∧ s.rail.in64 ∧ s.bus.in64 ∧ s.capped.in64 ∧ s.most.in64 ∧ s.low.in64 ∧ s.high.in64
theorem open_DayC {H : Type} {enc : TypeId × Value → H} {w : World} {base fuel : Nat} {spare : Nat → Bool} {held : Bool} {cs : List Value} {x : DataW H × List MemPlace} (h : DataW.trod enc Try.prog w base spare held fuel 57 cs = some x) : ∃ s : DayC, cs = s.vals ∧ s.wf := by
  obtain ⟨xs, n, rfl, hx, hl, hn, hf⟩ := DataW.trod_struct Try.underlying57 h
  have hc : Try.prog.cellsOf 57 = 7 := by kernel_rfl
  rw [hc] at hl
  have c_i : Try.prog.cellsOf 3 = 1 := by kernel_rfl
  obtain ⟨d0, d1, d2, d3, d4, d5, d6, rfl⟩ := len_7 _ hl
  have g0 := hf 0 _ rfl
  rw [List.getElem?_eq_getElem (show 0 < xs.length by rw [hn]; decide)] at g0
  obtain ⟨n0, e0, -, b0⟩ := DataW.trod_int Try.underlying3 g0
  simp [c_i] at e0
  subst e0
  have g1 := hf 1 _ rfl
  rw [List.getElem?_eq_getElem (show 1 < xs.length by rw [hn]; decide)] at g1
  obtain ⟨n1, e1, -, b1⟩ := DataW.trod_int Try.underlying3 g1
  simp [c_i] at e1
  subst e1
  have g2 := hf 2 _ rfl
  rw [List.getElem?_eq_getElem (show 2 < xs.length by rw [hn]; decide)] at g2
  obtain ⟨n2, e2, -, b2⟩ := DataW.trod_int Try.underlying3 g2
  simp [c_i] at e2
  subst e2
  have g3 := hf 3 _ rfl
  rw [List.getElem?_eq_getElem (show 3 < xs.length by rw [hn]; decide)] at g3
  obtain ⟨n3, e3, -, b3⟩ := DataW.trod_int Try.underlying3 g3
  simp [c_i] at e3
  subst e3
  have g4 := hf 4 _ rfl
  rw [List.getElem?_eq_getElem (show 4 < xs.length by rw [hn]; decide)] at g4
  obtain ⟨n4, e4, -, b4⟩ := DataW.trod_int Try.underlying3 g4
  simp [c_i] at e4
  subst e4
  have g5 := hf 5 _ rfl
  rw [List.getElem?_eq_getElem (show 5 < xs.length by rw [hn]; decide)] at g5
  obtain ⟨n5, e5, -, b5⟩ := DataW.trod_int Try.underlying3 g5
  simp [c_i] at e5
  subst e5
  have g6 := hf 6 _ rfl
  rw [List.getElem?_eq_getElem (show 6 < xs.length by rw [hn]; decide)] at g6
  obtain ⟨n6, e6, -, b6⟩ := DataW.trod_int Try.underlying3 g6
  simp [c_i] at e6
  subst e6
  exact ⟨⟨n0, n1, n2, n3, n4, n5, n6⟩, rfl, in64_of b0, in64_of b1, in64_of b2, in64_of b3, in64_of b4, in64_of b5, in64_of b6⟩
def Tap.wf (s : Tap) : Prop := s.device.in64 ∧ s.counter.in64 ∧ s.token.size ≤ maxLen ∧ s.kind.in64 ∧ s.place.in64 ∧ s.time.in64
def Outage.wf (s : Outage) : Prop := s.station.in64 ∧ s.frm.in64 ∧ s.til.in64
def Priced.wf (p : Priced) : Prop := p.j.wf ∧ p.fare.in64
instance : Nonempty Priced := ⟨⟨⟨0, 0, 0, 0, 0, false⟩, 0⟩⟩
instance : Nonempty DayC := ⟨⟨0, 0, 0, 0, 0, 0, 0⟩⟩
instance : Nonempty Journey := ⟨⟨0, 0, 0, 0, 0, false⟩⟩
instance : Nonempty Tap := ⟨⟨0, 0, ⟨#[]⟩, 0, 0, 0⟩⟩
instance : Nonempty Outage := ⟨⟨0, 0, 0⟩⟩
end Go.Proofs.Ytmeogadkbbeglaa
end
