/- How what comes in is opened: structs, slices, tariffs; what is known of their sizes. -/
import Derived.Test.YtmeogadkbbeglaaH1
import Derived.ProofKit
import Derived.OpenShut
import Derived.SizedLaws
import Derived.Deep.Slices
import Derived.Laws.Cover2
namespace Go.Proofs.Ytmeogadkbbeglaa
open Go.RowKit Go.ChangeShapes Go.WideShapes Go.ChangeAt

def _root_.Int.in64 (n : Int) : Prop := -9223372036854775808 ≤ n ∧ n ≤ 9223372036854775807
theorem in64_of {n : Int} (h : (Lit.int .i64 n).wf = true) : n.in64 := bounds_i64 h
instance : Nonempty Station := ⟨⟨0, 0, 0⟩⟩
instance : Nonempty Span := ⟨⟨0, 0, 0, 0, 0⟩⟩
instance : Nonempty Band := ⟨⟨0, 0⟩⟩
-- OPENS
theorem len_2 {α : Type} (l : List α) (h : l.length = 2) : ∃ a0 a1, l = [a0, a1] := by
  match l, h with
  | [a0, a1], _ => exact ⟨a0, a1, rfl⟩
theorem len_3 {α : Type} (l : List α) (h : l.length = 3) : ∃ a0 a1 a2, l = [a0, a1, a2] := by
  match l, h with
  | [a0, a1, a2], _ => exact ⟨a0, a1, a2, rfl⟩
theorem len_5 {α : Type} (l : List α) (h : l.length = 5) : ∃ a0 a1 a2 a3 a4, l = [a0, a1, a2, a3, a4] := by
  match l, h with
  | [a0, a1, a2, a3, a4], _ => exact ⟨a0, a1, a2, a3, a4, rfl⟩
theorem len_6 {α : Type} (l : List α) (h : l.length = 6) : ∃ a0 a1 a2 a3 a4 a5, l = [a0, a1, a2, a3, a4, a5] := by
  match l, h with
  | [a0, a1, a2, a3, a4, a5], _ => exact ⟨a0, a1, a2, a3, a4, a5, rfl⟩
theorem len_7 {α : Type} (l : List α) (h : l.length = 7) : ∃ a0 a1 a2 a3 a4 a5 a6, l = [a0, a1, a2, a3, a4, a5, a6] := by
  match l, h with
  | [a0, a1, a2, a3, a4, a5, a6], _ => exact ⟨a0, a1, a2, a3, a4, a5, a6, rfl⟩
theorem len_14 {α : Type} (l : List α) (h : l.length = 14) : ∃ a0 a1 a2 a3 a4 a5 a6 a7 a8 a9 a10 a11 a12 a13, l = [a0, a1, a2, a3, a4, a5, a6, a7, a8, a9, a10, a11, a12, a13] := by
  match l, h with
  | [a0, a1, a2, a3, a4, a5, a6, a7, a8, a9, a10, a11, a12, a13], _ => exact ⟨a0, a1, a2, a3, a4, a5, a6, a7, a8, a9, a10, a11, a12, a13, rfl⟩
def Station.wf (s : Station) : Prop := s.id.in64 ∧ s.zone.in64 ∧ s.grp.in64
theorem open_Station {H : Type} {enc : TypeId × Value → H} {w : World} {base fuel : Nat} {spare : Nat → Bool} {held : Bool} {cs : List Value} {x : DataW H × List MemPlace} (h : DataW.trod enc Try.prog w base spare held fuel 35 cs = some x) : ∃ s : Station, cs = s.vals ∧ s.wf := by
  obtain ⟨xs, n, rfl, hx, hl, hn, hf⟩ := DataW.trod_struct Try.underlying35 h
  have hc : Try.prog.cellsOf 35 = 3 := by kernel_rfl
  rw [hc] at hl
  have c_i : Try.prog.cellsOf 3 = 1 := by kernel_rfl
  obtain ⟨d0, d1, d2, rfl⟩ := len_3 _ hl
  have g0 := hf 0 _ rfl
  rw [List.getElem?_eq_getElem (show 0 < xs.length by rw [hn]; decide)] at g0
  obtain ⟨n0, e0, -, b0⟩ := DataW.trod_int Try.underlying3 g0
  simp [c_i] at e0
  subst e0
  have g1 := hf 1 _ rfl
  rw [List.getElem?_eq_getElem (show 1 < xs.length by rw [hn]; decide)] at g1
  obtain ⟨n1, e1, -, b1⟩ := DataW.trod_int Try.underlying3 g1
  simp [c_i] at e1
  subst e1
  have g2 := hf 2 _ rfl
  rw [List.getElem?_eq_getElem (show 2 < xs.length by rw [hn]; decide)] at g2
  obtain ⟨n2, e2, -, b2⟩ := DataW.trod_int Try.underlying3 g2
  simp [c_i] at e2
  subst e2
  exact ⟨⟨n0, n1, n2⟩, rfl, in64_of b0, in64_of b1, in64_of b2⟩

def Span.wf (s : Span) : Prop := s.frm.in64 ∧ s.to.in64 ∧ s.single.in64 ∧ s.daily.in64 ∧ s.weekly.in64
theorem open_Span {H : Type} {enc : TypeId × Value → H} {w : World} {base fuel : Nat} {spare : Nat → Bool} {held : Bool} {cs : List Value} {x : DataW H × List MemPlace} (h : DataW.trod enc Try.prog w base spare held fuel 39 cs = some x) : ∃ s : Span, cs = s.vals ∧ s.wf := by
  obtain ⟨xs, n, rfl, hx, hl, hn, hf⟩ := DataW.trod_struct Try.underlying39 h
  have hc : Try.prog.cellsOf 39 = 5 := by kernel_rfl
  rw [hc] at hl
  have c_i : Try.prog.cellsOf 3 = 1 := by kernel_rfl
  obtain ⟨d0, d1, d2, d3, d4, rfl⟩ := len_5 _ hl
  have g0 := hf 0 _ rfl
  rw [List.getElem?_eq_getElem (show 0 < xs.length by rw [hn]; decide)] at g0
  obtain ⟨n0, e0, -, b0⟩ := DataW.trod_int Try.underlying3 g0
  simp [c_i] at e0
  subst e0
  have g1 := hf 1 _ rfl
  rw [List.getElem?_eq_getElem (show 1 < xs.length by rw [hn]; decide)] at g1
  obtain ⟨n1, e1, -, b1⟩ := DataW.trod_int Try.underlying3 g1
  simp [c_i] at e1
  subst e1
  have g2 := hf 2 _ rfl
  rw [List.getElem?_eq_getElem (show 2 < xs.length by rw [hn]; decide)] at g2
  obtain ⟨n2, e2, -, b2⟩ := DataW.trod_int Try.underlying3 g2
  simp [c_i] at e2
  subst e2
  have g3 := hf 3 _ rfl
  rw [List.getElem?_eq_getElem (show 3 < xs.length by rw [hn]; decide)] at g3
  obtain ⟨n3, e3, -, b3⟩ := DataW.trod_int Try.underlying3 g3
  simp [c_i] at e3
  subst e3
  have g4 := hf 4 _ rfl
  rw [List.getElem?_eq_getElem (show 4 < xs.length by rw [hn]; decide)] at g4
  obtain ⟨n4, e4, -, b4⟩ := DataW.trod_int Try.underlying3 g4
  simp [c_i] at e4
  subst e4
  exact ⟨⟨n0, n1, n2, n3, n4⟩, rfl, in64_of b0, in64_of b1, in64_of b2, in64_of b3, in64_of b4⟩

def Band.wf (s : Band) : Prop := s.frm.in64 ∧ s.to.in64
theorem open_Band {H : Type} {enc : TypeId × Value → H} {w : World} {base fuel : Nat} {spare : Nat → Bool} {held : Bool} {cs : List Value} {x : DataW H × List MemPlace} (h : DataW.trod enc Try.prog w base spare held fuel 48 cs = some x) : ∃ s : Band, cs = s.vals ∧ s.wf := by
  obtain ⟨xs, n, rfl, hx, hl, hn, hf⟩ := DataW.trod_struct Try.underlying48 h
  have hc : Try.prog.cellsOf 48 = 2 := by kernel_rfl
  rw [hc] at hl
  have c_i : Try.prog.cellsOf 3 = 1 := by kernel_rfl
  obtain ⟨d0, d1, rfl⟩ := len_2 _ hl
  have g0 := hf 0 _ rfl
  rw [List.getElem?_eq_getElem (show 0 < xs.length by rw [hn]; decide)] at g0
  obtain ⟨n0, e0, -, b0⟩ := DataW.trod_int Try.underlying3 g0
  simp [c_i] at e0
  subst e0
  have g1 := hf 1 _ rfl
  rw [List.getElem?_eq_getElem (show 1 < xs.length by rw [hn]; decide)] at g1
  obtain ⟨n1, e1, -, b1⟩ := DataW.trod_int Try.underlying3 g1
  simp [c_i] at e1
  subst e1
  exact ⟨⟨n0, n1⟩, rfl, in64_of b0, in64_of b1⟩
-- END OPENS

theorem spot_none {w : World} {a : Addr} {v : Value} (h : w.cell? a = some v) : a.spot = none := by
  unfold World.cell? at h
  split at h
  · split at h
    · cases h
    · rename_i hs; simpa using hs
  · cases h
theorem add_flat (b off n : Nat) : (⟨b, off, none⟩ : Addr).add n = ⟨b, off + n, none⟩ := by simp [Addr.add]

theorem choose_fun {α : Type} [Nonempty α] {m : Nat} {p : Nat → α → Prop} (h : ∀ i, i < m → ∃ a, p i a) : ∃ f : Nat → α, ∀ i, i < m → p i (f i) :=
  ⟨fun i => if hi : i < m then Classical.choose (h i hi) else Classical.choice inferInstance, fun i hi => by simp only [hi, dif_pos]; exact Classical.choose_spec (h i hi)⟩

/-- A slice that came in: its elements. -/
theorem slice_open {α : Type} [Nonempty α] {H : Type} {enc : TypeId × Value → H} {P : Program} {w : World} {fuel : Nat} {spare : Nat → Bool} {held : Bool} {t e : TypeId} {cs : List Value} {x : DataW H × List MemPlace} {sz : Nat} {vals : α → List Value} {wf : α → Prop}
    (ht : P.underlying t = some (.slice e)) (hc : P.cellsOf e = sz) (h1 : 0 < sz) (hs : ∀ a, (vals a).length = sz)
    (hel : ∀ (fuel : Nat) (cs : List Value) (x : DataW H × List MemPlace), DataW.trod enc P w 0 spare held fuel e cs = some x → ∃ a : α, cs = vals a ∧ wf a)
    (hw : (x.1.weights P t).all (· ≤ reachBytes) = true) (hb : 0 < P.bytesOf e)
    (h : DataW.trod enc P w 0 spare held fuel t cs = some x) :
    ∃ (A : Option Addr) (xs : List α) (c : Nat), cs = [.slice A xs.length c] ∧ xs.length ≤ c ∧ c ≤ maxLen ∧ SliceAt w sz vals A xs ∧ xs.length * P.bytesOf e ≤ 140737488351232 ∧ (∀ a ∈ xs, wf a) := by
  rcases Go.Deep.open_slice ht h with ⟨rfl, rfl⟩ | ⟨a, len, cap, m, n, D, Pl, rfl, _, hlc, hcm, hm, hx, hi⟩
  · exact ⟨none, [], 0, rfl, by simp, by simp, ⟨by simp, fun i x hx => by simp at hx⟩, by simp, by simp⟩
  · have hlm : len ≤ m := by rw [hm]; split <;> omega
    have hp : ∀ i, i < len → ∃ s : α, w.cells? 0 (a.add (i * sz)) sz = some (vals s) ∧ wf s := fun i hil => by
      obtain ⟨cs', hc', ht'⟩ := hi i (by omega)
      obtain ⟨s, rfl, hwf⟩ := hel _ _ _ ht'
      rw [hc] at hc'
      exact ⟨s, hc', hwf⟩
    obtain ⟨f, hf⟩ := choose_fun hp
    have hbytes : len * P.bytesOf e ≤ 140737488351232 := by
      rw [hx] at hw
      simp only [DataW.weights, ht, List.all_cons, Bool.and_eq_true, decide_eq_true_eq] at hw
      have := hw.1
      simp only [List.length_map, List.length_range] at this
      have h2 : len * P.bytesOf e ≤ (len + (m - len)) * P.bytesOf e := Nat.mul_le_mul_right _ (by omega)
      exact Nat.le_trans h2 (Nat.le_trans this (by decide))
    have hlen : len ≤ 140737488351232 := Nat.le_trans (Nat.le_mul_of_pos_right _ hb) hbytes
    refine ⟨some a, (List.range len).map f, cap, by simp, by simpa using hlc, hcm, ⟨by simpa using hlen, fun i s hs' => ?_⟩, by simpa using hbytes, ?_⟩
    · have hil : i < len := by
        have := (List.getElem?_eq_some_iff.1 hs').1
        simpa using this
      rw [List.getElem?_map, List.getElem?_range hil] at hs'
      simp at hs'
      subst hs'
      obtain ⟨-, -, hcell⟩ := World.cells?_some (hf i hil).1
      have hsp : a.spot = none := by
        obtain ⟨-, -, hcell0⟩ := World.cells?_some (hf 0 (by omega)).1
        have h0 := hcell0 0 h1
        have hv : 0 < (vals (f 0)).length := by rw [hs]; exact h1
        rw [List.getElem?_eq_getElem hv, Nat.zero_mul] at h0
        exact spot_none (a := a) (by simpa [Addr.add] using h0)
      obtain ⟨b, off, sp⟩ := a
      simp only at hsp
      subst hsp
      refine ⟨b, off, rfl, fun j v hv => ?_⟩
      have hj : j < sz := by
        have := (List.getElem?_eq_some_iff.1 hv).1
        rwa [hs] at this
      have := hcell j hj
      rw [add_flat, add_flat] at this
      rw [this]; exact hv
    · intro s hs'
      obtain ⟨i, hil, rfl⟩ := List.mem_map.1 hs'
      exact (hf i (List.mem_range.1 hil)).2

/-- A tariff that came in: its lists' sizes, its numbers' bounds. -/
structure Tariff.In (w : World) (t : Tariff) (m : TMem) : Prop where
  at_ : t.At w m
  st : t.st.length * 24 ≤ 140737488351232
  sp : t.sp.length * 40 ≤ 140737488351232
  pk : t.pk.length * 16 ≤ 140737488351232
  k1 : t.st.length ≤ m.c1
  k2 : t.sp.length ≤ m.c2
  k3 : t.pk.length ≤ m.c3
  wst : ∀ s ∈ t.st, s.wf
  wsp : ∀ s ∈ t.sp, s.wf
  wpk : ∀ s ∈ t.pk, s.wf
  c4 : t.bus.in64
  c5 : t.busDaily.in64
  c6 : t.busWeekly.in64
  c7 : t.hopper.in64
  c8 : t.most.in64
  c9 : t.longest.in64
  c10 : t.change.in64
  c11 : t.passback.in64
  c12 : t.delay.in64
  c13 : t.threshold.in64

theorem weights_field {H : Type} {P : Program} : ∀ {ts : List TypeId} {ds : List (DataW H)}, (DataW.weightsEach P ts ds).all (· ≤ reachBytes) = true → ∀ (i : Nat) (t : TypeId) (d : DataW H), ts[i]? = some t → ds[i]? = some d → (d.weights P t).all (· ≤ reachBytes) = true := by
  intro ts ds h i t d ht hd
  rw [List.all_eq_true] at h ⊢
  intro x hx
  exact h x (DataW.weights_mem_each ht hd x hx)

theorem open_Tariff {H : Type} {enc : TypeId × Value → H} {w : World} {fuel : Nat} {spare : Nat → Bool} {held : Bool} {cs : List Value} {x : DataW H × List MemPlace} (hw : (x.1.weights Try.prog 27).all (· ≤ reachBytes) = true) (h : DataW.trod enc Try.prog w 0 spare held fuel 27 cs = some x) :
    ∃ (t : Tariff) (m : TMem), cs = (t.cells m).toList ∧ t.In w m := by
  obtain ⟨xs, n, rfl, hx, hl, hn, hf⟩ := DataW.trod_struct Try.underlying27 h
  have hc : Try.prog.cellsOf 27 = 14 := by kernel_rfl
  rw [hc] at hl
  have c_i : Try.prog.cellsOf 3 = 1 := by kernel_rfl
  have c_f : Try.prog.cellsOf 25 = 1 := by kernel_rfl
  have c_22 : Try.prog.cellsOf 22 = 1 := by kernel_rfl
  have c_23 : Try.prog.cellsOf 23 = 1 := by kernel_rfl
  have c_24 : Try.prog.cellsOf 24 = 1 := by kernel_rfl
  have k35 : Try.prog.cellsOf 35 = 3 := by kernel_rfl
  have k39 : Try.prog.cellsOf 39 = 5 := by kernel_rfl
  have k48 : Try.prog.cellsOf 48 = 2 := by kernel_rfl
  have b35 : Try.prog.bytesOf 35 = 24 := by kernel_rfl
  have b39 : Try.prog.bytesOf 39 = 40 := by kernel_rfl
  have b48 : Try.prog.bytesOf 48 = 16 := by kernel_rfl
  rw [hx] at hw
  simp only [DataW.weights, Try.underlying27] at hw
  obtain ⟨d0, d1, d2, d3, d4, d5, d6, d7, d8, d9, d10, d11, d12, d13, rfl⟩ := len_14 _ hl
  have g0 := hf 0 _ rfl
  have l0 : 0 < xs.length := by rw [hn]; decide
  rw [List.getElem?_eq_getElem l0] at g0
  have w0 := weights_field hw 0 22 xs[0].1 rfl (by rw [List.getElem?_map, List.getElem?_eq_getElem l0]; rfl)
  obtain ⟨A0, s0, k0, e0, q0, r0, at0, z0, f0⟩ := slice_open (vals := Station.vals) (wf := Station.wf) Try.underlying22 k35 (by decide) (fun _ => rfl) (fun _ _ _ hh => open_Station hh) w0 (by rw [b35]; decide) g0
  simp [c_22] at e0
  subst e0
  rw [b35] at z0
  have g1 := hf 1 _ rfl
  have l1 : 1 < xs.length := by rw [hn]; decide
  rw [List.getElem?_eq_getElem l1] at g1
  have w1 := weights_field hw 1 23 xs[1].1 rfl (by rw [List.getElem?_map, List.getElem?_eq_getElem l1]; rfl)
  obtain ⟨A1, s1, k1, e1, q1, r1, at1, z1, f1⟩ := slice_open (vals := Span.vals) (wf := Span.wf) Try.underlying23 k39 (by decide) (fun _ => rfl) (fun _ _ _ hh => open_Span hh) w1 (by rw [b39]; decide) g1
  simp [c_23] at e1
  subst e1
  rw [b39] at z1
  have g2 := hf 2 _ rfl
  have l2 : 2 < xs.length := by rw [hn]; decide
  rw [List.getElem?_eq_getElem l2] at g2
  have w2 := weights_field hw 2 24 xs[2].1 rfl (by rw [List.getElem?_map, List.getElem?_eq_getElem l2]; rfl)
  obtain ⟨A2, s2, k2, e2, q2, r2, at2, z2, f2⟩ := slice_open (vals := Band.vals) (wf := Band.wf) Try.underlying24 k48 (by decide) (fun _ => rfl) (fun _ _ _ hh => open_Band hh) w2 (by rw [b48]; decide) g2
  simp [c_24] at e2
  subst e2
  rw [b48] at z2
  have g3 := hf 3 _ rfl
  have l3 : 3 < xs.length := by rw [hn]; decide
  rw [List.getElem?_eq_getElem l3] at g3
  obtain ⟨n3, e3, b3⟩ : ∃ b, [d3] = [Value.float .f64 b] ∧ (Lit.float .f64 b).wf = true := by
    simp [c_f] at g3
    cases n with
    | zero => simp [DataW.trod] at g3
    | succ n =>
      unfold DataW.trod at g3
      rw [Try.underlying25] at g3
      split at g3 <;> simp_all
  simp at e3
  subst e3
  have g4 := hf 4 _ rfl
  have l4 : 4 < xs.length := by rw [hn]; decide
  rw [List.getElem?_eq_getElem l4] at g4
  obtain ⟨n4, e4, -, b4⟩ := DataW.trod_int Try.underlying3 g4
  simp [c_i] at e4
  subst e4
  have g5 := hf 5 _ rfl
  have l5 : 5 < xs.length := by rw [hn]; decide
  rw [List.getElem?_eq_getElem l5] at g5
  obtain ⟨n5, e5, -, b5⟩ := DataW.trod_int Try.underlying3 g5
  simp [c_i] at e5
  subst e5
  have g6 := hf 6 _ rfl
  have l6 : 6 < xs.length := by rw [hn]; decide
  rw [List.getElem?_eq_getElem l6] at g6
  obtain ⟨n6, e6, -, b6⟩ := DataW.trod_int Try.underlying3 g6
  simp [c_i] at e6
  subst e6
  have g7 := hf 7 _ rfl
  have l7 : 7 < xs.length := by rw [hn]; decide
  rw [List.getElem?_eq_getElem l7] at g7
  obtain ⟨n7, e7, -, b7⟩ := DataW.trod_int Try.underlying3 g7
  simp [c_i] at e7
  subst e7
  have g8 := hf 8 _ rfl
  have l8 : 8 < xs.length := by rw [hn]; decide
  rw [List.getElem?_eq_getElem l8] at g8
  obtain ⟨n8, e8, -, b8⟩ := DataW.trod_int Try.underlying3 g8
  simp [c_i] at e8
  subst e8
  have g9 := hf 9 _ rfl
  have l9 : 9 < xs.length := by rw [hn]; decide
  rw [List.getElem?_eq_getElem l9] at g9
  obtain ⟨n9, e9, -, b9⟩ := DataW.trod_int Try.underlying3 g9
  simp [c_i] at e9
  subst e9
  have g10 := hf 10 _ rfl
  have l10 : 10 < xs.length := by rw [hn]; decide
  rw [List.getElem?_eq_getElem l10] at g10
  obtain ⟨n10, e10, -, b10⟩ := DataW.trod_int Try.underlying3 g10
  simp [c_i] at e10
  subst e10
  have g11 := hf 11 _ rfl
  have l11 : 11 < xs.length := by rw [hn]; decide
  rw [List.getElem?_eq_getElem l11] at g11
  obtain ⟨n11, e11, -, b11⟩ := DataW.trod_int Try.underlying3 g11
  simp [c_i] at e11
  subst e11
  have g12 := hf 12 _ rfl
  have l12 : 12 < xs.length := by rw [hn]; decide
  rw [List.getElem?_eq_getElem l12] at g12
  obtain ⟨n12, e12, -, b12⟩ := DataW.trod_int Try.underlying3 g12
  simp [c_i] at e12
  subst e12
  have g13 := hf 13 _ rfl
  have l13 : 13 < xs.length := by rw [hn]; decide
  rw [List.getElem?_eq_getElem l13] at g13
  obtain ⟨n13, e13, -, b13⟩ := DataW.trod_int Try.underlying3 g13
  simp [c_i] at e13
  subst e13
  exact ⟨⟨s0, s1, s2, n3, n4, n5, n6, n7, n8, n9, n10, n11, n12, n13⟩, ⟨A0, k0, A1, k1, A2, k2⟩, rfl, ⟨⟨at0, at1, at2, by simpa [Lit.wf] using b3⟩, z0, z1, z2, q0, q1, q2, f0, f1, f2, in64_of b4, in64_of b5, in64_of b6, in64_of b7, in64_of b8, in64_of b9, in64_of b10, in64_of b11, in64_of b12, in64_of b13⟩⟩

end Go.Proofs.Ytmeogadkbbeglaa
