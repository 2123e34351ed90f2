/- Words that all walks of this seat use: how lists lie in memory, and small facts on worlds. -/
import Derived.Test.YtmeogadkbbeglaaProg
import Derived.WalkKit
import Derived.WalkSpells
import Derived.WalkLawsBesides
import Derived.Lib.Hide
import Derived.Deep.QuietTactic
import Derived.BigQuiet
import Derived.RegionTactic
import Derived.Deep.LoopGhost
import Derived.Defers
import Derived.Recover
import Derived.Test.YtmeogadkbbeglaaData
namespace Go
@[go_sem] theorem run_store_float_ {P : Program} {w : World} {a : Addr} {m : Mode} (k : FloatKind) (n : Nat) : (store a (.float k n) m).run P w = stored P w a (.float k n) m := run_store P w a _ m rfl
end Go
namespace Go.Proofs.Ytmeogadkbbeglaa
open Go.RowKit

/-- A slice's elements, as they lie in memory. -/
def SliceAt {α : Type} (w : World) (sz : Nat) (vals : α → List Value) (A : Option Addr) (xs : List α) : Prop :=
  xs.length ≤ 140737488351232 ∧ ∀ i x, xs[i]? = some x → ∃ b off, A = some ⟨b, off, none⟩ ∧ ∀ j v, (vals x)[j]? = some v → w.cell? ⟨b, off + i * sz + j, none⟩ = some v

theorem keep {w w' : World} (h : Below w.heap.size w w') {p : Addr} {v : Value} (hc : w.cell? p = some v) : w'.cell? p = some v :=
  (h.cell (World.block_lt_of_cell? w p hc)).trans hc

theorem SliceAt.keep {α : Type} {w w' : World} {sz : Nat} {vals : α → List Value} {A : Option Addr} {xs : List α} (h : SliceAt w sz vals A xs) (hb : Below w.heap.size w w') : SliceAt w' sz vals A xs :=
  ⟨h.1, fun i x hx => let ⟨b, off, e, hc⟩ := h.2 i x hx; ⟨b, off, e, fun j v hv => Go.Proofs.Ytmeogadkbbeglaa.keep hb (hc j v hv)⟩⟩

theorem SliceAt.len {α : Type} {w : World} {sz : Nat} {vals : α → List Value} {A : Option Addr} {xs : List α} (h : SliceAt w sz vals A xs) : xs.length ≤ 140737488351232 := h.1

def brokenV (e : Int) : Value := .iface 107 (.agg #[.int .i64 e])
def brokenE (e : Int) : Ending := .panicked [{ v := .iface 107 (.agg #[.int .i64 e]), recovered := false }]
def orBroken (e : Int) : Option Value → Ending
  | some v => .returned v
  | none => brokenE e

def Station.vals (s : Station) : List Value := [.int .i64 s.id, .int .i64 s.zone, .int .i64 s.grp]
def Span.vals (s : Span) : List Value := [.int .i64 s.frm, .int .i64 s.to, .int .i64 s.single, .int .i64 s.daily, .int .i64 s.weekly]
def Band.vals (s : Band) : List Value := [.int .i64 s.frm, .int .i64 s.to]

theorem elem3 {w w' : World} {A : Option Addr} {xs : List Station} (h : SliceAt w 3 Station.vals A xs) (hb : Below w.heap.size w w') (k : Nat) (hk : k < xs.length) :
    ∃ b off, A = some ⟨b, off, none⟩ ∧ w'.cell? ⟨b, off + k * 3, none⟩ = some (.int .i64 xs[k].id) ∧ w'.cell? ⟨b, off + k * 3 + 1, none⟩ = some (.int .i64 xs[k].zone) ∧ w'.cell? ⟨b, off + k * 3 + 2, none⟩ = some (.int .i64 xs[k].grp) := by
  obtain ⟨b, off, e, hc⟩ := h.2 k xs[k] (by simp [hk])
  exact ⟨b, off, e, keep hb (hc 0 _ rfl), keep hb (hc 1 _ rfl), keep hb (hc 2 _ rfl)⟩

theorem elem5 {w w' : World} {A : Option Addr} {xs : List Span} (h : SliceAt w 5 Span.vals A xs) (hb : Below w.heap.size w w') (k : Nat) (hk : k < xs.length) :
    ∃ b off, A = some ⟨b, off, none⟩ ∧ w'.cell? ⟨b, off + k * 5, none⟩ = some (.int .i64 xs[k].frm) ∧ w'.cell? ⟨b, off + k * 5 + 1, none⟩ = some (.int .i64 xs[k].to) ∧ w'.cell? ⟨b, off + k * 5 + 2, none⟩ = some (.int .i64 xs[k].single)
      ∧ w'.cell? ⟨b, off + k * 5 + 3, none⟩ = some (.int .i64 xs[k].daily) ∧ w'.cell? ⟨b, off + k * 5 + 4, none⟩ = some (.int .i64 xs[k].weekly) := by
  obtain ⟨b, off, e, hc⟩ := h.2 k xs[k] (by simp [hk])
  exact ⟨b, off, e, keep hb (hc 0 _ rfl), keep hb (hc 1 _ rfl), keep hb (hc 2 _ rfl), keep hb (hc 3 _ rfl), keep hb (hc 4 _ rfl)⟩

theorem elem2 {w w' : World} {A : Option Addr} {xs : List Band} (h : SliceAt w 2 Band.vals A xs) (hb : Below w.heap.size w w') (k : Nat) (hk : k < xs.length) :
    ∃ b off, A = some ⟨b, off, none⟩ ∧ w'.cell? ⟨b, off + k * 2, none⟩ = some (.int .i64 xs[k].frm) ∧ w'.cell? ⟨b, off + k * 2 + 1, none⟩ = some (.int .i64 xs[k].to) := by
  obtain ⟨b, off, e, hc⟩ := h.2 k xs[k] (by simp [hk])
  exact ⟨b, off, e, keep hb (hc 0 _ rfl), keep hb (hc 1 _ rfl)⟩

/-- A block of the call's own, known whole. -/
def Box (w : World) (b : Nat) (cs : Array Value) (T : TypeId) : Prop := w.heap[b]? = some (.cells cs T (0, 0))
theorem Box.cell {w : World} {b : Nat} {cs : Array Value} {T : TypeId} (h : Box w b cs T) (j : Nat) : w.cell? ⟨b, j, none⟩ = cs[j]? := by
  unfold Box at h; simp [World.cell?, h]
theorem Box.free {w : World} {b : Nat} {cs : Array Value} {T : TypeId} (h : Box w b cs T) (j : Nat) : w.frozen? ⟨b, j, none⟩ = false := by
  unfold Box at h; simp [World.frozen?, h]
theorem Box.lt {w : World} {b : Nat} {cs : Array Value} {T : TypeId} (h : Box w b cs T) : b < w.heap.size := (Array.getElem?_eq_some_iff.1 h).1
theorem Box.new (w : World) (cs : Array Value) (T : TypeId) : Box (w.alloc (.cells cs T (0, 0))) w.heap.size cs T := by
  unfold Box; show (w.heap.push _)[_]? = _; simp
theorem Box.new' {w : World} {b : Nat} (h : b = w.heap.size) (cs : Array Value) (T : TypeId) : Box (w.alloc (.cells cs T (0, 0))) b cs T := h ▸ Box.new w cs T
theorem Box.alloc {w : World} {b : Nat} {cs : Array Value} {T : TypeId} (h : Box w b cs T) (o : Obj) : Box (w.alloc o) b cs T :=
  (Below.heap_alloc w o b h.lt).trans h
theorem Box.drewN {w : World} {b : Nat} {cs : Array Value} {T : TypeId} (h : Box w b cs T) (n : Nat) : Box (w.drewN n) b cs T := h
theorem Box.drew {w : World} {b : Nat} {cs : Array Value} {T : TypeId} (h : Box w b cs T) : Box w.drew b cs T := h
theorem Box.other {w : World} {b : Nat} {cs : Array Value} {T : TypeId} (h : Box w b cs T) (p : Addr) (hp : b ≠ p.block) (v : Value) : Box (w.setCell p v) b cs T :=
  (Below.heap_setCell w p v b hp).trans h
theorem Box.set {w : World} {b : Nat} {cs : Array Value} {T : TypeId} (h : Box w b cs T) (j : Nat) (v : Value) : Box (w.setCell ⟨b, j, none⟩ v) b (cs.setIfInBounds j v) T := by
  unfold Box at *
  simp only [World.setCell, Array.getElem?_modify, if_true, h]
  simp
theorem Box.below {w w' : World} {b B : Nat} {cs : Array Value} {T : TypeId} (h : Box w b cs T) (hb : Below B w w') (hB : b < B) : Box w' b cs T := (hb.block b hB).trans h
theorem Box.below' {w w' : World} {b : Nat} {cs : Array Value} {T : TypeId} (h : Box w b cs T) (hb : Below w.heap.size w w') : Box w' b cs T := h.below hb h.lt

theorem Box.cast {w : World} {b : Nat} {cs cs' : Array Value} {T : TypeId} (h : Box w b cs T) (e : cs = cs') : Box w b cs' T := e ▸ h

theorem bAlloc {w W : World} (h : Below w.heap.size w W) (o : Obj) : Below w.heap.size w (W.alloc o) := h.alloc h.size o
theorem bDrew {B : Nat} {w W : World} (h : Below B w W) : Below B w W.drew := h.drew
theorem bDrewN {B : Nat} {w W : World} (h : Below B w W) (n : Nat) : Below B w (W.drewN n) := below_drewN h n
theorem bSet {B : Nat} {w W : World} (h : Below B w W) {p : Addr} (hp : B ≤ p.block) (u : Value) : Below B w (W.setCell p u) := h.setCell hp u
theorem bThen {w W W' : World} (h : Below w.heap.size w W) (k : Below W.heap.size W W') : Below w.heap.size w W' := h.trans (k.mono h.size)

theorem drop_cons {α : Type} {l : List α} {k : Nat} (h : k < l.length) : l.drop k = l[k] :: l.drop (k + 1) := List.drop_eq_getElem_cons h


/-- A tariff's lists in memory. -/
structure TMem where
  a1 : Option Addr
  c1 : Nat
  a2 : Option Addr
  c2 : Nat
  a3 : Option Addr
  c3 : Nat
abbrev Tariff.cells (t : Tariff) (m : TMem) : Array Value :=
  #[.slice m.a1 t.st.length m.c1, .slice m.a2 t.sp.length m.c2, .slice m.a3 t.pk.length m.c3, .float .f64 t.off, .int .i64 t.bus, .int .i64 t.busDaily, .int .i64 t.busWeekly, .int .i64 t.hopper, .int .i64 t.most, .int .i64 t.longest, .int .i64 t.change, .int .i64 t.passback, .int .i64 t.delay, .int .i64 t.threshold]
structure Tariff.At (w : World) (t : Tariff) (m : TMem) : Prop where
  st : SliceAt w 3 Station.vals m.a1 t.st
  sp : SliceAt w 5 Span.vals m.a2 t.sp
  pk : SliceAt w 2 Band.vals m.a3 t.pk
  off : t.off < 18446744073709551616
theorem Tariff.At.keep {w w' : World} {t : Tariff} {m : TMem} (h : t.At w m) (hb : Below w.heap.size w w') : t.At w' m :=
  ⟨h.st.keep hb, h.sp.keep hb, h.pk.keep hb, h.off⟩

theorem tcells {w : World} {b : Nat} {t : Tariff} {m : TMem} {T : TypeId} (h : Box w b (t.cells m) T) :
    w.cell? ⟨b, 0, none⟩ = some (.slice m.a1 t.st.length m.c1) ∧ w.cell? ⟨b, 1, none⟩ = some (.slice m.a2 t.sp.length m.c2) ∧ w.cell? ⟨b, 2, none⟩ = some (.slice m.a3 t.pk.length m.c3) ∧ w.cell? ⟨b, 3, none⟩ = some (.float .f64 t.off)
    ∧ w.cell? ⟨b, 4, none⟩ = some (.int .i64 t.bus) ∧ w.cell? ⟨b, 5, none⟩ = some (.int .i64 t.busDaily) ∧ w.cell? ⟨b, 6, none⟩ = some (.int .i64 t.busWeekly) ∧ w.cell? ⟨b, 7, none⟩ = some (.int .i64 t.hopper) ∧ w.cell? ⟨b, 8, none⟩ = some (.int .i64 t.most)
    ∧ w.cell? ⟨b, 9, none⟩ = some (.int .i64 t.longest) ∧ w.cell? ⟨b, 10, none⟩ = some (.int .i64 t.change) ∧ w.cell? ⟨b, 11, none⟩ = some (.int .i64 t.passback) ∧ w.cell? ⟨b, 12, none⟩ = some (.int .i64 t.delay) ∧ w.cell? ⟨b, 13, none⟩ = some (.int .i64 t.threshold) :=
  ⟨h.cell 0, h.cell 1, h.cell 2, h.cell 3, h.cell 4, h.cell 5, h.cell 6, h.cell 7, h.cell 8, h.cell 9, h.cell 10, h.cell 11, h.cell 12, h.cell 13⟩

theorem ret_bool {a b : Bool} (h : a = b) : Ending.returned (.bool a) = .returned (.bool b) := by rw [h]
theorem ret_int {k : IntKind} {a b : Int} (h : a = b) : Ending.returned (.int k a) = .returned (.int k b) := by rw [h]

end Go.Proofs.Ytmeogadkbbeglaa
