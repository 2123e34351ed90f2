/- The data of the statements as plain Lean data, and what the program's functions compute, in plain Lean. Words that all walks of this seat use: how lists lie in memory, and small facts on worlds. Floats of 64 bits as the model compares them, in plain numbers. The walks of package tariff's small functions. The walks of package money, and of its reference: rates. Numbers of money.Scale's last step: shifts and masks of 64 bits. The library's contract of math/bits.Mul64 at this translation, as the kit's lay-plain.mjs wrote it. The walk of money.Scale. A region that draws its order, whose operations read, and whose callees leave all that was there as it was: one walk, in the text's order. -/
import Derived.Test.YtmeogadkbbeglaaProg
import Derived.WalkKit
import Derived.WalkSpells
import Derived.WalkLawsBesides
import Derived.Lib.Hide
import Derived.Deep.QuietTactic
import Derived.BigQuiet
import Derived.RegionTactic
import Derived.Deep.LoopGhost
import Derived.Defers
import Derived.Recover
import Ieee.Arith
import GoSem.Core.Float
import Derived.Laws.Externs
import Derived.Laws.Bits64b
import Derived.Shelf.Bits.Mul64
import Derived.OrdersHeld
namespace Go.Proofs.Ytmeogadkbbeglaa

structure Station where
  id : Int
  zone : Int
  grp : Int
  deriving DecidableEq
structure Span where
  frm : Int
  to : Int
  single : Int
  daily : Int
  weekly : Int
  deriving DecidableEq
structure Band where
  frm : Int
  to : Int
  deriving DecidableEq
structure Tariff where
  st : List Station
  sp : List Span
  pk : List Band
  off : Nat
  bus : Int
  busDaily : Int
  busWeekly : Int
  hopper : Int
  most : Int
  longest : Int
  change : Int
  passback : Int
  delay : Int
  threshold : Int

def inB (lo n hi : Int) : Bool := decide (lo ≤ n ∧ n ≤ hi)
def priceB (n : Int) : Bool := inB 0 n 1048576

def stOk (ahead : Int) (s : Station) : Bool := decide (ahead < s.id) && decide (s.id ≤ 65535) && inB 1 s.zone 9 && inB 0 s.grp 65535
def stGo : List Station → Int → Int → Option Int
  | [], most, _ => some most
  | s :: r, most, ahead => if stOk ahead s = true then stGo r (if most < s.zone then s.zone else most) s.id else none
def stationsF (l : List Station) : Option Int := if l.length ≤ 200 then stGo l 1 0 else none

/-- the spans from (f, t) on are l -/
def spGo : List Span → Int → Int → Int → Bool
  | [], _, _, _ => true
  | s :: r, f, t, most => if s.frm = f ∧ s.to = t then (if most < t + 1 then spGo r (f + 1) (f + 1) most else spGo r f (t + 1) most) else false
def spansF (l : List Span) (most : Int) : Bool := if (l.length : Int) = most * (most + 1) / 2 then spGo l 1 1 most else false


def pricesB (t : Tariff) : Bool := priceB t.bus && (priceB t.busDaily && (priceB t.busWeekly && (priceB t.most && priceB t.threshold)))
def spPrice (s : Span) : Bool := priceB s.single && priceB s.daily && priceB s.weekly
def spWithin (a b : Span) : Bool := decide (b.frm ≤ a.frm ∧ a.to ≤ b.to)
def spLe (a b : Span) : Bool := decide (a.single ≤ b.single ∧ a.daily ≤ b.daily ∧ a.weekly ≤ b.weekly)
def wide1 (a b : Span) : Bool := !spWithin a b || spLe a b
def bandsGo : List Band → Int → Bool
  | [], _ => true
  | b :: r, at_ => if at_ ≤ b.frm ∧ b.frm < b.to ∧ b.to ≤ 1440 then bandsGo r b.to else false
def bandsF (l : List Band) : Bool := decide (l.length ≤ 8) && bandsGo l 0
def minsB (t : Tariff) : Bool := inB 0 t.hopper 1440 && (inB 0 t.change 1440 && (inB 0 t.passback 1440 && inB 0 t.delay 1440))
def rateOk (b : Nat) : Bool := decide (b ≤ 4607182418800017408)
/-- what tariff.Right answers -/
def rightF (t : Tariff) : Int :=
  match stationsF t.st with
  | none => 70
  | some most =>
    if spansF t.sp most = false then 70
    else if pricesB t = false then 50
    else if t.sp.all spPrice = false then 50
    else if t.sp.all (fun a => t.sp.all (fun b => wide1 a b)) = false then 70
    else if bandsF t.pk = false then 70
    else if rateOk t.off = false then 51
    else if inB 1 t.longest 1440 = false then 70
    else if minsB t = false then 70
    else 0

def R0 (t : Tariff) : Prop := ∃ most, stationsF t.st = some most ∧ spansF t.sp most = true
def R1 (t : Tariff) : Prop := R0 t ∧ pricesB t = true
def R2 (t : Tariff) : Prop := R1 t ∧ t.sp.all spPrice = true
def R3 (t : Tariff) : Prop := R2 t ∧ t.sp.all (fun a => t.sp.all (fun b => wide1 a b)) = true
def R4 (t : Tariff) : Prop := R3 t ∧ bandsF t.pk = true
def R5 (t : Tariff) : Prop := R4 t ∧ rateOk t.off = true
def R6 (t : Tariff) : Prop := R5 t ∧ inB 1 t.longest 1440 = true
theorem rf_prices {t : Tariff} (h : R0 t) (p : pricesB t = false) : 50 = rightF t := by
  obtain ⟨m, a, b⟩ := h; simp [rightF, a, b, p]
theorem rf_sp {t : Tariff} (h : R1 t) (p : t.sp.all spPrice = false) : 50 = rightF t := by
  obtain ⟨⟨m, a, b⟩, c⟩ := h; unfold rightF; simp only [a, b, c, p]; simp
theorem rf_wide {t : Tariff} (h : R2 t) (p : t.sp.all (fun a => t.sp.all (fun b => wide1 a b)) = false) : 70 = rightF t := by
  obtain ⟨⟨⟨m, a, b⟩, c⟩, d⟩ := h; unfold rightF; simp only [a, b, c, d, p]; simp
theorem rf_bands {t : Tariff} (h : R3 t) (p : bandsF t.pk = false) : 70 = rightF t := by
  obtain ⟨⟨⟨⟨m, a, b⟩, c⟩, d⟩, e⟩ := h; unfold rightF; simp only [a, b, c, d, e, p]; simp
theorem rf_rate {t : Tariff} (h : R4 t) (p : rateOk t.off = false) : 51 = rightF t := by
  obtain ⟨⟨⟨⟨⟨m, a, b⟩, c⟩, d⟩, e⟩, f⟩ := h; unfold rightF; simp only [a, b, c, d, e, f, p]; simp
theorem rf_long {t : Tariff} (h : R5 t) (p : inB 1 t.longest 1440 = false) : 70 = rightF t := by
  obtain ⟨⟨⟨⟨⟨⟨m, a, b⟩, c⟩, d⟩, e⟩, f⟩, g⟩ := h; unfold rightF; simp only [a, b, c, d, e, f, g, p]; simp
theorem rf_mins {t : Tariff} (h : R6 t) (p : minsB t = false) : 70 = rightF t := by
  obtain ⟨⟨⟨⟨⟨⟨⟨m, a, b⟩, c⟩, d⟩, e⟩, f⟩, g⟩, i⟩ := h; unfold rightF; simp only [a, b, c, d, e, f, g, i, p]; simp
theorem rf_ok {t : Tariff} (h : R6 t) (p : minsB t = true) : 0 = rightF t := by
  obtain ⟨⟨⟨⟨⟨⟨⟨m, a, b⟩, c⟩, d⟩, e⟩, f⟩, g⟩, i⟩ := h; unfold rightF; simp only [a, b, c, d, e, f, g, i, p]; simp

theorem all_snoc {α : Type} {l : List α} {p : α → Bool} {k : Nat} (hk : k < l.length) (h : (l.take k).all p = true) (hp : p l[k] = true) : (l.take (k + 1)).all p = true := by
  rw [List.take_succ_eq_append_getElem hk, List.all_append, h]; simp [hp]
theorem all_at_false {α : Type} {l : List α} {p : α → Bool} {k : Nat} (hk : k < l.length) (hp : p l[k] = false) : l.all p = false := by
  rw [List.all_eq_false]; exact ⟨l[k], List.getElem_mem hk, by simp [hp]⟩
theorem all_done {α : Type} {l : List α} {p : α → Bool} {k : Nat} (hk : ¬ k < l.length) (h : (l.take k).all p = true) : l.all p = true := by
  rwa [List.take_of_length_le (by omega)] at h

theorem bandsGo_cons (b : Band) (r : List Band) (a : Int) : bandsGo (b :: r) a = if a ≤ b.frm ∧ b.frm < b.to ∧ b.to ≤ 1440 then bandsGo r b.to else false := rfl

theorem stGo_range : ∀ (l : List Station) (a b m : Int), 1 ≤ a → a ≤ 9 → stGo l a b = some m → 1 ≤ m ∧ m ≤ 9
  | [], a, b, m, h1, h9, h => by simp only [stGo, Option.some.injEq] at h; omega
  | s :: r, a, b, m, h1, h9, h => by
    simp only [stGo] at h
    split at h
    · rename_i hs
      simp [stOk, inB] at hs
      exact stGo_range r _ _ m (by split <;> omega) (by split <;> omega) h
    · cases h
theorem stations_range {l : List Station} {m : Int} (h : stationsF l = some m) : 1 ≤ m ∧ m ≤ 9 := by
  unfold stationsF at h
  split at h
  · exact stGo_range l 1 0 m (by omega) (by omega) h
  · cases h

/-- where the first one is; -1: nowhere -/
def idxI {α : Type} (l : List α) (p : α → Bool) : Int := match l.findIdx? p with
  | some i => i
  | none => -1
theorem idxI_at {α : Type} {l : List α} {p : α → Bool} {k : Nat} (hk : k < l.length) (h : (l.take k).all (fun x => !p x) = true) (hp : p l[k] = true) : idxI l p = k := by
  have e : l.findIdx? p = some k := by
    rw [List.findIdx?_eq_some_iff_getElem]
    refine ⟨hk, hp, fun j hj => ?_⟩
    rw [List.all_eq_true] at h
    have := h (l[j]) (by rw [List.mem_take_iff_getElem]; exact ⟨j, by omega, rfl⟩)
    simpa using this
  unfold idxI; rw [e]
theorem idxI_none {α : Type} {l : List α} {p : α → Bool} {k : Nat} (hk : ¬ k < l.length) (h : (l.take k).all (fun x => !p x) = true) : idxI l p = -1 := by
  rw [List.take_of_length_le (by omega), List.all_eq_true] at h
  have e : l.findIdx? p = none := by rw [List.findIdx?_eq_none_iff]; intro x hx; simpa using h x hx
  unfold idxI; rw [e]
theorem idxI_cases {α : Type} (l : List α) (p : α → Bool) : (∃ (i : Nat) (h : i < l.length), idxI l p = i ∧ l.find? p = some l[i]) ∨ (idxI l p = -1 ∧ l.find? p = none) := by
  unfold idxI
  cases e : l.findIdx? p with
  | none => right; rw [List.findIdx?_eq_none_iff] at e; exact ⟨rfl, List.find?_eq_none.2 (fun x hx => by simp [e x hx])⟩
  | some i =>
    left
    rw [List.findIdx?_eq_some_iff_getElem] at e
    obtain ⟨hi, hp, hj⟩ := e
    refine ⟨i, hi, rfl, ?_⟩
    rw [List.find?_eq_some_iff_getElem]
    exact ⟨hp, i, hi, rfl, fun j hj' => by simpa using hj j hj'⟩

def mn (a b : Int) : Int := if a < b then a else b
def mx (a b : Int) : Int := if a < b then b else a
def stFind (l : List Station) (id : Int) : Option Station := l.find? (fun s => s.id == id)
def spFind (l : List Span) (a b : Int) : Option Span := l.find? (fun s => s.frm == mn a b && s.to == mx a b)

/-- the document's example -/
def plainT : Tariff :=
  { st := [⟨1, 1, 0⟩, ⟨2, 2, 7⟩], sp := [⟨1, 1, 200, 500, 2000⟩, ⟨1, 2, 300, 700, 2800⟩, ⟨2, 2, 150, 500, 2000⟩], pk := [], off := 4602678819172646912,
    bus := 0, busDaily := 0, busWeekly := 0, hopper := 0, most := 0, longest := 120, change := 0, passback := 0, delay := 0, threshold := 0 }

end Go.Proofs.Ytmeogadkbbeglaa

namespace Go
@[go_sem] theorem run_store_float_ {P : Program} {w : World} {a : Addr} {m : Mode} (k : FloatKind) (n : Nat) : (store a (.float k n) m).run P w = stored P w a (.float k n) m := run_store P w a _ m rfl
end Go
namespace Go.Proofs.Ytmeogadkbbeglaa
open Go.RowKit

/-- A slice's elements, as they lie in memory. -/
def SliceAt {α : Type} (w : World) (sz : Nat) (vals : α → List Value) (A : Option Addr) (xs : List α) : Prop :=
  xs.length ≤ 140737488351232 ∧ ∀ i x, xs[i]? = some x → ∃ b off, A = some ⟨b, off, none⟩ ∧ ∀ j v, (vals x)[j]? = some v → w.cell? ⟨b, off + i * sz + j, none⟩ = some v

theorem keep {w w' : World} (h : Below w.heap.size w w') {p : Addr} {v : Value} (hc : w.cell? p = some v) : w'.cell? p = some v :=
  (h.cell (World.block_lt_of_cell? w p hc)).trans hc

theorem SliceAt.keep {α : Type} {w w' : World} {sz : Nat} {vals : α → List Value} {A : Option Addr} {xs : List α} (h : SliceAt w sz vals A xs) (hb : Below w.heap.size w w') : SliceAt w' sz vals A xs :=
  ⟨h.1, fun i x hx => let ⟨b, off, e, hc⟩ := h.2 i x hx; ⟨b, off, e, fun j v hv => Go.Proofs.Ytmeogadkbbeglaa.keep hb (hc j v hv)⟩⟩

theorem SliceAt.len {α : Type} {w : World} {sz : Nat} {vals : α → List Value} {A : Option Addr} {xs : List α} (h : SliceAt w sz vals A xs) : xs.length ≤ 140737488351232 := h.1

def brokenV (e : Int) : Value := .iface 107 (.agg #[.int .i64 e])
def brokenE (e : Int) : Ending := .panicked [{ v := .iface 107 (.agg #[.int .i64 e]), recovered := false }]
def orBroken (e : Int) : Option Value → Ending
  | some v => .returned v
  | none => brokenE e

def Station.vals (s : Station) : List Value := [.int .i64 s.id, .int .i64 s.zone, .int .i64 s.grp]
def Span.vals (s : Span) : List Value := [.int .i64 s.frm, .int .i64 s.to, .int .i64 s.single, .int .i64 s.daily, .int .i64 s.weekly]
def Band.vals (s : Band) : List Value := [.int .i64 s.frm, .int .i64 s.to]

theorem elem3 {w w' : World} {A : Option Addr} {xs : List Station} (h : SliceAt w 3 Station.vals A xs) (hb : Below w.heap.size w w') (k : Nat) (hk : k < xs.length) :
    ∃ b off, A = some ⟨b, off, none⟩ ∧ w'.cell? ⟨b, off + k * 3, none⟩ = some (.int .i64 xs[k].id) ∧ w'.cell? ⟨b, off + k * 3 + 1, none⟩ = some (.int .i64 xs[k].zone) ∧ w'.cell? ⟨b, off + k * 3 + 2, none⟩ = some (.int .i64 xs[k].grp) := by
  obtain ⟨b, off, e, hc⟩ := h.2 k xs[k] (by simp [hk])
  exact ⟨b, off, e, keep hb (hc 0 _ rfl), keep hb (hc 1 _ rfl), keep hb (hc 2 _ rfl)⟩

theorem elem5 {w w' : World} {A : Option Addr} {xs : List Span} (h : SliceAt w 5 Span.vals A xs) (hb : Below w.heap.size w w') (k : Nat) (hk : k < xs.length) :
    ∃ b off, A = some ⟨b, off, none⟩ ∧ w'.cell? ⟨b, off + k * 5, none⟩ = some (.int .i64 xs[k].frm) ∧ w'.cell? ⟨b, off + k * 5 + 1, none⟩ = some (.int .i64 xs[k].to) ∧ w'.cell? ⟨b, off + k * 5 + 2, none⟩ = some (.int .i64 xs[k].single)
      ∧ w'.cell? ⟨b, off + k * 5 + 3, none⟩ = some (.int .i64 xs[k].daily) ∧ w'.cell? ⟨b, off + k * 5 + 4, none⟩ = some (.int .i64 xs[k].weekly) := by
  obtain ⟨b, off, e, hc⟩ := h.2 k xs[k] (by simp [hk])
  exact ⟨b, off, e, keep hb (hc 0 _ rfl), keep hb (hc 1 _ rfl), keep hb (hc 2 _ rfl), keep hb (hc 3 _ rfl), keep hb (hc 4 _ rfl)⟩

theorem elem2 {w w' : World} {A : Option Addr} {xs : List Band} (h : SliceAt w 2 Band.vals A xs) (hb : Below w.heap.size w w') (k : Nat) (hk : k < xs.length) :
    ∃ b off, A = some ⟨b, off, none⟩ ∧ w'.cell? ⟨b, off + k * 2, none⟩ = some (.int .i64 xs[k].frm) ∧ w'.cell? ⟨b, off + k * 2 + 1, none⟩ = some (.int .i64 xs[k].to) := by
  obtain ⟨b, off, e, hc⟩ := h.2 k xs[k] (by simp [hk])
  exact ⟨b, off, e, keep hb (hc 0 _ rfl), keep hb (hc 1 _ rfl)⟩

/-- A block of the call's own, known whole. -/
def Box (w : World) (b : Nat) (cs : Array Value) (T : TypeId) : Prop := w.heap[b]? = some (.cells cs T (0, 0))
theorem Box.cell {w : World} {b : Nat} {cs : Array Value} {T : TypeId} (h : Box w b cs T) (j : Nat) : w.cell? ⟨b, j, none⟩ = cs[j]? := by
  unfold Box at h; simp [World.cell?, h]
theorem Box.free {w : World} {b : Nat} {cs : Array Value} {T : TypeId} (h : Box w b cs T) (j : Nat) : w.frozen? ⟨b, j, none⟩ = false := by
  unfold Box at h; simp [World.frozen?, h]
theorem Box.lt {w : World} {b : Nat} {cs : Array Value} {T : TypeId} (h : Box w b cs T) : b < w.heap.size := (Array.getElem?_eq_some_iff.1 h).1
theorem Box.new (w : World) (cs : Array Value) (T : TypeId) : Box (w.alloc (.cells cs T (0, 0))) w.heap.size cs T := by
  unfold Box; show (w.heap.push _)[_]? = _; simp
theorem Box.new' {w : World} {b : Nat} (h : b = w.heap.size) (cs : Array Value) (T : TypeId) : Box (w.alloc (.cells cs T (0, 0))) b cs T := h ▸ Box.new w cs T
theorem Box.alloc {w : World} {b : Nat} {cs : Array Value} {T : TypeId} (h : Box w b cs T) (o : Obj) : Box (w.alloc o) b cs T :=
  (Below.heap_alloc w o b h.lt).trans h
theorem Box.drewN {w : World} {b : Nat} {cs : Array Value} {T : TypeId} (h : Box w b cs T) (n : Nat) : Box (w.drewN n) b cs T := h
theorem Box.drew {w : World} {b : Nat} {cs : Array Value} {T : TypeId} (h : Box w b cs T) : Box w.drew b cs T := h
theorem Box.other {w : World} {b : Nat} {cs : Array Value} {T : TypeId} (h : Box w b cs T) (p : Addr) (hp : b ≠ p.block) (v : Value) : Box (w.setCell p v) b cs T :=
  (Below.heap_setCell w p v b hp).trans h
theorem Box.set {w : World} {b : Nat} {cs : Array Value} {T : TypeId} (h : Box w b cs T) (j : Nat) (v : Value) : Box (w.setCell ⟨b, j, none⟩ v) b (cs.setIfInBounds j v) T := by
  unfold Box at *
  simp only [World.setCell, Array.getElem?_modify, if_true, h]
  simp
theorem Box.below {w w' : World} {b B : Nat} {cs : Array Value} {T : TypeId} (h : Box w b cs T) (hb : Below B w w') (hB : b < B) : Box w' b cs T := (hb.block b hB).trans h
theorem Box.below' {w w' : World} {b : Nat} {cs : Array Value} {T : TypeId} (h : Box w b cs T) (hb : Below w.heap.size w w') : Box w' b cs T := h.below hb h.lt

theorem Box.cast {w : World} {b : Nat} {cs cs' : Array Value} {T : TypeId} (h : Box w b cs T) (e : cs = cs') : Box w b cs' T := e ▸ h

theorem bAlloc {w W : World} (h : Below w.heap.size w W) (o : Obj) : Below w.heap.size w (W.alloc o) := h.alloc h.size o
theorem bDrew {B : Nat} {w W : World} (h : Below B w W) : Below B w W.drew := h.drew
theorem bDrewN {B : Nat} {w W : World} (h : Below B w W) (n : Nat) : Below B w (W.drewN n) := below_drewN h n
theorem bSet {B : Nat} {w W : World} (h : Below B w W) {p : Addr} (hp : B ≤ p.block) (u : Value) : Below B w (W.setCell p u) := h.setCell hp u
theorem bThen {w W W' : World} (h : Below w.heap.size w W) (k : Below W.heap.size W W') : Below w.heap.size w W' := h.trans (k.mono h.size)

theorem drop_cons {α : Type} {l : List α} {k : Nat} (h : k < l.length) : l.drop k = l[k] :: l.drop (k + 1) := List.drop_eq_getElem_cons h


/-- A tariff's lists in memory. -/
structure TMem where
  a1 : Option Addr
  c1 : Nat
  a2 : Option Addr
  c2 : Nat
  a3 : Option Addr
  c3 : Nat
abbrev Tariff.cells (t : Tariff) (m : TMem) : Array Value :=
  #[.slice m.a1 t.st.length m.c1, .slice m.a2 t.sp.length m.c2, .slice m.a3 t.pk.length m.c3, .float .f64 t.off, .int .i64 t.bus, .int .i64 t.busDaily, .int .i64 t.busWeekly, .int .i64 t.hopper, .int .i64 t.most, .int .i64 t.longest, .int .i64 t.change, .int .i64 t.passback, .int .i64 t.delay, .int .i64 t.threshold]
structure Tariff.At (w : World) (t : Tariff) (m : TMem) : Prop where
  st : SliceAt w 3 Station.vals m.a1 t.st
  sp : SliceAt w 5 Span.vals m.a2 t.sp
  pk : SliceAt w 2 Band.vals m.a3 t.pk
  off : t.off < 18446744073709551616
theorem Tariff.At.keep {w w' : World} {t : Tariff} {m : TMem} (h : t.At w m) (hb : Below w.heap.size w w') : t.At w' m :=
  ⟨h.st.keep hb, h.sp.keep hb, h.pk.keep hb, h.off⟩

theorem tcells {w : World} {b : Nat} {t : Tariff} {m : TMem} {T : TypeId} (h : Box w b (t.cells m) T) :
    w.cell? ⟨b, 0, none⟩ = some (.slice m.a1 t.st.length m.c1) ∧ w.cell? ⟨b, 1, none⟩ = some (.slice m.a2 t.sp.length m.c2) ∧ w.cell? ⟨b, 2, none⟩ = some (.slice m.a3 t.pk.length m.c3) ∧ w.cell? ⟨b, 3, none⟩ = some (.float .f64 t.off)
    ∧ w.cell? ⟨b, 4, none⟩ = some (.int .i64 t.bus) ∧ w.cell? ⟨b, 5, none⟩ = some (.int .i64 t.busDaily) ∧ w.cell? ⟨b, 6, none⟩ = some (.int .i64 t.busWeekly) ∧ w.cell? ⟨b, 7, none⟩ = some (.int .i64 t.hopper) ∧ w.cell? ⟨b, 8, none⟩ = some (.int .i64 t.most)
    ∧ w.cell? ⟨b, 9, none⟩ = some (.int .i64 t.longest) ∧ w.cell? ⟨b, 10, none⟩ = some (.int .i64 t.change) ∧ w.cell? ⟨b, 11, none⟩ = some (.int .i64 t.passback) ∧ w.cell? ⟨b, 12, none⟩ = some (.int .i64 t.delay) ∧ w.cell? ⟨b, 13, none⟩ = some (.int .i64 t.threshold) :=
  ⟨h.cell 0, h.cell 1, h.cell 2, h.cell 3, h.cell 4, h.cell 5, h.cell 6, h.cell 7, h.cell 8, h.cell 9, h.cell 10, h.cell 11, h.cell 12, h.cell 13⟩

theorem ret_bool {a b : Bool} (h : a = b) : Ending.returned (.bool a) = .returned (.bool b) := by rw [h]
theorem ret_int {k : IntKind} {a b : Int} (h : a = b) : Ending.returned (.int k a) = .returned (.int k b) := by rw [h]

end Go.Proofs.Ytmeogadkbbeglaa

namespace Go.Proofs.Ytmeogadkbbeglaa

def oneBits : Nat := 4607182418800017408
/-- what Go's '>= 0', '<= 1' tell of a float's bits -/
def geZ (b : Nat) : Bool := FloatKind.f64.format.order b 0 == some .gt || FloatKind.f64.format.order b 0 == some .eq
def leO (b : Nat) : Bool := FloatKind.f64.format.order b oneBits == some .lt || FloatKind.f64.format.order b oneBits == some .eq
def sgB (b : Nat) : Bool := decide (9223372036854775808 ≤ b)

open Ieee in
theorem fmt : FloatKind.f64.format = double := rfl

/-- a finite number's magnitude, in the least place -/
def rv (r : Nat) : Nat := if r < 4503599627370496 then r else (4503599627370496 + r % 4503599627370496) * 2 ^ (r / 4503599627370496 - 1)

theorem rv_mono {r s : Nat} (h : r < s) : rv r < rv s := by
  unfold rv
  have e1 := Nat.div_add_mod r 4503599627370496
  have e2 := Nat.div_add_mod s 4503599627370496
  have m1 := Nat.mod_lt r (show 0 < 4503599627370496 by decide)
  have m2 := Nat.mod_lt s (show 0 < 4503599627370496 by decide)
  generalize r / 4503599627370496 = a at *
  generalize s / 4503599627370496 = b at *
  generalize r % 4503599627370496 = m at *
  generalize s % 4503599627370496 = n at *
  have hp : 0 < 2 ^ (b - 1) := Nat.two_pow_pos _
  split
  · split
    · omega
    · have : 4503599627370496 + n ≤ (4503599627370496 + n) * 2 ^ (b - 1) := Nat.le_mul_of_pos_right _ hp
      omega
  · rw [if_neg (by omega)]
    by_cases hab : a = b
    · subst hab
      exact Nat.mul_lt_mul_of_pos_right (by omega) hp
    · have hlt : a < b := by omega
      have h1 : (4503599627370496 + m) * 2 ^ (a - 1) < (4503599627370496 * 2) * 2 ^ (a - 1) := Nat.mul_lt_mul_of_pos_right (by omega) (Nat.two_pow_pos _)
      have h2 : (4503599627370496 * 2) * 2 ^ (a - 1) = 4503599627370496 * 2 ^ a := by
        obtain ⟨a, rfl⟩ : ∃ k, a = k + 1 := ⟨a - 1, by omega⟩
        rw [Nat.add_sub_cancel, Nat.pow_succ, Nat.mul_assoc, Nat.mul_comm 2]
      have h3 : 2 ^ a ≤ 2 ^ (b - 1) := Nat.pow_le_pow_right (by decide) (by omega)
      have h4 : 4503599627370496 * 2 ^ a ≤ 4503599627370496 * 2 ^ (b - 1) := Nat.mul_le_mul_left _ h3
      have h5 : 4503599627370496 * 2 ^ (b - 1) ≤ (4503599627370496 + n) * 2 ^ (b - 1) := Nat.mul_le_mul_right _ (by omega)
      omega

theorem rv_lt_iff (r s : Nat) : rv r < rv s ↔ r < s := by
  refine ⟨fun h => ?_, rv_mono⟩
  rcases Nat.lt_trichotomy r s with h1 | h1 | h1
  · exact h1
  · subst h1; omega
  · have := rv_mono h1; omega
theorem rv_eq_iff (r s : Nat) : rv r = rv s ↔ r = s := by
  refine ⟨fun h => ?_, fun h => by rw [h]⟩
  rcases Nat.lt_trichotomy r s with h1 | h1 | h1
  · have := rv_mono h1; omega
  · exact h1
  · have := rv_mono h1; omega

open Ieee in
theorem read_fin (b : Nat) (h : b % 9223372036854775808 < 9218868437227405312) :
    ∃ m k : Nat, double.read b = .number (b / 9223372036854775808 % 2 == 1) m ((k : Int) - 1074) ∧ m * 2 ^ k = rv (b % 9223372036854775808) := by
  have hs : double.signWeight = 9223372036854775808 := rfl
  have hb : double.binade = 4503599627370496 := rfl
  have hi : double.infRung = 9218868437227405312 := rfl
  have hl : double.leastPlace = -1074 := rfl
  unfold Format.read
  simp only [hs, hb, hi, hl]
  generalize b % 9223372036854775808 = r at *
  unfold rv
  split
  · exact ⟨r, 0, by simp, by simp⟩
  · exact ⟨_, r / 4503599627370496 - 1, by congr 1, rfl⟩

theorem shl (m k : Nat) : m <<< k = m * 2 ^ k := Nat.shiftLeft_eq m k

theorem scaled (m n a b c : Nat) : (m * 2 ^ (a - c)) < (n * 2 ^ (b - c)) ↔ m * 2 ^ (a - c) * 2 ^ c < n * 2 ^ (b - c) * 2 ^ c :=
  ⟨fun h => Nat.mul_lt_mul_of_pos_right h (Nat.two_pow_pos _), fun h => Nat.lt_of_mul_lt_mul_right h⟩

open Ieee in
/-- two numbers that are not negative -/
theorem order_pos (b c : Nat) (hb : b < 9218868437227405312) (hc : c < 9218868437227405312) : FloatKind.f64.format.order b c = some (compare b c) := by
  obtain ⟨m, k, e1, v1⟩ := read_fin b (by omega)
  obtain ⟨n, j, e2, v2⟩ := read_fin c (by omega)
  rw [Nat.mod_eq_of_lt (by omega)] at v1 v2
  have z1 : (b / 9223372036854775808 % 2 == 1) = false := by rw [Nat.div_eq_of_lt (by omega)]; rfl
  have z2 : (c / 9223372036854775808 % 2 == 1) = false := by rw [Nat.div_eq_of_lt (by omega)]; rfl
  rw [z1] at e1
  rw [z2] at e2
  show (double.read b).order (double.read c) = _
  rw [e1, e2]
  simp only [Datum.order, signed, Bool.false_eq_true, if_false, shl]
  have hbase : ∃ q : Nat, min ((k : Int) - 1074) ((j : Int) - 1074) = (q : Int) - 1074 ∧ q ≤ k ∧ q ≤ j := ⟨min k j, by omega, by omega, by omega⟩
  obtain ⟨q, hq, q1, q2⟩ := hbase
  rw [hq]
  have t1 : ((k : Int) - 1074 - ((q : Int) - 1074)).toNat = k - q := by omega
  have t2 : ((j : Int) - 1074 - ((q : Int) - 1074)).toNat = j - q := by omega
  rw [t1, t2]
  have p1 : m * 2 ^ (k - q) * 2 ^ q = rv b := by rw [Nat.mul_assoc, ← Nat.pow_add, Nat.sub_add_cancel q1, v1]
  have p2 : n * 2 ^ (j - q) * 2 ^ q = rv c := by rw [Nat.mul_assoc, ← Nat.pow_add, Nat.sub_add_cancel q2, v2]
  have hlt : (m * 2 ^ (k - q)) < (n * 2 ^ (j - q)) ↔ b < c := by rw [← rv_lt_iff b c, ← p1, ← p2]; exact ⟨fun h => Nat.mul_lt_mul_of_pos_right h (Nat.two_pow_pos _), fun h => Nat.lt_of_mul_lt_mul_right h⟩
  have hgt : (n * 2 ^ (j - q)) < (m * 2 ^ (k - q)) ↔ c < b := by rw [← rv_lt_iff c b, ← p1, ← p2]; exact ⟨fun h => Nat.mul_lt_mul_of_pos_right h (Nat.two_pow_pos _), fun h => Nat.lt_of_mul_lt_mul_right h⟩
  congr 1
  generalize m * 2 ^ (k - q) = x at *
  generalize n * 2 ^ (j - q) = y at *
  rcases Nat.lt_trichotomy b c with h | h | h
  · rw [Nat.compare_eq_lt.2 h, Int.compare_eq_lt]; omega
  · have : x = y := by omega
    subst this; subst h
    rw [Nat.compare_eq_eq.2 rfl, Int.compare_eq_eq]
  · rw [Nat.compare_eq_gt.2 h, Int.compare_eq_gt]; omega

open Ieee in
theorem rate_of (b : Nat) (hb : b < 18446744073709551616) : (geZ b && leO b && !sgB b) = rateOk b := by
  unfold geZ leO sgB rateOk oneBits
  by_cases h0 : b < 9218868437227405312
  · rw [order_pos b 0 h0 (by omega), order_pos b _ h0 (by omega)]
    by_cases h1 : b ≤ 4607182418800017408
    · have a1 : (compare b 0 == Ordering.gt || compare b 0 == Ordering.eq) = true := by
        rcases Nat.eq_zero_or_pos b with h | h
        · subst h; rfl
        · rw [Nat.compare_eq_gt.2 h]; rfl
      have a2 : (compare b 4607182418800017408 == Ordering.lt || compare b 4607182418800017408 == Ordering.eq) = true := by
        rcases Nat.lt_or_eq_of_le h1 with h | h
        · rw [Nat.compare_eq_lt.2 h]; rfl
        · rw [Nat.compare_eq_eq.2 h]; rfl
      simp only [Option.some_beq_some]
      rw [a1, a2, decide_eq_false (by omega), decide_eq_true h1]; rfl
    · have a2 : (compare b 4607182418800017408 == Ordering.lt || compare b 4607182418800017408 == Ordering.eq) = false := by
        rw [Nat.compare_eq_gt.2 (by omega)]; rfl
      simp only [Option.some_beq_some]
      rw [a2, decide_eq_false (p := b ≤ 4607182418800017408) h1]; simp
  · rw [decide_eq_false (p := b ≤ 4607182418800017408) (by omega)]
    by_cases hs : 9223372036854775808 ≤ b
    · rw [decide_eq_true hs]; simp
    · have e : FloatKind.f64.format.order b 4607182418800017408 = none ∨ FloatKind.f64.format.order b 4607182418800017408 = some .gt := by
        show (double.read b).order (double.read 4607182418800017408) = none ∨ (double.read b).order (double.read 4607182418800017408) = some .gt
        obtain ⟨n, j, e2, -⟩ := read_fin 4607182418800017408 (by omega)
        rw [e2]
        have hs' : double.signWeight = 9223372036854775808 := rfl
        have hb' : double.binade = 4503599627370496 := rfl
        have hi : double.infRung = 9218868437227405312 := rfl
        have z : (b / 9223372036854775808 % 2 == 1) = false := by rw [Nat.div_eq_of_lt (by omega)]; rfl
        unfold Format.read
        simp only [hs', hb', hi]
        rw [z, Nat.mod_eq_of_lt (show b < 9223372036854775808 by omega), if_neg (by omega), if_neg h0]
        split
        · right; rfl
        · left; rfl
      rcases e with e | e
      · rw [e]; simp
      · rw [e]; simp

end Go.Proofs.Ytmeogadkbbeglaa

namespace Go.Proofs.Ytmeogadkbbeglaa
open Go.RowKit
set_option maxHeartbeats 400000

theorem within_calls (n lo hi : Int) (w : World) :
    Calls Try.prog 77 #[.int .i64 n, .int .i64 lo, .int .i64 hi] w fun e w' => e = .returned (.bool (inB lo n hi)) ∧ w = w' := by
  by_cases h : lo ≤ n <;> by_cases h2 : n ≤ hi
  all_goals
    go_enter Try.func77, Try.ntmps77
    go_wp2
    go_ret
    exact ⟨by simp [inB, h, h2], rfl⟩

theorem price_calls (n : Int) (w : World) :
    Calls Try.prog 75 #[.int .i64 n] w fun e w' => e = .returned (.bool (priceB n)) ∧ w = w' := by
  go_enter Try.func75, Try.ntmps75
  go_wp2_with (go_at_call 77; (with_reducible refine (within_calls _ _ _ _).mono ?_); rintro e w' ⟨rfl, rfl⟩)
  go_ret
  exact ⟨rfl, rfl⟩

theorem must_yes (b : Bool) (hb : b = true) (e : Int) (w : World) :
    Calls Try.prog 72 #[.bool b, .int .i64 e] w fun e w' => e = .returned (.tuple #[]) ∧ w = w' := by
  subst hb
  go_enter Try.func72, Try.ntmps72
  go_wp2
  go_end0
  exact ⟨rfl, rfl⟩

theorem must_no (b : Bool) (hb : b = false) (e : Int) (w : World) :
    Calls Try.prog 72 #[.bool b, .int .i64 e] w fun en w' => en = .panicked [{ v := .iface 107 (.agg #[.int .i64 e]), recovered := false }] ∧ w = w' := by
  subst hb
  go_enter Try.func72, Try.ntmps72
  go_wp2
  exact ⟨rfl, rfl, rfl⟩

theorem stations_calls (l : List Station) (A : Option Addr) (c : Nat) (w : World) (hA : SliceAt w 3 Station.vals A l) :
    Calls Try.prog 74 #[.slice A l.length c] w fun e w' => e = orBroken 70 ((stationsF l).map (.int .i64)) ∧ Below w.heap.size w w' := by
  have hm := hA.len
  have HB := Below.refl w.heap.size w
  by_cases h200 : l.length ≤ 200
  · have hb : decide ((l.length : Int) ≤ 200) = true := by simp; omega
    go_enter Try.func74, Try.ntmps74
    go_wp2_with (go_at_call 72; first | ((with_reducible refine (must_yes true rfl _ _).mono ?_); rintro e w' ⟨rfl, rfl⟩) | ((with_reducible refine (must_no false rfl _ _).mono ?_); rintro e w' ⟨rfl, rfl⟩))
    go_loopw [3, 4, 13] (fun m a i wr => ∃ (k : Nat) (most ahead : Int), k ≤ l.length ∧ m = .int .i64 most ∧ a = .int .i64 ahead ∧ i = .int .i64 k ∧ Hid (stGo (l.drop k) most ahead = stationsF l) ∧ Below w.heap.size w wr) (fun _ _ i _ => l.length - (intOf i).toNat)
    case atStart => exact ⟨0, 1, 0, by omega, rfl, rfl, rfl, by simp [Hid, stationsF, h200], HB⟩
    case round =>
      obtain ⟨k, most, ahead, hk, rfl, rfl, rfl, hst, hB⟩ := hrel
      by_cases hlt : k < l.length
      · obtain ⟨b, off, rfl, c0, c1, c2⟩ := elem3 hA hB k hlt
        rw [drop_cons hlt] at hst
        cases hz : inB 1 l[k].zone 9 <;> cases hg : inB 0 l[k].grp 65535
        all_goals
          go_wp2_with (first | (go_at_call 77; (with_reducible refine (within_calls _ _ _ _).mono ?_); rintro e w' ⟨rfl, rfl⟩) | (go_at_call 72; first | ((with_reducible refine (must_yes true rfl _ _).mono ?_); rintro e w' ⟨rfl, rfl⟩) | ((with_reducible refine (must_no false rfl _ _).mono ?_); rintro e w' ⟨rfl, rfl⟩)))
          all_goals first
          | (refine ⟨rfl, ?_, hB.alloc hB.size _⟩
             have h := hst.out
             unfold stGo stOk at h
             rw [if_neg (by simp [hz, hg]; try omega)] at h
             rw [← h]; rfl)
          | (go_quiet (fail)
             go_wp2_with fail
             go_roundw
             case rel =>
               refine ⟨k + 1, _, _, by omega, rfl, rfl, by go_num, ?_, below_drewN (hB.alloc hB.size _) _⟩
               have h := hst.out
               unfold stGo stOk at h
               rw [if_pos (by simp [hz, hg]; omega)] at h
               exact h
             case measure => simp [intOf]; omega)
          | fail
      · go_wp2_with fail
        go_ret
        obtain rfl : k = l.length := by omega
        refine ⟨?_, hB⟩
        have := hst.out
        simp [stGo] at this
        rw [← this]; rfl
  · have hb : decide ((l.length : Int) ≤ 200) = false := by simp; omega
    go_enter Try.func74, Try.ntmps74
    go_wp2_with (go_at_call 72; first | ((with_reducible refine (must_yes true rfl _ _).mono ?_); rintro e w' ⟨rfl, rfl⟩) | ((with_reducible refine (must_no false rfl _ _).mono ?_); rintro e w' ⟨rfl, rfl⟩))
    exact ⟨rfl, by simp [stationsF, h200, orBroken, brokenE], HB⟩

theorem spans_calls (l : List Span) (most : Int) (A : Option Addr) (c : Nat) (w : World) (hA : SliceAt w 5 Span.vals A l) (h1 : 1 ≤ most) (h9 : most ≤ 9) :
    Calls Try.prog 73 #[.slice A l.length c, .int .i64 most] w fun e w' => e = .returned (.bool (spansF l most)) ∧ Below w.heap.size w w' := by
  have hm := hA.len
  have HB := Below.refl w.heap.size w
  have hmm : 0 ≤ most * (most + 1) := Int.mul_nonneg (by omega) (by omega)
  have hmm2 : most * (most + 1) ≤ 90 := by
    have : most * (most + 1) ≤ 9 * (9 + 1) := Int.mul_le_mul h9 (by omega) (by omega) (by omega)
    omega
  by_cases hlen : (l.length : Int) = most * (most + 1) / 2
  · have hb : ((l.length : Int) != most * (most + 1) / 2) = false := by simp [hlen]
    have HL := Lib.hid hlen
    clear hlen
    go_enter Try.func73, Try.ntmps73
    go_wp2_with fail
    go_loopw [19] (fun i wr => ∃ (k : Nat) (f t : Int), k ≤ l.length ∧ 1 ≤ f ∧ f ≤ k + 1 ∧ 1 ≤ t ∧ t ≤ k + 2 ∧ i = .int .i64 k ∧ Hid (spGo (l.drop k) f t most = spansF l most) ∧ Box wr w.heap.size #[.int .i64 f, .int .i64 t, .int .i64 0, .int .i64 0, .int .i64 0] 39 ∧ Below w.heap.size w wr) (fun i _ => l.length - (intOf i).toNat)
    case atStart => exact ⟨0, 1, 1, by omega, by omega, by omega, by omega, by omega, rfl, by simp [Hid, spansF, HL.out], Box.new _ _ _, HB.alloc (Nat.le_refl _) _⟩
    case round =>
      obtain ⟨k, f, t, hk, hf1, hf9, ht1, ht9, rfl, hst, hX, hB⟩ := hrel
      have x0 := hX.cell 0
      have x1 := hX.cell 1
      have x2 := hX.cell 2
      have x3 := hX.cell 3
      have x4 := hX.cell 4
      have y0 := hX.free 0
      have y1 := hX.free 1
      have y2 := hX.free 2
      have y3 := hX.free 3
      have y4 := hX.free 4
      simp at x0 x1 x2 x3 x4
      have hX0 := hX.lt
      by_cases hlt : k < l.length
      · obtain ⟨b, off, rfl, c0, c1, c2, c3, c4⟩ := elem5 hA hB k hlt
        rw [drop_cons hlt] at hst
        go_wp2_with fail
        · go_roundw
          case rel =>
            refine ⟨k + 1, f + 1, f + 1, by omega, by omega, by omega, by omega, by omega, by go_num, ?_, (((((((hX.set 1 _).set 0 _).set 1 _).set 2 _).set 3 _).set 4 _).alloc _).cast (by simp), by (repeat (first | (with_reducible exact hB) | (with_reducible refine bAlloc ?_ _) | (with_reducible refine bDrewN ?_ _) | (with_reducible refine bDrew ?_) | (with_reducible refine bSet ?_ (by first | exact Nat.le_refl _ | (simp; omega) | omega) _) | (with_reducible refine bThen ?_ (by with_reducible assumption))))⟩
            have h := hst.out
            unfold spGo at h
            rw [if_pos ⟨by assumption, by assumption⟩, if_pos (by assumption)] at h
            exact h
          case measure => simp [intOf]; omega
        · go_roundw
          case rel =>
            refine ⟨k + 1, f, t + 1, by omega, by omega, by omega, by omega, by omega, by go_num, ?_, ((hX.set 1 _).alloc _).cast (by simp), by (repeat (first | (with_reducible exact hB) | (with_reducible refine bAlloc ?_ _) | (with_reducible refine bDrewN ?_ _) | (with_reducible refine bDrew ?_) | (with_reducible refine bSet ?_ (by first | exact Nat.le_refl _ | (simp; omega) | omega) _) | (with_reducible refine bThen ?_ (by with_reducible assumption))))⟩
            have h := hst.out
            unfold spGo at h
            rw [if_pos ⟨by assumption, by assumption⟩, if_neg (by omega)] at h
            exact h
          case measure => simp [intOf]; omega
        all_goals
          go_ret
          refine ⟨?_, by (repeat (first | (with_reducible exact hB) | (with_reducible refine bAlloc ?_ _) | (with_reducible refine bDrewN ?_ _) | (with_reducible refine bDrew ?_) | (with_reducible refine bSet ?_ (by first | exact Nat.le_refl _ | (simp; omega) | omega) _) | (with_reducible refine bThen ?_ (by with_reducible assumption))))⟩
          have h := hst.out
          unfold spGo at h
          rw [if_neg (by intro hh; simp_all)] at h
          rw [← h]; rfl
      · go_wp2_with fail
        go_ret
        obtain rfl : k = l.length := by omega
        refine ⟨?_, hB⟩
        have := hst.out
        simp [spGo] at this
        rw [← this]; rfl
  · have hb : ((l.length : Int) != most * (most + 1) / 2) = true := by simp [hlen]
    go_enter Try.func73, Try.ntmps73
    go_wp2_with fail
    go_ret
    exact ⟨by simp [spansF, hlen], HB⟩
end Go.Proofs.Ytmeogadkbbeglaa

namespace Go.Proofs.Ytmeogadkbbeglaa
open Go.RowKit
set_option maxHeartbeats 400000

theorem bits_run (b : Nat) (w : World) : (callFunc 134 #[.float .f64 b]).run Try.prog w = .ok (.value (.int .u64 b)) w := by
  rw [run_callFunc_extern Try.func134 (by kernel_rfl) (by kernel_rfl) (by kernel_rfl) (e := Go.Extern.MathFloatBits.float64bits) (by kernel_rfl)]
  rfl

theorem sg_neg (b : Nat) (hb : b < 18446744073709551616) (h : 9223372036854775808 ≤ b) : decide (wrap64 (b : Int) < 0) = sgB b := by
  unfold sgB
  rw [decide_eq_true h]
  apply decide_eq_true
  unfold wrap64
  omega
theorem sg_pos (b : Nat) (_hb : b < 18446744073709551616) (h : ¬ 9223372036854775808 ≤ b) : decide ((b : Int) < 0) = sgB b := by
  unfold sgB
  rw [decide_eq_false h]
  apply decide_eq_false
  omega

theorem signbit_calls (b : Nat) (hb : b < 18446744073709551616) (w : World) :
    Calls Try.prog 130 #[.float .f64 b] w fun e w' => e = .returned (.bool (sgB b)) ∧ w = w' := by
  have hx := bits_run b
  by_cases h : 9223372036854775808 ≤ b
  all_goals
    go_enter Try.func130, Try.ntmps130
    go_wp2
    go_ret
    exact ⟨ret_bool (by first | exact sg_neg b hb h | exact sg_pos b hb h), rfl⟩

theorem rate_calls (b : Nat) (hb : b < 18446744073709551616) (w : World) :
    Calls Try.prog 76 #[.float .f64 b] w fun e w' => e = .returned (.bool (rateOk b)) ∧ w = w' := by
  rw [← rate_of b hb]
  cases hg : geZ b <;> cases hl : leO b <;> cases hs : sgB b
  all_goals
    unfold geZ at hg
    unfold leO oneBits at hl
    go_enter Try.func76, Try.ntmps76
    go_wp2_with (go_at_call 130; (with_reducible refine (signbit_calls _ hb _).mono ?_); rintro e w' ⟨rfl, rfl⟩)
    go_ret
    exact ⟨rfl, rfl⟩
end Go.Proofs.Ytmeogadkbbeglaa

namespace Go.Proofs.Ytmeogadkbbeglaa
open Go.RowKit

def fracF (b : Nat) : Nat := if b / 4503599627370496 = 0 then b % 4503599627370496 else b % 4503599627370496 + 4503599627370496
def byF (b : Nat) : Nat := if b / 4503599627370496 = 0 then 1074 else 1075 - b / 4503599627370496
/-- n times the rate of these bits, rounded, halves upwards -/
def scaleV (n b : Nat) : Nat := (n * fracF b / 2 ^ (byF b - 1) + 1) / 2

theorem and52 (b : Nat) (hb : b < 18446744073709551616) : bits .and .u64 (b : Int) 4503599627370495 = ((b % 4503599627370496 : Nat) : Int) := by
  have h := bits_and_u64_nat b 4503599627370495 hb (by omega)
  have e : b &&& 4503599627370495 = b % 4503599627370496 := Nat.and_two_pow_sub_one_eq_mod b 52
  rw [e] at h
  exact h
theorem or_add (a c k : Nat) (hc : c < 2 ^ k) (h1 : a * 2 ^ k < 18446744073709551616) (h2 : c < 18446744073709551616) : bits .or .u64 ((a * 2 ^ k : Nat) : Int) (c : Int) = ((a * 2 ^ k + c : Nat) : Int) := by
  have h := bits_or_u64_nat (a * 2 ^ k) c h1 h2
  have e : a * 2 ^ k ||| c = a * 2 ^ k + c := by
    have := Nat.two_pow_add_eq_or_of_lt hc a
    rw [Nat.mul_comm a]; exact this.symm
  rw [e] at h
  exact h
theorem or52 (m : Nat) (hm : m < 4503599627370496) : bits .or .u64 (m : Int) 4503599627370496 = ((m + 4503599627370496 : Nat) : Int) := by
  have h := bits_or_u64_nat m 4503599627370496 (by omega) (by omega)
  have e : m ||| 4503599627370496 = m + 4503599627370496 := by
    have := Nat.two_pow_add_eq_or_of_lt (i := 52) (b := m) (by omega) 1
    rw [Nat.or_comm, Nat.add_comm]; simpa using this.symm
  rw [e] at h
  exact h
theorem and1 (b : Nat) (hb : b < 18446744073709551616) : bits .and .u64 (b : Int) 1 = ((b % 2 : Nat) : Int) := by
  have h := bits_and_u64_nat b 1 hb (by omega)
  have e : b &&& 1 = b % 2 := Nat.and_two_pow_sub_one_eq_mod b 1
  rw [e] at h
  exact h
theorem or0 (b : Nat) (hb : b < 18446744073709551616) : bits .or .u64 (b : Int) 0 = (b : Int) := by
  have h := bits_or_u64_nat b 0 hb (by omega)
  rw [Nat.or_zero] at h
  exact h
theorem fin_half (L : Nat) (hL : L < 4611686018427387904) : wrap64 (IntKind.u64.wrap (bits .or .u64 ((L : Int) / 2) 0 + bits .and .u64 (L : Int) 1)) = (((L + 1) / 2 : Nat) : Int) := by
  have e : (L : Int) / 2 = ((L / 2 : Nat) : Int) := by omega
  rw [e, or0 _ (by omega), and1 _ (by omega), IntKind.wrap_u64]
  unfold wrap64
  omega

theorem prod_lt (n f : Nat) (hn : n ≤ 9007199254740992) (hf : f < 9007199254740992) : n * f < 81129638414606681695789005144064 := by
  have h : n * f ≤ 9007199254740992 * 9007199254740991 := Nat.mul_le_mul hn (by omega)
  omega

theorem case_a (P k : Nat) (hP : P < 81129638414606681695789005144064) :
    wrap64 (IntKind.u64.wrap (bits .or .u64 (((P / 18446744073709551616 : Nat) : Int) / 2 ^ k / 2) 0 + bits .and .u64 (((P / 18446744073709551616 : Nat) : Int) / 2 ^ k) 1)) = (((P / 2 ^ (64 + k) + 1) / 2 : Nat) : Int) := by
  have e : ((P / 18446744073709551616 : Nat) : Int) / 2 ^ k = ((P / 18446744073709551616 / 2 ^ k : Nat) : Int) := by
    rw [Int.natCast_ediv (P / 18446744073709551616) (2 ^ k), Int.natCast_pow]; rfl
  have e2 : P / 18446744073709551616 / 2 ^ k = P / 2 ^ (64 + k) := by
    rw [Nat.pow_add, Nat.div_div_eq_div_mul]
  have hl : P / 18446744073709551616 / 2 ^ k ≤ P / 18446744073709551616 := Nat.div_le_self _ _
  rw [e, e2, fin_half _ (by omega)]

theorem case_b (P : Nat) (hP : P < 81129638414606681695789005144064) :
    wrap64 (IntKind.u64.wrap (bits .or .u64 (bits .or .u64 (((P / 18446744073709551616 : Nat) : Int) * 2) (((P % 18446744073709551616 : Nat) : Int) / 9223372036854775808) / 2) (((P / 18446744073709551616 : Nat) : Int) / 9223372036854775808 * 9223372036854775808)
      + bits .and .u64 (bits .or .u64 (((P / 18446744073709551616 : Nat) : Int) * 2) (((P % 18446744073709551616 : Nat) : Int) / 9223372036854775808)) 1)) = (((P / 9223372036854775808 + 1) / 2 : Nat) : Int) := by
  have z : ((P / 18446744073709551616 : Nat) : Int) / 9223372036854775808 * 9223372036854775808 = 0 := by omega
  have e1 : ((P / 18446744073709551616 : Nat) : Int) * 2 = ((P / 18446744073709551616 * 2 ^ 1 : Nat) : Int) := by omega
  have e2 : ((P % 18446744073709551616 : Nat) : Int) / 9223372036854775808 = ((P % 18446744073709551616 / 9223372036854775808 : Nat) : Int) := by omega
  have e3 : P / 18446744073709551616 * 2 ^ 1 + P % 18446744073709551616 / 9223372036854775808 = P / 9223372036854775808 := by omega
  rw [z, e1, e2, or_add _ _ 1 (by omega) (by omega) (by omega), e3, fin_half _ (by omega)]

theorem case_c (P s : Nat) (hP : P < 81129638414606681695789005144064) (h1 : 51 ≤ s) (h2 : s ≤ 62) :
    wrap64 (IntKind.u64.wrap (bits .or .u64 (bits .or .u64 (IntKind.u64.wrap (((P / 18446744073709551616 : Nat) : Int) * 2 ^ (64 - s))) (((P % 18446744073709551616 : Nat) : Int) / 2 ^ s) / 2) (IntKind.u64.wrap (((P / 18446744073709551616 : Nat) : Int) / 2 ^ s * 9223372036854775808))
      + bits .and .u64 (bits .or .u64 (IntKind.u64.wrap (((P / 18446744073709551616 : Nat) : Int) * 2 ^ (64 - s))) (((P % 18446744073709551616 : Nat) : Int) / 2 ^ s)) 1)) = (((P / 2 ^ s + 1) / 2 : Nat) : Int) := by
  have hc : s = 51 ∨ s = 52 ∨ s = 53 ∨ s = 54 ∨ s = 55 ∨ s = 56 ∨ s = 57 ∨ s = 58 ∨ s = 59 ∨ s = 60 ∨ s = 61 ∨ s = 62 := by omega
  have hz : ((P / 18446744073709551616 : Nat) : Int) / 2 ^ s = 0 := by
    apply Int.ediv_eq_zero_of_lt (by omega)
    rcases hc with rfl | rfl | rfl | rfl | rfl | rfl | rfl | rfl | rfl | rfl | rfl | rfl <;> simp <;> omega
  rw [hz]
  have e1 : IntKind.u64.wrap (((P / 18446744073709551616 : Nat) : Int) * 2 ^ (64 - s)) = ((P / 18446744073709551616 * 2 ^ (64 - s) : Nat) : Int) := by
    rw [IntKind.wrap_u64]
    rcases hc with rfl | rfl | rfl | rfl | rfl | rfl | rfl | rfl | rfl | rfl | rfl | rfl <;> simp <;> omega
  have e2 : ((P % 18446744073709551616 : Nat) : Int) / 2 ^ s = ((P % 18446744073709551616 / 2 ^ s : Nat) : Int) := by
    rw [Int.natCast_ediv, Int.natCast_pow]; rfl
  have b1 : P % 18446744073709551616 / 2 ^ s < 2 ^ (64 - s) := by
    rcases hc with rfl | rfl | rfl | rfl | rfl | rfl | rfl | rfl | rfl | rfl | rfl | rfl <;> simp <;> omega
  have b2 : P / 18446744073709551616 * 2 ^ (64 - s) < 18446744073709551616 := by
    rcases hc with rfl | rfl | rfl | rfl | rfl | rfl | rfl | rfl | rfl | rfl | rfl | rfl <;> simp <;> omega
  have e3 : P / 18446744073709551616 * 2 ^ (64 - s) + P % 18446744073709551616 / 2 ^ s = P / 2 ^ s := by
    rcases hc with rfl | rfl | rfl | rfl | rfl | rfl | rfl | rfl | rfl | rfl | rfl | rfl <;> simp <;> omega
  have b3 : P / 2 ^ s < 4611686018427387904 := by
    rcases hc with rfl | rfl | rfl | rfl | rfl | rfl | rfl | rfl | rfl | rfl | rfl | rfl <;> simp <;> omega
  have b4 : P % 18446744073709551616 / 2 ^ s ≤ P % 18446744073709551616 := Nat.div_le_self _ _
  have w0 : IntKind.u64.wrap (0 * 9223372036854775808 : Int) = 0 := by rw [IntKind.wrap_u64]; omega
  rw [w0, e1, e2, or_add _ _ (64 - s) b1 b2 (by omega), e3, fin_half _ b3]

/-- what money.Scale answers -/
def scaleF (n : Int) (b : Nat) : Int × Int := if inB 0 n 9007199254740992 = false then (0, 50) else if rateOk b = false then (0, 51) else ((scaleV n.toNat b : Nat), 0)

theorem scaleV_far (n b : Nat) (hP : n * fracF b < 81129638414606681695789005144064) (h : 107 < byF b) : scaleV n b = 0 := by
  unfold scaleV
  have h2 : 2 ^ 107 ≤ 2 ^ (byF b - 1) := Nat.pow_le_pow_right (by decide) (by omega)
  have h3 : (2 : Nat) ^ 107 = 162259276829213363391578010288128 := by decide
  rw [h3] at h2
  rw [Nat.div_eq_of_lt (Nat.lt_of_lt_of_le (by omega) h2)]

/-- what tariff.Single answers -/
def singleF (t : Tariff) (a b : Int) (peak : Bool) : Int × Int := match spFind t.sp a b with
  | none => (0, 1)
  | some s => if priceB s.single = false then (0, 50) else if peak = true then (s.single, 0) else scaleF s.single t.off

end Go.Proofs.Ytmeogadkbbeglaa

namespace Go.Proofs
open Go.Shelf
def Try.lays264_ren : Go.Shelf.Ren := ⟨fun | 264 => 135 | n => n, fun | 53 => 162 | 46 => 166 | n => n, fun | n => n⟩
theorem Try.lays264 : Go.Proofs.Lays.n264 Try.prog Try.lays264_ren := {
  mixed := by kernel_rfl
  f264 := Try.func135.trans (congrArg some (by kernel_rfl))
  t46 := Try.underlying166
  a46 := Try.isAgg166
  z46 := Try.sizeOf166
  v46 := Try.zeroValue166
  t53 := Try.underlying162
  a53 := Try.isAgg162
  z53 := Try.sizeOf162
  v53 := Try.zeroValue162 }
open Go.RowKit Go.Lib in
theorem Try.bits_Mul64 (x y : Nat) (hx : x < 18446744073709551616) (hy : y < 18446744073709551616) (w : World) :
    Calls Try.prog 135 #[.int .u64 x, .int .u64 y] w fun e w' => e = .returned (.tuple #[.int .u64 ((x * y / 18446744073709551616 : Nat) : Int), .int .u64 ((x * y % 18446744073709551616 : Nat) : Int)]) ∧ w' = w := Any.bits_Mul64 Try.lays264 x y hx hy w
end Go.Proofs

namespace Go.Proofs.Ytmeogadkbbeglaa
open Go.RowKit
set_option maxHeartbeats 800000

theorem mright_calls (n : Int) (w : World) :
    Calls Try.prog 133 #[.int .i64 n] w fun e w' => e = .returned (.bool (inB (-9007199254740992) n 9007199254740992)) ∧ w = w' := by
  by_cases h : -9007199254740992 ≤ n <;> by_cases h2 : n ≤ 9007199254740992
  all_goals
    go_enter Try.func133, Try.ntmps133
    go_wp2
    go_ret
    exact ⟨ret_bool (by simp [inB, h, h2]), rfl⟩

theorem ret2_int {k : IntKind} {a b : Int} {c : Value} (h : a = b) : Ending.returned (.tuple #[.int k a, c]) = .returned (.tuple #[.int k b, c]) := by rw [h]
theorem frac_of (e m : Nat) (hm : m < 4503599627370496) (h0 : 0 < e) : fracF (e * 4503599627370496 + m) = m + 4503599627370496 := by
  unfold fracF; rw [if_neg (by omega)]; omega
theorem by_of (e m : Nat) (hm : m < 4503599627370496) (h0 : 0 < e) : byF (e * 4503599627370496 + m) = 1075 - e := by
  unfold byF; rw [if_neg (by omega)]; omega

theorem scale_far (n e m : Nat) (hn : n ≤ 9007199254740992) (he : e ≤ 1023) (hm : m < 4503599627370496) (w : World) (h0 : 0 < e) (h64 : 107 < 1075 - e) (hr : rateOk (e * 4503599627370496 + m) = true) :
    Calls Try.prog 89 #[.int .i64 n, .float .f64 (e * 4503599627370496 + m : Nat)] w fun e' w' => e' = .returned (.tuple #[.int .i64 (scaleV n (e * 4503599627370496 + m) : Nat), .int .i64 0]) ∧ Below w.heap.size w w' := by
  have HF := Lib.hid (frac_of e m hm h0)
  have HY := Lib.hid (by_of e m hm h0)
  have hlt : e * 4503599627370496 + m < 18446744073709551616 := by omega
  have hx := bits_run (e * 4503599627370496 + m)
  have h1 : inB (-9007199254740992) n 9007199254740992 = true := by simp [inB]; omega
  have hA : bits .and .u64 (((e * 4503599627370496 + m : Nat)) : Int) 4503599627370495 = (m : Int) := by rw [and52 _ hlt]; congr 1; omega
  have hE : (((e * 4503599627370496 + m : Nat)) : Int) / 4503599627370496 = (e : Int) := by omega
  have hO := or52 m hm
  generalize e * 4503599627370496 + m = b at *
  generalize hf : m + 4503599627370496 = f at *
  have hfl : f < 9007199254740992 := by omega
  have HFF := Lib.hid hf
  clear hf
  go_enter Try.func89, Try.ntmps89
  go_wp2_with (first | (go_at_call 133; (with_reducible refine (mright_calls _ _).mono ?_); rintro e w' ⟨rfl, rfl⟩; rw [h1]) | (go_at_call 76; (with_reducible refine (rate_calls _ hlt _).mono ?_); rintro e w' ⟨rfl, rfl⟩; rw [hr]))
  refine (Try.bits_Mul64 _ _ (by omega) (by omega) _).mono ?_
  have hP := prod_lt n f hn hfl
  have hhl : n * f / 18446744073709551616 < 4398046511104 := by omega
  have hll : n * f % 18446744073709551616 < 18446744073709551616 := by omega
  generalize hhi : n * f / 18446744073709551616 = hi at *
  generalize hlo : n * f % 18446744073709551616 = lo at *
  have HH := Lib.hid hhi
  have HL := Lib.hid hlo
  have HP := Lib.hid hP
  clear hhi hlo hP
  rintro _ w1 ⟨rfl, hw1⟩
  subst hw1
  go_wp2_with fail
  go_ret2
  refine ⟨ret2_int ?_, by (repeat (first | (with_reducible exact Below.refl _ _) | (with_reducible refine bAlloc ?_ _) | (with_reducible refine bDrewN ?_ _) | (with_reducible refine bDrew ?_) | (with_reducible refine bSet ?_ (by first | exact Nat.le_refl _ | (simp; omega) | omega) _) | (with_reducible refine bThen ?_ (by with_reducible assumption))))⟩
  rw [scaleV_far _ _ (by rw [HF.out]; exact HP.out) (by rw [HY.out]; exact h64)]; rfl

theorem scale_a (n e m : Nat) (hn : n ≤ 9007199254740992) (he : e ≤ 1023) (hm : m < 4503599627370496) (w : World) (h0 : 0 < e) (h64 : 64 < 1075 - e) (h107 : 1075 - e ≤ 107) (hr : rateOk (e * 4503599627370496 + m) = true) :
    Calls Try.prog 89 #[.int .i64 n, .float .f64 (e * 4503599627370496 + m : Nat)] w fun e' w' => e' = .returned (.tuple #[.int .i64 (scaleV n (e * 4503599627370496 + m) : Nat), .int .i64 0]) ∧ Below w.heap.size w w' := by
  have HF := Lib.hid (frac_of e m hm h0)
  have HY := Lib.hid (by_of e m hm h0)
  have hlt : e * 4503599627370496 + m < 18446744073709551616 := by omega
  have hx := bits_run (e * 4503599627370496 + m)
  have h1 : inB (-9007199254740992) n 9007199254740992 = true := by simp [inB]; omega
  have hA : bits .and .u64 (((e * 4503599627370496 + m : Nat)) : Int) 4503599627370495 = (m : Int) := by rw [and52 _ hlt]; congr 1; omega
  have hE : (((e * 4503599627370496 + m : Nat)) : Int) / 4503599627370496 = (e : Int) := by omega
  have hO := or52 m hm
  generalize e * 4503599627370496 + m = b at *
  generalize hf : m + 4503599627370496 = f at *
  have hfl : f < 9007199254740992 := by omega
  have HFF := Lib.hid hf
  clear hf
  go_enter Try.func89, Try.ntmps89
  go_wp2_with (first | (go_at_call 133; (with_reducible refine (mright_calls _ _).mono ?_); rintro e w' ⟨rfl, rfl⟩; rw [h1]) | (go_at_call 76; (with_reducible refine (rate_calls _ hlt _).mono ?_); rintro e w' ⟨rfl, rfl⟩; rw [hr]))
  refine (Try.bits_Mul64 _ _ (by omega) (by omega) _).mono ?_
  have hP := prod_lt n f hn hfl
  have hhl : n * f / 18446744073709551616 < 4398046511104 := by omega
  have hll : n * f % 18446744073709551616 < 18446744073709551616 := by omega
  generalize hhi : n * f / 18446744073709551616 = hi at *
  generalize hlo : n * f % 18446744073709551616 = lo at *
  have HH := Lib.hid hhi
  have HL := Lib.hid hlo
  have HP := Lib.hid hP
  clear hhi hlo hP
  rintro _ w1 ⟨rfl, hw1⟩
  subst hw1
  go_wp2_with fail
  go_quiet (fail)
  go_wp2_with fail
  go_ret2
  refine ⟨ret2_int ?_, by (repeat (first | (with_reducible exact Below.refl _ _) | (with_reducible refine bAlloc ?_ _) | (with_reducible refine bDrewN ?_ _) | (with_reducible refine bDrew ?_) | (with_reducible refine bSet ?_ (by first | exact Nat.le_refl _ | (simp; omega) | omega) _) | (with_reducible refine bThen ?_ (by with_reducible assumption))))⟩
  have hc := case_a (n * f) (1075 - e - 65) HP.out
  rw [HH.out] at hc
  rw [hc]
  unfold scaleV
  rw [HF.out, HY.out, show 64 + (1075 - e - 65) = 1075 - e - 1 from by omega]

theorem scale_b (n e m : Nat) (hn : n ≤ 9007199254740992) (he : e ≤ 1023) (hm : m < 4503599627370496) (w : World) (h0 : 0 < e) (h64 : 1075 - e = 64) (hr : rateOk (e * 4503599627370496 + m) = true) :
    Calls Try.prog 89 #[.int .i64 n, .float .f64 (e * 4503599627370496 + m : Nat)] w fun e' w' => e' = .returned (.tuple #[.int .i64 (scaleV n (e * 4503599627370496 + m) : Nat), .int .i64 0]) ∧ Below w.heap.size w w' := by
  have HF := Lib.hid (frac_of e m hm h0)
  have HY := Lib.hid (by_of e m hm h0)
  have hlt : e * 4503599627370496 + m < 18446744073709551616 := by omega
  have hx := bits_run (e * 4503599627370496 + m)
  have h1 : inB (-9007199254740992) n 9007199254740992 = true := by simp [inB]; omega
  have hA : bits .and .u64 (((e * 4503599627370496 + m : Nat)) : Int) 4503599627370495 = (m : Int) := by rw [and52 _ hlt]; congr 1; omega
  have hE : (((e * 4503599627370496 + m : Nat)) : Int) / 4503599627370496 = (e : Int) := by omega
  have hO := or52 m hm
  generalize e * 4503599627370496 + m = b at *
  generalize hf : m + 4503599627370496 = f at *
  have hfl : f < 9007199254740992 := by omega
  have HFF := Lib.hid hf
  clear hf
  go_enter Try.func89, Try.ntmps89
  go_wp2_with (first | (go_at_call 133; (with_reducible refine (mright_calls _ _).mono ?_); rintro e w' ⟨rfl, rfl⟩; rw [h1]) | (go_at_call 76; (with_reducible refine (rate_calls _ hlt _).mono ?_); rintro e w' ⟨rfl, rfl⟩; rw [hr]))
  refine (Try.bits_Mul64 _ _ (by omega) (by omega) _).mono ?_
  have hP := prod_lt n f hn hfl
  have hhl : n * f / 18446744073709551616 < 4398046511104 := by omega
  have hll : n * f % 18446744073709551616 < 18446744073709551616 := by omega
  generalize hhi : n * f / 18446744073709551616 = hi at *
  generalize hlo : n * f % 18446744073709551616 = lo at *
  have HH := Lib.hid hhi
  have HL := Lib.hid hlo
  have HP := Lib.hid hP
  clear hhi hlo hP
  rintro _ w1 ⟨rfl, hw1⟩
  subst hw1
  go_wp2_with fail
  go_ret2
  refine ⟨ret2_int ?_, by (repeat (first | (with_reducible exact Below.refl _ _) | (with_reducible refine bAlloc ?_ _) | (with_reducible refine bDrewN ?_ _) | (with_reducible refine bDrew ?_) | (with_reducible refine bSet ?_ (by first | exact Nat.le_refl _ | (simp; omega) | omega) _) | (with_reducible refine bThen ?_ (by with_reducible assumption))))⟩
  have hc := case_b (n * f) HP.out
  rw [HH.out, HL.out] at hc
  rw [hc]
  unfold scaleV
  rw [HF.out, HY.out, h64]

theorem scale_c (n e m : Nat) (hn : n ≤ 9007199254740992) (he : e ≤ 1023) (hm : m < 4503599627370496) (w : World) (h0 : 0 < e) (h64 : 1075 - e < 64) (hr : rateOk (e * 4503599627370496 + m) = true) :
    Calls Try.prog 89 #[.int .i64 n, .float .f64 (e * 4503599627370496 + m : Nat)] w fun e' w' => e' = .returned (.tuple #[.int .i64 (scaleV n (e * 4503599627370496 + m) : Nat), .int .i64 0]) ∧ Below w.heap.size w w' := by
  have HF := Lib.hid (frac_of e m hm h0)
  have HY := Lib.hid (by_of e m hm h0)
  have hlt : e * 4503599627370496 + m < 18446744073709551616 := by omega
  have hx := bits_run (e * 4503599627370496 + m)
  have h1 : inB (-9007199254740992) n 9007199254740992 = true := by simp [inB]; omega
  have hA : bits .and .u64 (((e * 4503599627370496 + m : Nat)) : Int) 4503599627370495 = (m : Int) := by rw [and52 _ hlt]; congr 1; omega
  have hE : (((e * 4503599627370496 + m : Nat)) : Int) / 4503599627370496 = (e : Int) := by omega
  have hO := or52 m hm
  generalize e * 4503599627370496 + m = b at *
  generalize hf : m + 4503599627370496 = f at *
  have hfl : f < 9007199254740992 := by omega
  have HFF := Lib.hid hf
  clear hf
  go_enter Try.func89, Try.ntmps89
  go_wp2_with (first | (go_at_call 133; (with_reducible refine (mright_calls _ _).mono ?_); rintro e w' ⟨rfl, rfl⟩; rw [h1]) | (go_at_call 76; (with_reducible refine (rate_calls _ hlt _).mono ?_); rintro e w' ⟨rfl, rfl⟩; rw [hr]))
  refine (Try.bits_Mul64 _ _ (by omega) (by omega) _).mono ?_
  have hP := prod_lt n f hn hfl
  have hhl : n * f / 18446744073709551616 < 4398046511104 := by omega
  have hll : n * f % 18446744073709551616 < 18446744073709551616 := by omega
  generalize hhi : n * f / 18446744073709551616 = hi at *
  generalize hlo : n * f % 18446744073709551616 = lo at *
  have HH := Lib.hid hhi
  have HL := Lib.hid hlo
  have HP := Lib.hid hP
  clear hhi hlo hP
  rintro _ w1 ⟨rfl, hw1⟩
  subst hw1
  go_wp2_with fail
  go_quiet (fail)
  go_wp2_with fail
  go_ret2
  refine ⟨ret2_int ?_, by (repeat (first | (with_reducible exact Below.refl _ _) | (with_reducible refine bAlloc ?_ _) | (with_reducible refine bDrewN ?_ _) | (with_reducible refine bDrew ?_) | (with_reducible refine bSet ?_ (by first | exact Nat.le_refl _ | (simp; omega) | omega) _) | (with_reducible refine bThen ?_ (by with_reducible assumption))))⟩
  have hc := case_c (n * f) (1075 - e - 1) HP.out (by omega) (by omega)
  rw [HH.out, HL.out, show 64 - (1075 - e - 1) = 65 - (1075 - e) from by omega] at hc
  rw [hc]
  unfold scaleV
  rw [HF.out, HY.out]

theorem scale_zero (n m : Nat) (hn : n ≤ 9007199254740992) (hm : m < 4503599627370496) (w : World) (hr : rateOk m = true) :
    Calls Try.prog 89 #[.int .i64 n, .float .f64 m] w fun e' w' => e' = .returned (.tuple #[.int .i64 (scaleV n m : Nat), .int .i64 0]) ∧ Below w.heap.size w w' := by
  have HV : Hid (scaleV n m = 0) := scaleV_far n m (prod_lt n _ hn (by unfold fracF; split <;> omega)) (by unfold byF; rw [if_pos (by omega)]; omega)
  have hlt : m < 18446744073709551616 := by omega
  have hx := bits_run m
  have h1 : inB (-9007199254740992) n 9007199254740992 = true := by simp [inB]; omega
  have hA : bits .and .u64 (m : Int) 4503599627370495 = (m : Int) := by rw [and52 _ hlt]; congr 1; omega
  have hE : (m : Int) / 4503599627370496 = 0 := by omega
  go_enter Try.func89, Try.ntmps89
  go_wp2_with (first | (go_at_call 133; (with_reducible refine (mright_calls _ _).mono ?_); rintro e w' ⟨rfl, rfl⟩; rw [h1]) | (go_at_call 76; (with_reducible refine (rate_calls _ hlt _).mono ?_); rintro e w' ⟨rfl, rfl⟩; rw [hr]))
  refine (Try.bits_Mul64 _ _ (by omega) (by omega) _).mono ?_
  have hP := prod_lt n m hn (by omega)
  generalize hhi : n * m / 18446744073709551616 = hi at *
  generalize hlo : n * m % 18446744073709551616 = lo at *
  clear hhi hlo hP
  rintro _ w1 ⟨rfl, hw1⟩
  subst hw1
  go_wp2_with fail
  go_ret2
  exact ⟨ret2_int (by rw [HV.out]; rfl), by (repeat (first | (with_reducible exact Below.refl _ _) | (with_reducible refine bAlloc ?_ _) | (with_reducible refine bDrewN ?_ _) | (with_reducible refine bDrew ?_) | (with_reducible refine bSet ?_ (by first | exact Nat.le_refl _ | (simp; omega) | omega) _) | (with_reducible refine bThen ?_ (by with_reducible assumption))))⟩

/-- money.Scale answers what P5.2 says, of whatever amount and rate. -/
theorem scale_calls (n : Int) (b : Nat) (hb : b < 18446744073709551616) (w : World) :
    Calls Try.prog 89 #[.int .i64 n, .float .f64 b] w fun e' w' => e' = .returned (.tuple #[.int .i64 (scaleF n b).1, .int .i64 (scaleF n b).2]) ∧ Below w.heap.size w w' := by
  cases h1 : inB 0 n 9007199254740992
  · have e1 : scaleF n b = (0, 50) := by simp [scaleF, h1]
    rw [e1]
    by_cases h0 : n < 0
    · go_enter Try.func89, Try.ntmps89
      go_wp2_with fail
      go_ret2
      exact ⟨rfl, Below.refl _ _⟩
    · have h2 : inB (-9007199254740992) n 9007199254740992 = false := by simp [inB] at h1 ⊢; omega
      go_enter Try.func89, Try.ntmps89
      go_wp2_with (go_at_call 133; (with_reducible refine (mright_calls _ _).mono ?_); rintro e w' ⟨rfl, rfl⟩; rw [h2])
      go_ret2
      exact ⟨rfl, Below.refl _ _⟩
  · have h0 : 0 ≤ n ∧ n ≤ 9007199254740992 := by simpa [inB] using h1
    cases hr : rateOk b
    · have e1 : scaleF n b = (0, 51) := by simp [scaleF, h1, hr]
      rw [e1]
      have hlt := hb
      have h2 : inB (-9007199254740992) n 9007199254740992 = true := by simp [inB]; omega
      have h3 : ¬ n < 0 := by omega
      go_enter Try.func89, Try.ntmps89
      go_wp2_with (first | (go_at_call 133; (with_reducible refine (mright_calls _ _).mono ?_); rintro e w' ⟨rfl, rfl⟩; rw [h2]) | (go_at_call 76; (with_reducible refine (rate_calls _ hlt _).mono ?_); rintro e w' ⟨rfl, rfl⟩; rw [hr]))
      go_ret2
      exact ⟨rfl, Below.refl _ _⟩
    · obtain ⟨n, rfl⟩ := Int.eq_ofNat_of_zero_le h0.1
      have e1 : scaleF (n : Int) b = (((scaleV n b : Nat) : Int), (0 : Int)) := by simp [scaleF, h1, hr]
      rw [e1]
      have hbb : b ≤ 4607182418800017408 := by simpa [rateOk] using hr
      by_cases he : b / 4503599627370496 = 0
      · exact scale_zero n b (by omega) (by omega) w hr
      · have eb : b = b / 4503599627370496 * 4503599627370496 + b % 4503599627370496 := by omega
        generalize hE : b / 4503599627370496 = e at *
        generalize hM : b % 4503599627370496 = m at *
        have hm : m < 4503599627370496 := by omega
        have he' : e ≤ 1023 := by omega
        clear hE hM
        subst eb
        by_cases c1 : 107 < 1075 - e
        · exact scale_far n e m (by omega) he' hm w (by omega) c1 hr
        by_cases c2 : 64 < 1075 - e
        · exact scale_a n e m (by omega) he' hm w (by omega) c2 (by omega) hr
        by_cases c3 : 1075 - e = 64
        · exact scale_b n e m (by omega) he' hm w (by omega) c3 hr
        · exact scale_c n e m (by omega) he' hm w (by omega) (by omega) hr

end Go.Proofs.Ytmeogadkbbeglaa

namespace Go
/-- A world that stands behind W: all of W's blocks are as they were. -/
structure Ext (W : World) where
  w : World
  h : Go.RowKit.Below W.heap.size W w
instance (W : World) : Nonempty (Ext W) := ⟨⟨W, Go.RowKit.Below.refl _ _⟩⟩
def World.ext (W : World) (x : Ext W) : World := x.w
theorem World.below_ext (W : World) (x : Ext W) : Go.RowKit.Below W.heap.size W (W.ext x) := x.h
@[go_sem] theorem World.cell_ext (W : World) (x : Ext W) (p : Addr) (h : p.block < W.heap.size) : (W.ext x).cell? p = W.cell? p := x.h.cell h
@[go_sem] theorem World.frozen_ext (W : World) (x : Ext W) (p : Addr) (h : p.block < W.heap.size) : (W.ext x).frozen? p = W.frozen? p := x.h.frozen h
theorem World.size_ext (W : World) (x : Ext W) : W.heap.size ≤ (W.ext x).heap.size := x.h.size

theorem wp_region_calm_lit {P : Program} {id : Nat} {Q : Exit → Act → World → Prop} {a : Act} {w : World} {l : List Oper} (hm : P.follows .mixedOrders = true) (hB : Region.lexB .any l.toArray = true)
    (h : wpQuiet P l.toArray (fun w' => ∃ x : Ext w, w' = w.ext x) (fun a' => ∀ w', (∃ x : Ext w, w' = w.ext x) → Q .normal a' w') l a) : (Code.region id l.toArray true).wp P Q a w :=
  wp_region_quiet (C := fun w' => ∃ x : Ext w, w' = w.ext x) hm hB ⟨⟨_, Go.RowKit.Below.drew (Go.RowKit.Below.refl _ _)⟩, rfl⟩ (by simpa using h)

/-- A callee's contract, met in a world behind w. -/
theorem Calls.calm {P : Program} {f : FuncId} {args : Array Value} {w : World} {x : Ext w} {v : Value}
    (h : Calls P f args (w.ext x) fun e w' => e = .returned v ∧ Go.RowKit.Below (w.ext x).heap.size (w.ext x) w') : Calls P f args (w.ext x) fun e w'' => e = .returned v ∧ ∃ y : Ext w, w'' = w.ext y :=
  h.mono fun _ w'' ⟨he, hb⟩ => ⟨he, ⟨w'', (w.below_ext x).trans (hb.mono (w.size_ext x))⟩, rfl⟩
theorem Calls.calm_same {P : Program} {f : FuncId} {args : Array Value} {w : World} {x : Ext w} {v : Value}
    (h : Calls P f args (w.ext x) fun e w' => e = .returned v ∧ w.ext x = w') : Calls P f args (w.ext x) fun e w'' => e = .returned v ∧ ∃ y : Ext w, w'' = w.ext y :=
  h.mono fun _ _ ⟨he, hb⟩ => ⟨he, x, hb.symm⟩

/-- Q, but what is asked at a panic speaks of the chain, the laid calls and the world alone. -/
def Slotless (Q : Exit → Act → World → Prop) (D : List Deferred) (G : List PanicEntry → World → Prop) : Exit → Act → World → Prop
  | .panic c, a, w => a.defers = D ∧ G c w
  | e, a, w => Q e a w

section
variable {P : Program} {ops : Array Oper} {Q : Exit → Act → World → Prop} {md : Region.Mode} {D : List Deferred} {G : List PanicEntry → World → Prop} {d : Tmp} {x : Value}

theorem put_slot {a : Act} {t : Option Tmp} {v : Value} (h : t ≠ some d) (ha : a.tmps[d]? = some x) : (a.put t v).tmps[d]? = some x := by
  cases t with
  | none => exact ha
  | some s =>
    show (a.tmps.setIfInBounds s v)[d]? = some x
    rw [Array.getElem?_setIfInBounds_ne (fun e => h (by rw [e]))]
    exact ha

theorem letsOut_slotless (h : LetsOut (Slotless Q D G)) : LetsOut Q := h

theorem wpOp_slot (hd : ∀ o, o ∈ ops → o.dst ≠ some d) (hP : ∀ c a w, a.tmps[d]? = some x → a.defers = D → G c w → Q (.panic c) a w) {i : Nat} {K K' : Act → World → Prop} {a : Act} {w : World}
    (hK : ∀ a' w', a'.tmps[d]? = some x → K a' w' → K' a' w') (ha : a.tmps[d]? = some x) (hh : wpOp P ops (Slotless Q D G) i K a w) : wpOp P ops Q i K' a w := by
  unfold wpOp at *
  cases ho : ops[i]? with
  | none => simp only [ho] at hh ⊢; exact hK _ _ ha hh
  | some o =>
    simp only [ho] at hh ⊢
    have hod : o.dst ≠ some d := hd o (by obtain ⟨hl, he⟩ := Array.getElem?_eq_some_iff.1 ho; exact he ▸ Array.getElem_mem hl)
    split at hh
    · rename_i hw
      rw [if_pos hw]
      rcases hh with hh | hh
      · left
        unfold Oper.wp at *
        generalize (execOp a.eval o).run P w = r at *
        cases r with
        | ok n w' =>
          cases n <;> simp only [Oper.upon] at hh ⊢ <;>
            first
              | exact hK _ _ (put_slot hod ha) hh
              | exact Calls.mono hh (fun e w'' he => by cases e <;> first | exact hK _ _ (put_slot hod ha) he | exact hP _ _ _ ha he.1 he.2 | exact he)
              | exact Rows.mono hh (fun _ _ he => hK _ _ (put_slot hod ha) he)
              | exact hh
        | halt y w' => cases y <;> simp only [Oper.upon] at hh ⊢ <;> first | exact hP _ _ _ ha hh.1 hh.2 | exact hh
      · right; exact ⟨hh.1, letsOut_slotless hh.2⟩
    · rename_i hw
      rw [if_neg hw]
      exact hK _ _ (put_slot hod ha) hh

theorem wpAny_slot (hd : ∀ o, o ∈ ops → o.dst ≠ some d) (hP : ∀ c a w, a.tmps[d]? = some x → a.defers = D → G c w → Q (.panic c) a w) : ∀ (fuel : Nat) (listed : Array Bool) (a : Act) (w : World), a.tmps[d]? = some x →
    wpAny P md ops (Slotless Q D G) fuel listed a w → wpAny P md ops Q fuel listed a w
  | 0, _, _, _, _, h => h
  | fuel + 1, _, _, _, ha, h => ⟨h.1, fun i hi => wpOp_slot hd hP (fun a' w' ha' h' => wpAny_slot hd hP fuel _ a' w' ha' h') ha (h.2 i hi)⟩

/-- A region that draws, in a function that defers: what is asked at a panic hangs on one slot alone, which the region does not write. -/
theorem wp_region_slot {id : Nat} {S : World → Prop} {a : Act} {w : World} (d : Tmp) (x : Value) (G : List PanicEntry → World → Prop) (hm : P.follows .mixedOrders = true) (hd : ∀ o, o ∈ ops → o.dst ≠ some d) (ha : a.tmps[d]? = some x)
    (hP : ∀ c a' w', a'.tmps[d]? = some x → a'.defers = a.defers → G c w' → Q (.panic c) a' w')
    (h : wpAnyH P .any ops (Slotless Q a.defers G) S ops.size (Array.replicate ops.size false) a w.drew) : (Code.region id ops true).wp P Q a w :=
  wp_region_any hm (wpAny_slot hd hP _ _ _ _ ha (wpAny_of_held _ _ _ _ h))
end
end Go
