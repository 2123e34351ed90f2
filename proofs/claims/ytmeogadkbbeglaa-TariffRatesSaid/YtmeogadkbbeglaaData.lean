/- The data of the statements as plain Lean data, and what the program's functions compute, in plain Lean. -/
namespace Go.Proofs.Ytmeogadkbbeglaa

structure Station where
  id : Int
  zone : Int
  grp : Int
  deriving DecidableEq
structure Span where
  frm : Int
  to : Int
  single : Int
  daily : Int
  weekly : Int
  deriving DecidableEq
structure Band where
  frm : Int
  to : Int
  deriving DecidableEq
structure Tariff where
  st : List Station
  sp : List Span
  pk : List Band
  off : Nat
  bus : Int
  busDaily : Int
  busWeekly : Int
  hopper : Int
  most : Int
  longest : Int
  change : Int
  passback : Int
  delay : Int
  threshold : Int

def inB (lo n hi : Int) : Bool := decide (lo ≤ n ∧ n ≤ hi)
def priceB (n : Int) : Bool := inB 0 n 1048576

def stOk (ahead : Int) (s : Station) : Bool := decide (ahead < s.id) && decide (s.id ≤ 65535) && inB 1 s.zone 9 && inB 0 s.grp 65535
def stGo : List Station → Int → Int → Option Int
  | [], most, _ => some most
  | s :: r, most, ahead => if stOk ahead s = true then stGo r (if most < s.zone then s.zone else most) s.id else none
def stationsF (l : List Station) : Option Int := if l.length ≤ 200 then stGo l 1 0 else none

/-- the spans from (f, t) on are l -/
def spGo : List Span → Int → Int → Int → Bool
  | [], _, _, _ => true
  | s :: r, f, t, most => if s.frm = f ∧ s.to = t then (if most < t + 1 then spGo r (f + 1) (f + 1) most else spGo r f (t + 1) most) else false
def spansF (l : List Span) (most : Int) : Bool := if (l.length : Int) = most * (most + 1) / 2 then spGo l 1 1 most else false


def pricesB (t : Tariff) : Bool := priceB t.bus && (priceB t.busDaily && (priceB t.busWeekly && (priceB t.most && priceB t.threshold)))
def spPrice (s : Span) : Bool := priceB s.single && priceB s.daily && priceB s.weekly
def spWithin (a b : Span) : Bool := decide (b.frm ≤ a.frm ∧ a.to ≤ b.to)
def spLe (a b : Span) : Bool := decide (a.single ≤ b.single ∧ a.daily ≤ b.daily ∧ a.weekly ≤ b.weekly)
def wide1 (a b : Span) : Bool := !spWithin a b || spLe a b
def bandsGo : List Band → Int → Bool
  | [], _ => true
  | b :: r, at_ => if at_ ≤ b.frm ∧ b.frm < b.to ∧ b.to ≤ 1440 then bandsGo r b.to else false
def bandsF (l : List Band) : Bool := decide (l.length ≤ 8) && bandsGo l 0
def minsB (t : Tariff) : Bool := inB 0 t.hopper 1440 && (inB 0 t.change 1440 && (inB 0 t.passback 1440 && inB 0 t.delay 1440))
def rateOk (b : Nat) : Bool := decide (b ≤ 4607182418800017408)
/-- what tariff.Right answers -/
def rightF (t : Tariff) : Int :=
  match stationsF t.st with
  | none => 70
  | some most =>
    if spansF t.sp most = false then 70
    else if pricesB t = false then 50
    else if t.sp.all spPrice = false then 50
    else if t.sp.all (fun a => t.sp.all (fun b => wide1 a b)) = false then 70
    else if bandsF t.pk = false then 70
    else if rateOk t.off = false then 51
    else if inB 1 t.longest 1440 = false then 70
    else if minsB t = false then 70
    else 0

def R0 (t : Tariff) : Prop := ∃ most, stationsF t.st = some most ∧ spansF t.sp most = true
def R1 (t : Tariff) : Prop := R0 t ∧ pricesB t = true
def R2 (t : Tariff) : Prop := R1 t ∧ t.sp.all spPrice = true
def R3 (t : Tariff) : Prop := R2 t ∧ t.sp.all (fun a => t.sp.all (fun b => wide1 a b)) = true
def R4 (t : Tariff) : Prop := R3 t ∧ bandsF t.pk = true
def R5 (t : Tariff) : Prop := R4 t ∧ rateOk t.off = true
def R6 (t : Tariff) : Prop := R5 t ∧ inB 1 t.longest 1440 = true
theorem rf_prices {t : Tariff} (h : R0 t) (p : pricesB t = false) : 50 = rightF t := by
  obtain ⟨m, a, b⟩ := h; simp [rightF, a, b, p]
theorem rf_sp {t : Tariff} (h : R1 t) (p : t.sp.all spPrice = false) : 50 = rightF t := by
  obtain ⟨⟨m, a, b⟩, c⟩ := h; unfold rightF; simp only [a, b, c, p]; simp
theorem rf_wide {t : Tariff} (h : R2 t) (p : t.sp.all (fun a => t.sp.all (fun b => wide1 a b)) = false) : 70 = rightF t := by
  obtain ⟨⟨⟨m, a, b⟩, c⟩, d⟩ := h; unfold rightF; simp only [a, b, c, d, p]; simp
theorem rf_bands {t : Tariff} (h : R3 t) (p : bandsF t.pk = false) : 70 = rightF t := by
  obtain ⟨⟨⟨⟨m, a, b⟩, c⟩, d⟩, e⟩ := h; unfold rightF; simp only [a, b, c, d, e, p]; simp
theorem rf_rate {t : Tariff} (h : R4 t) (p : rateOk t.off = false) : 51 = rightF t := by
  obtain ⟨⟨⟨⟨⟨m, a, b⟩, c⟩, d⟩, e⟩, f⟩ := h; unfold rightF; simp only [a, b, c, d, e, f, p]; simp
theorem rf_long {t : Tariff} (h : R5 t) (p : inB 1 t.longest 1440 = false) : 70 = rightF t := by
  obtain ⟨⟨⟨⟨⟨⟨m, a, b⟩, c⟩, d⟩, e⟩, f⟩, g⟩ := h; unfold rightF; simp only [a, b, c, d, e, f, g, p]; simp
theorem rf_mins {t : Tariff} (h : R6 t) (p : minsB t = false) : 70 = rightF t := by
  obtain ⟨⟨⟨⟨⟨⟨⟨m, a, b⟩, c⟩, d⟩, e⟩, f⟩, g⟩, i⟩ := h; unfold rightF; simp only [a, b, c, d, e, f, g, i, p]; simp
theorem rf_ok {t : Tariff} (h : R6 t) (p : minsB t = true) : 0 = rightF t := by
  obtain ⟨⟨⟨⟨⟨⟨⟨m, a, b⟩, c⟩, d⟩, e⟩, f⟩, g⟩, i⟩ := h; unfold rightF; simp only [a, b, c, d, e, f, g, i, p]; simp

theorem all_snoc {α : Type} {l : List α} {p : α → Bool} {k : Nat} (hk : k < l.length) (h : (l.take k).all p = true) (hp : p l[k] = true) : (l.take (k + 1)).all p = true := by
  rw [List.take_succ_eq_append_getElem hk, List.all_append, h]; simp [hp]
theorem all_at_false {α : Type} {l : List α} {p : α → Bool} {k : Nat} (hk : k < l.length) (hp : p l[k] = false) : l.all p = false := by
  rw [List.all_eq_false]; exact ⟨l[k], List.getElem_mem hk, by simp [hp]⟩
theorem all_done {α : Type} {l : List α} {p : α → Bool} {k : Nat} (hk : ¬ k < l.length) (h : (l.take k).all p = true) : l.all p = true := by
  rwa [List.take_of_length_le (by omega)] at h

theorem bandsGo_cons (b : Band) (r : List Band) (a : Int) : bandsGo (b :: r) a = if a ≤ b.frm ∧ b.frm < b.to ∧ b.to ≤ 1440 then bandsGo r b.to else false := rfl

theorem stGo_range : ∀ (l : List Station) (a b m : Int), 1 ≤ a → a ≤ 9 → stGo l a b = some m → 1 ≤ m ∧ m ≤ 9
  | [], a, b, m, h1, h9, h => by simp only [stGo, Option.some.injEq] at h; omega
  | s :: r, a, b, m, h1, h9, h => by
    simp only [stGo] at h
    split at h
    · rename_i hs
      simp [stOk, inB] at hs
      exact stGo_range r _ _ m (by split <;> omega) (by split <;> omega) h
    · cases h
theorem stations_range {l : List Station} {m : Int} (h : stationsF l = some m) : 1 ≤ m ∧ m ≤ 9 := by
  unfold stationsF at h
  split at h
  · exact stGo_range l 1 0 m (by omega) (by omega) h
  · cases h

/-- where the first one is; -1: nowhere -/
def idxI {α : Type} (l : List α) (p : α → Bool) : Int := match l.findIdx? p with
  | some i => i
  | none => -1
theorem idxI_at {α : Type} {l : List α} {p : α → Bool} {k : Nat} (hk : k < l.length) (h : (l.take k).all (fun x => !p x) = true) (hp : p l[k] = true) : idxI l p = k := by
  have e : l.findIdx? p = some k := by
    rw [List.findIdx?_eq_some_iff_getElem]
    refine ⟨hk, hp, fun j hj => ?_⟩
    rw [List.all_eq_true] at h
    have := h (l[j]) (by rw [List.mem_take_iff_getElem]; exact ⟨j, by omega, rfl⟩)
    simpa using this
  unfold idxI; rw [e]
theorem idxI_none {α : Type} {l : List α} {p : α → Bool} {k : Nat} (hk : ¬ k < l.length) (h : (l.take k).all (fun x => !p x) = true) : idxI l p = -1 := by
  rw [List.take_of_length_le (by omega), List.all_eq_true] at h
  have e : l.findIdx? p = none := by rw [List.findIdx?_eq_none_iff]; intro x hx; simpa using h x hx
  unfold idxI; rw [e]
theorem idxI_cases {α : Type} (l : List α) (p : α → Bool) : (∃ (i : Nat) (h : i < l.length), idxI l p = i ∧ l.find? p = some l[i]) ∨ (idxI l p = -1 ∧ l.find? p = none) := by
  unfold idxI
  cases e : l.findIdx? p with
  | none => right; rw [List.findIdx?_eq_none_iff] at e; exact ⟨rfl, List.find?_eq_none.2 (fun x hx => by simp [e x hx])⟩
  | some i =>
    left
    rw [List.findIdx?_eq_some_iff_getElem] at e
    obtain ⟨hi, hp, hj⟩ := e
    refine ⟨i, hi, rfl, ?_⟩
    rw [List.find?_eq_some_iff_getElem]
    exact ⟨hp, i, hi, rfl, fun j hj' => by simpa using hj j hj'⟩

def mn (a b : Int) : Int := if a < b then a else b
def mx (a b : Int) : Int := if a < b then b else a
def stFind (l : List Station) (id : Int) : Option Station := l.find? (fun s => s.id == id)
def spFind (l : List Span) (a b : Int) : Option Span := l.find? (fun s => s.frm == mn a b && s.to == mx a b)

/-- the document's example -/
def plainT : Tariff :=
  { st := [⟨1, 1, 0⟩, ⟨2, 2, 7⟩], sp := [⟨1, 1, 200, 500, 2000⟩, ⟨1, 2, 300, 700, 2800⟩, ⟨2, 2, 150, 500, 2000⟩], pk := [], off := 4602678819172646912,
    bus := 0, busDaily := 0, busWeekly := 0, hopper := 0, most := 0, longest := 120, change := 0, passback := 0, delay := 0, threshold := 0 }

end Go.Proofs.Ytmeogadkbbeglaa
