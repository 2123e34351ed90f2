/- A region that draws, makes a struct variable and fills it: by what each operation yields; where a slice is laid, where the variable lies is told by the invariant. -/
import Derived.Test.YtmeogadkbbeglaaH4
namespace Go.Proofs.Ytmeogadkbbeglaa
open Go.RowKit Go.Rg

/-- What a region does: the values that are known (V), the slice that is laid (sl), the variable that is made (al) and filled (st). -/
structure StP where
  w0 : World
  V : Nat → Option Value
  sl : Nat
  scs : Array Value
  sT : TypeId
  sn : Nat
  al : Nat
  st : Nat
  z : Array Value
  fin : Array Value
  aT : TypeId
  D : List Nat
structure StI (p : StP) (S : Nat → Option Value) (w : World) : Prop where
  beh : Below p.w0.heap.size p.w0 w
  val : ∀ i v u, p.V i = some v → S i = some u → u = v
  sli : ∀ u, S p.sl = some u → ∃ g, u = .slice (some ⟨g, 0, none⟩) p.sn p.sn ∧ (S p.st = none → Box w g p.scs p.sT)
  all : ∀ u, S p.al = some u → ∃ b, u = .pointer (some ⟨b, 0, none⟩) ∧ p.w0.heap.size ≤ b ∧ (S p.st = none → Box w b p.z p.aT) ∧ (S p.st ≠ none → Box w b p.fin p.aT)
  late : S p.st ≠ none → ∀ i ∈ p.D, S i ≠ none
section
variable {p : StP} {S : Nat → Option Value} {w : World}
theorem StI.start (p : StP) : StI p (fun _ => none) p.w0.drew :=
  ⟨bDrew (Below.refl _ _), fun i v u h k => (by cases k), fun u k => (by cases k), fun u k => (by cases k), fun k => absurd rfl k⟩
theorem StI.early (h : StI p S w) {i : Nat} (hi : i ∈ p.D) (hS : S i = none) : S p.st = none := Decidable.byContradiction fun k => h.late k i hi hS
theorem StI.quiet (h : StI p S w) {i : Nat} {v : Value} (hS : S i = none) (hV : p.V i = some v) (n1 : p.sl ≠ i) (n2 : p.al ≠ i) (n3 : p.st ≠ i) : StI p (upd S i v) w := by
  refine ⟨h.beh, fun k x u hk hu => ?_, fun u hu => ?_, fun u hu => ?_, fun hk k hD => ?_⟩
  · by_cases e : k = i
    · subst e
      rw [upd_same] at hu
      cases hu
      rw [hV] at hk
      cases hk
      rfl
    · rw [upd_ne S v e] at hu; exact h.val k x u hk hu
  · rw [upd_ne S v n1] at hu; rw [upd_ne S v n3]; exact h.sli u hu
  · rw [upd_ne S v n2] at hu; rw [upd_ne S v n3]; exact h.all u hu
  · rw [upd_ne S v n3] at hk
    by_cases e : k = i
    · subst e; rw [upd_same]; simp
    · rw [upd_ne S v e]; exact h.late hk k hD
theorem StI.move (h : StI p S w) (hs : S p.st = none) {w' : World} (hb : Below w.heap.size w w') : StI p S w' :=
  ⟨bThen h.beh hb, h.val, fun u hu => let ⟨g, e, k⟩ := h.sli u hu; ⟨g, e, fun hn => (k hn).below' hb⟩, fun u hu => let ⟨b, e, hb1, k, _⟩ := h.all u hu; ⟨b, e, hb1, fun hn => (k hn).below' hb, fun hn => absurd hs hn⟩, h.late⟩
theorem StI.call (h : StI p S w) {i : Nat} {v : Value} (hS : S i = none) (hD : i ∈ p.D) (hV : p.V i = some v) (n1 : p.sl ≠ i) (n2 : p.al ≠ i) (n3 : p.st ≠ i) {w' : World} (hb : Below w.heap.size w w') : StI p (upd S i v) w' :=
  (h.move (h.early hD hS) hb).quiet hS hV n1 n2 n3
theorem StI.slice (h : StI p S w) (hS : S p.sl = none) (hD : p.sl ∈ p.D) (hV : p.V p.sl = none) (n2 : p.al ≠ p.sl) (n3 : p.st ≠ p.sl) : StI p (upd S p.sl (.slice (some ⟨w.heap.size, 0, none⟩) p.sn p.sn)) (w.alloc (.cells p.scs p.sT (0, 0))) := by
  have hs := h.early hD hS
  have hm := h.move hs (bAlloc (Below.refl w.heap.size w) (.cells p.scs p.sT (0, 0)))
  refine ⟨hm.beh, fun k x u hk hu => ?_, fun u hu => ?_, fun u hu => ?_, fun hk k hD => ?_⟩
  · by_cases e : k = p.sl
    · subst e; rw [hV] at hk; cases hk
    · rw [upd_ne S _ e] at hu; exact h.val k x u hk hu
  · rw [upd_same] at hu
    cases hu
    exact ⟨w.heap.size, rfl, fun _ => Box.new _ _ _⟩
  · rw [upd_ne S _ n2] at hu; rw [upd_ne S _ n3]; exact hm.all u hu
  · rw [upd_ne S _ n3] at hk; exact absurd hs hk
theorem StI.alloc (h : StI p S w) (hS : S p.al = none) (hD : p.al ∈ p.D) (hV : p.V p.al = none) (n1 : p.sl ≠ p.al) (n3 : p.st ≠ p.al) : StI p (upd S p.al (.pointer (some ⟨w.heap.size, 0, none⟩))) (w.alloc (.cells p.z p.aT (0, 0))) := by
  have hs := h.early hD hS
  have hm := h.move hs (bAlloc (Below.refl w.heap.size w) (.cells p.z p.aT (0, 0)))
  refine ⟨hm.beh, fun k x u hk hu => ?_, fun u hu => ?_, fun u hu => ?_, fun hk k hD => ?_⟩
  · by_cases e : k = p.al
    · subst e; rw [hV] at hk; cases hk
    · rw [upd_ne S _ e] at hu; exact h.val k x u hk hu
  · rw [upd_ne S _ n1] at hu; rw [upd_ne S _ n3]; exact hm.sli u hu
  · rw [upd_same] at hu
    cases hu
    exact ⟨w.heap.size, rfl, h.beh.size, fun _ => Box.new _ _ _, fun hn => by rw [upd_ne S _ n3] at hn; exact absurd hs hn⟩
  · rw [upd_ne S _ n3] at hk; exact absurd hs hk
theorem StI.store (h : StI p S w) (hall : ∀ i ∈ p.D, S i ≠ none) (hV : p.V p.st = none) (n1 : p.sl ≠ p.st) (n2 : p.al ≠ p.st) {b : Nat} (ha : S p.al = some (.pointer (some ⟨b, 0, none⟩))) {w' : World} (hb : Box w' b p.fin p.aT) (hB : Below p.w0.heap.size p.w0 w') (v : Value) : StI p (upd S p.st v) w' := by
  refine ⟨hB, fun k x u hk hu => ?_, fun u hu => ?_, fun u hu => ?_, fun hk k hD => ?_⟩
  · by_cases e : k = p.st
    · subst e; rw [hV] at hk; cases hk
    · rw [upd_ne S _ e] at hu; exact h.val k x u hk hu
  · rw [upd_ne S _ n1] at hu
    obtain ⟨g, e, -⟩ := h.sli u hu
    exact ⟨g, e, fun hn => by rw [upd_same] at hn; cases hn⟩
  · rw [upd_ne S _ n2, ha] at hu
    cases hu
    obtain ⟨b', e, hge, -⟩ := h.all _ ha
    cases e
    exact ⟨b, rfl, hge, fun hn => (by rw [upd_same] at hn; cases hn), fun _ => hb⟩
  · by_cases e : k = p.st
    · subst e; rw [upd_same]; simp
    · rw [upd_ne S _ e]; exact hall k hD
theorem StI.done (h : StI p S w) {u : Value} (hs : S p.st ≠ none) (ha : S p.al = some u) : ∃ b, u = .pointer (some ⟨b, 0, none⟩) ∧ p.w0.heap.size ≤ b ∧ Box w b p.fin p.aT :=
  let ⟨b, e, hge, _, k⟩ := h.all u ha
  ⟨b, e, hge, k hs⟩
end
end Go.Proofs.Ytmeogadkbbeglaa
