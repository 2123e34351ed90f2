/- Lists in memory that the call itself makes. -/
import Derived.Test.YtmeogadkbbeglaaBase
import Derived.Laws.AppendOwn
namespace Go.Proofs.Ytmeogadkbbeglaa
open Go.RowKit

theorem flat_get {α : Type} (vals : α → List Value) (sz : Nat) (hs : ∀ x, (vals x).length = sz) : ∀ (xs : List α) (i : Nat) (x : α), xs[i]? = some x → ∀ j v, (vals x)[j]? = some v → (xs.flatMap vals)[i * sz + j]? = some v
  | [], i, x, h, _, _, _ => by simp at h
  | y :: ys, 0, x, h, j, v, hj => by
    simp at h
    subst h
    have hl : j < (vals y).length := by
      rcases Nat.lt_or_ge j (vals y).length with h | h
      · exact h
      · rw [List.getElem?_eq_none h] at hj; cases hj
    rw [List.flatMap_cons, Nat.zero_mul, Nat.zero_add, List.getElem?_append_left hl, hj]
  | y :: ys, i + 1, x, h, j, v, hj => by
    rw [List.getElem?_cons_succ] at h
    have := flat_get vals sz hs ys i x h j v hj
    rw [List.flatMap_cons, List.getElem?_append_right (by rw [hs, Nat.succ_mul]; omega), hs]
    rw [show (i + 1) * sz + j - sz = i * sz + j from by rw [Nat.succ_mul]; omega]
    exact this

/-- A block that holds just a list's elements, one behind another. -/
theorem sliceAt_box {α : Type} {w : World} {b : Nat} {cs : Array Value} {T : TypeId} {sz : Nat} {vals : α → List Value} {xs : List α} (hX : Box w b cs T) (hs : ∀ x, (vals x).length = sz) (hl : xs.length ≤ 140737488351232) (hc : ∀ (k : Nat) (v : Value), (xs.flatMap vals)[k]? = some v → cs[k]? = some v) : SliceAt w sz vals (some ⟨b, 0, none⟩) xs :=
  ⟨hl, fun i x hx => ⟨b, 0, rfl, fun j v hv => by
    rw [hX.cell, Nat.zero_add]
    exact hc _ _ (flat_get vals sz hs xs i x hx j v hv)⟩⟩

theorem sliceAt_nil {α : Type} (w : World) (sz : Nat) (vals : α → List Value) (A : Option Addr) : SliceAt w sz vals A ([] : List α) :=
  ⟨by simp, fun i x hx => by simp at hx⟩

end Go.Proofs.Ytmeogadkbbeglaa
