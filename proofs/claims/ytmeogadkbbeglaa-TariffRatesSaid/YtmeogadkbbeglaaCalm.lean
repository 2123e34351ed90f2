/- A region that draws its order, whose operations read, and whose callees leave all that was there as it was: one walk, in the text's order. -/
import Derived.Test.YtmeogadkbbeglaaBase
import Derived.OrdersHeld
namespace Go
/-- A world that stands behind W: all of W's blocks are as they were. -/
structure Ext (W : World) where
  w : World
  h : Go.RowKit.Below W.heap.size W w
instance (W : World) : Nonempty (Ext W) := ⟨⟨W, Go.RowKit.Below.refl _ _⟩⟩
def World.ext (W : World) (x : Ext W) : World := x.w
theorem World.below_ext (W : World) (x : Ext W) : Go.RowKit.Below W.heap.size W (W.ext x) := x.h
@[go_sem] theorem World.cell_ext (W : World) (x : Ext W) (p : Addr) (h : p.block < W.heap.size) : (W.ext x).cell? p = W.cell? p := x.h.cell h
@[go_sem] theorem World.frozen_ext (W : World) (x : Ext W) (p : Addr) (h : p.block < W.heap.size) : (W.ext x).frozen? p = W.frozen? p := x.h.frozen h
theorem World.size_ext (W : World) (x : Ext W) : W.heap.size ≤ (W.ext x).heap.size := x.h.size

theorem wp_region_calm_lit {P : Program} {id : Nat} {Q : Exit → Act → World → Prop} {a : Act} {w : World} {l : List Oper} (hm : P.follows .mixedOrders = true) (hB : Region.lexB .any l.toArray = true)
    (h : wpQuiet P l.toArray (fun w' => ∃ x : Ext w, w' = w.ext x) (fun a' => ∀ w', (∃ x : Ext w, w' = w.ext x) → Q .normal a' w') l a) : (Code.region id l.toArray true).wp P Q a w :=
  wp_region_quiet (C := fun w' => ∃ x : Ext w, w' = w.ext x) hm hB ⟨⟨_, Go.RowKit.Below.drew (Go.RowKit.Below.refl _ _)⟩, rfl⟩ (by simpa using h)

/-- A callee's contract, met in a world behind w. -/
theorem Calls.calm {P : Program} {f : FuncId} {args : Array Value} {w : World} {x : Ext w} {v : Value}
    (h : Calls P f args (w.ext x) fun e w' => e = .returned v ∧ Go.RowKit.Below (w.ext x).heap.size (w.ext x) w') : Calls P f args (w.ext x) fun e w'' => e = .returned v ∧ ∃ y : Ext w, w'' = w.ext y :=
  h.mono fun _ w'' ⟨he, hb⟩ => ⟨he, ⟨w'', (w.below_ext x).trans (hb.mono (w.size_ext x))⟩, rfl⟩
theorem Calls.calm_same {P : Program} {f : FuncId} {args : Array Value} {w : World} {x : Ext w} {v : Value}
    (h : Calls P f args (w.ext x) fun e w' => e = .returned v ∧ w.ext x = w') : Calls P f args (w.ext x) fun e w'' => e = .returned v ∧ ∃ y : Ext w, w'' = w.ext y :=
  h.mono fun _ _ ⟨he, hb⟩ => ⟨he, x, hb.symm⟩

/-- Q, but what is asked at a panic speaks of the chain, the laid calls and the world alone. -/
def Slotless (Q : Exit → Act → World → Prop) (D : List Deferred) (G : List PanicEntry → World → Prop) : Exit → Act → World → Prop
  | .panic c, a, w => a.defers = D ∧ G c w
  | e, a, w => Q e a w

section
variable {P : Program} {ops : Array Oper} {Q : Exit → Act → World → Prop} {md : Region.Mode} {D : List Deferred} {G : List PanicEntry → World → Prop} {d : Tmp} {x : Value}

theorem put_slot {a : Act} {t : Option Tmp} {v : Value} (h : t ≠ some d) (ha : a.tmps[d]? = some x) : (a.put t v).tmps[d]? = some x := by
  cases t with
  | none => exact ha
  | some s =>
    show (a.tmps.setIfInBounds s v)[d]? = some x
    rw [Array.getElem?_setIfInBounds_ne (fun e => h (by rw [e]))]
    exact ha

theorem letsOut_slotless (h : LetsOut (Slotless Q D G)) : LetsOut Q := h

theorem wpOp_slot (hd : ∀ o, o ∈ ops → o.dst ≠ some d) (hP : ∀ c a w, a.tmps[d]? = some x → a.defers = D → G c w → Q (.panic c) a w) {i : Nat} {K K' : Act → World → Prop} {a : Act} {w : World}
    (hK : ∀ a' w', a'.tmps[d]? = some x → K a' w' → K' a' w') (ha : a.tmps[d]? = some x) (hh : wpOp P ops (Slotless Q D G) i K a w) : wpOp P ops Q i K' a w := by
  unfold wpOp at *
  cases ho : ops[i]? with
  | none => simp only [ho] at hh ⊢; exact hK _ _ ha hh
  | some o =>
    simp only [ho] at hh ⊢
    have hod : o.dst ≠ some d := hd o (by obtain ⟨hl, he⟩ := Array.getElem?_eq_some_iff.1 ho; exact he ▸ Array.getElem_mem hl)
    split at hh
    · rename_i hw
      rw [if_pos hw]
      rcases hh with hh | hh
      · left
        unfold Oper.wp at *
        generalize (execOp a.eval o).run P w = r at *
        cases r with
        | ok n w' =>
          cases n <;> simp only [Oper.upon] at hh ⊢ <;>
            first
              | exact hK _ _ (put_slot hod ha) hh
              | exact Calls.mono hh (fun e w'' he => by cases e <;> first | exact hK _ _ (put_slot hod ha) he | exact hP _ _ _ ha he.1 he.2 | exact he)
              | exact Rows.mono hh (fun _ _ he => hK _ _ (put_slot hod ha) he)
              | exact hh
        | halt y w' => cases y <;> simp only [Oper.upon] at hh ⊢ <;> first | exact hP _ _ _ ha hh.1 hh.2 | exact hh
      · right; exact ⟨hh.1, letsOut_slotless hh.2⟩
    · rename_i hw
      rw [if_neg hw]
      exact hK _ _ (put_slot hod ha) hh

theorem wpAny_slot (hd : ∀ o, o ∈ ops → o.dst ≠ some d) (hP : ∀ c a w, a.tmps[d]? = some x → a.defers = D → G c w → Q (.panic c) a w) : ∀ (fuel : Nat) (listed : Array Bool) (a : Act) (w : World), a.tmps[d]? = some x →
    wpAny P md ops (Slotless Q D G) fuel listed a w → wpAny P md ops Q fuel listed a w
  | 0, _, _, _, _, h => h
  | fuel + 1, _, _, _, ha, h => ⟨h.1, fun i hi => wpOp_slot hd hP (fun a' w' ha' h' => wpAny_slot hd hP fuel _ a' w' ha' h') ha (h.2 i hi)⟩

/-- A region that draws, in a function that defers: what is asked at a panic hangs on one slot alone, which the region does not write. -/
theorem wp_region_slot {id : Nat} {S : World → Prop} {a : Act} {w : World} (d : Tmp) (x : Value) (G : List PanicEntry → World → Prop) (hm : P.follows .mixedOrders = true) (hd : ∀ o, o ∈ ops → o.dst ≠ some d) (ha : a.tmps[d]? = some x)
    (hP : ∀ c a' w', a'.tmps[d]? = some x → a'.defers = a.defers → G c w' → Q (.panic c) a' w')
    (h : wpAnyH P .any ops (Slotless Q a.defers G) S ops.size (Array.replicate ops.size false) a w.drew) : (Code.region id ops true).wp P Q a w :=
  wp_region_any hm (wpAny_slot hd hP _ _ _ _ ha (wpAny_of_held _ _ _ _ h))
end
end Go
