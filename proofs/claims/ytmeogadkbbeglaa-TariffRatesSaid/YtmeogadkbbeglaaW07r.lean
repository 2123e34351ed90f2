/- The walk of tariff.Right: its deferred closure, its body. -/
import Derived.Test.YtmeogadkbbeglaaW05
namespace Go.Proofs.Ytmeogadkbbeglaa
open Go.RowKit
set_option maxHeartbeats 400000

theorem neq_nil (T : TypeId) (v : Value) (W : World) : (binOp .eql 20 (.iface T v) .nilIface).run Try.prog W = .ok (.bool false) W := by
  have h : ∀ d : Nat, (Op.equalIn (d + 1) 20 (.iface T v) .nilIface).run Try.prog W = .ok false W := fun d => by
    simp [Op.equalIn, run_underlying Try.underlying20]
  simp only [binOp]
  simp [Op.equal, Op.maxDepth, h 9999]

theorem tariff_caught (b : Nat) (x e : Int) (older : List PanicEntry) (w : World) (hX : Box w b #[.int .i64 x] 30) :
    CallsD Try.prog 71 #[.pointer (some ⟨b, 0, none⟩)] (.panicking ({ v := .iface 107 (.agg #[.int .i64 e]), recovered := false } :: older)) w fun en u' w' =>
      en = .returned (.tuple #[]) ∧ u' = .panicking ({ v := .iface 107 (.agg #[.int .i64 e]), recovered := true } :: older) ∧ Box w' b #[.int .i64 e] 30 ∧ Below b w w' := by
  have hlt := hX.lt
  have x0 := hX.cell 0
  have y0 := hX.free 0
  simp at x0
  have hta : ∀ (v : Value) (W : World), (Instr.typeAssert (.iface 107 v) 20 107 true).run Try.prog W = .ok (.tuple #[v, .bool true]) W := fun v W => by simp [Instr.typeAssert, go_sem, run_underlying Try.underlying107]
  have hne : ∀ (v : Value) (W : World), (binOp .eql 20 (.iface 107 v) .nilIface).run Try.prog W = .ok (.bool false) W := fun v W => neq_nil _ _ _
  refine callsD_of_wpS Try.func71 rfl fun c₀ cs hu => ?_
  apply wpS_seq
  apply wpS_region
  simp [wpOpsS, go_sem, recoverD, hu, Try.ntmps71, Exit.thenS]
  refine wpS_of_wp ?_
  generalize hQ : (fun e a' w' => bodyPostS _ _ _ _ _ e a' _ w') = Q
  have HQ := Lib.hid hQ
  clear hQ hu
  rw [show #[Value.pointer (some { block := b, off := 0 })] ++ (Array.replicate 11 undef).setIfInBounds 3 (Value.iface 107 (Value.agg #[Value.int IntKind.i64 e])) = #[Value.pointer (some { block := b, off := 0 }), undef, undef, undef, Value.iface 107 (Value.agg #[Value.int IntKind.i64 e]), undef, undef, undef, undef, undef, undef, undef] from rfl]
  go_wp2_with fail
  rw [← HQ.out]
  simp [bodyPostS, results, Try.results71]
  exact ⟨((hX.set 0 _).alloc _).cast (by simp), ((Below.refl b w).setCell (Nat.le_refl _) _).alloc (by simp [World.setCell]; omega) _⟩

theorem tariff_idle (p : Addr) (w : World) :
    CallsD Try.prog 71 #[.pointer (some p)] .returning w fun en u' w' => en = .returned (.tuple #[]) ∧ u' = .returning ∧ w = w' := by
  refine callsD_of_wpS Try.func71 rfl fun c₀ cs hu => ?_
  apply wpS_seq
  apply wpS_region
  simp [wpOpsS, go_sem, recoverD, hu, Try.ntmps71, Exit.thenS]
  refine wpS_of_wp ?_
  go_wp2
  cases c₀
  simp_all [bodyPostS, results, Try.results71]

/-- THE DOOR: a body of Right that breaks off. -/
theorem right_door {w : World} {t : Tariff} {W : World} {e : Int} {b : Nat} (tm : Array Value) (hX : Box W b #[.int .i64 0] 30) (hb : w.heap.size ≤ b) (hB : Below w.heap.size w W) (he : e = rightF t) (ht : tm[2]? = some (.pointer (some ⟨b, 0, none⟩))) :
    bodyPostD Try.prog Try.f28 (fun en w' => en = .returned (.int .i64 (rightF t)) ∧ Below w.heap.size w w') (.panic [{ v := .iface 107 (.agg #[.int .i64 e]), recovered := false }])
      { tmps := tm, defers := [{ target := .fn (.func 71) #[.pointer (some ⟨b, 0, none⟩)], args := #[] }] } W := by
  subst he
  refine leaves_cons (f := 71) (args := #[.pointer (some ⟨b, 0, none⟩)]) (by simp) (by simp [go_sem]) ?_
  refine (tariff_caught b 0 (rightF t) [] W hX).mono ?_
  rintro en u' w'' ⟨rfl, rfl, hX', hB'⟩
  have x0 := hX'.cell 0
  simp at x0
  simp [Leaves, settle, results, Try.results28, go_sem, ht, x0]
  exact hB.trans (hB'.mono hb)

theorem right_done {w : World} {t : Tariff} {W : World} {b : Nat} (tm : Array Value) (hX : Box W b #[.int .i64 0] 30) (hB : Below w.heap.size w W) (he : 0 = rightF t) (ht : tm[2]? = some (.pointer (some ⟨b, 0, none⟩))) :
    bodyPostD Try.prog Try.f28 (fun en w' => en = .returned (.int .i64 (rightF t)) ∧ Below w.heap.size w w') .ret
      { tmps := tm, defers := [{ target := .fn (.func 71) #[.pointer (some ⟨b, 0, none⟩)], args := #[] }] } W := by
  rw [← he]
  refine leaves_cons (f := 71) (args := #[.pointer (some ⟨b, 0, none⟩)]) (by simp) (by simp [go_sem]) ?_
  refine (tariff_idle ⟨b, 0, none⟩ W).mono ?_
  rintro en u' w'' ⟨rfl, rfl, rfl⟩
  have x0 := hX.cell 0
  simp at x0
  simp [Leaves, settle, results, Try.results28, go_sem, ht, x0]
  exact hB

end Go.Proofs.Ytmeogadkbbeglaa
