/- The row of the law CapsHold: its arguments are opened, the walk is called, what it leaves is read again. -/
import Derived.Test.YtmeogadkbbeglaaRows
import Derived.Test.YtmeogadkbbeglaaFacts
import Derived.WalkKit
import Derived.ProofKit
import Derived.OpenShut
import Derived.ShutString
import Derived.ChangeOld
import Derived.Below
import Derived.Carry
import Derived.SizedLaws
import Derived.Lib.SmallJoins
import Derived.Laws.Cover2
import Derived.Test.YtmeogadkbbeglaaK12
namespace Go.Proofs.Ytmeogadkbbeglaa.capsHold
open Go.ChangeShapes Go.WideShapes Go.ChangeAt Go.RowKit
set_option linter.unusedVariables false
theorem own : ownKnob Try.prog.godebug = none := by kernel_rfl
theorem laidOut : laidOutB Try.prog = true := fact_laid
set_option maxRecDepth 100000 in
theorem lifted (os : Os) (started : os.Started) (H : Type) (enc : TypeId × Value → H) :
    ReturnsInHanded {} Try.checked os 12 .any (Rows.capsHoldSpec.pre6 enc Try.prog Try.f12 Rows.capsHoldRow.domain false) (Rows.capsHoldSpec.post enc Try.prog Try.f12 false true false false) := by
  refine returnsInHanded_of_change_sized (C := Try.checked) own started (by kernel_rfl) Try.func12
    (ChangeSpec.witness6 (enc := enc) (C := Try.checked) false ⟨#[], #[.agg #[.slice none 0 0, .slice none 0 0, .slice none 0 0, .float .f64 0, .int .i64 0, .int .i64 0, .int .i64 0, .int .i64 0, .int .i64 0, .int .i64 0, .int .i64 0, .int .i64 0, .int .i64 0, .int .i64 0], .int .i64 0, .slice none 0 0], []⟩ 8 (by kernel_rfl) (by kernel_rfl) (by kernel_rfl) (by kernel_rfl)) ?_
  intro W base args ds gs before hval0 hW hcnd hsz0 _
  have hsz : (DataW.weightsEach Try.prog (Try.f12.params.toList ++ Rows.capsHoldSpec.plain.varTypes Try.prog) (ds ++ gs)).all (· ≤ reachBytes) = true := hsz0
  have hval : ∀ (j : Nat) t v, Try.f12.params[j]? = some t → args[j]? = some v → Value.okWide Try.prog W .any base t v := hval0
  have hW' := hW
  obtain ⟨p, q, hA0, hV, rfl, hfz, hnd⟩ := hW
  have hA : DataW.TrodAll enc Try.prog W 0 (fun _ => true) true Try.f12.params.toList args.toList ds p := hA0
  rw [Try.params12] at hA hval hsz
  obtain ⟨v0, vs0, d0, ds0, p0, q0, hargs, rfl, rfl, h0, r0⟩ := trodAll_cons hA
  obtain ⟨v1, vs1, d1, ds1, p1, q1, rfl, rfl, rfl, h1, r1⟩ := trodAll_cons r0
  obtain ⟨v2, vs2, d2, ds2, p2, q2, rfl, rfl, rfl, h2, r2⟩ := trodAll_cons r1
  obtain ⟨rfl, rfl, rfl⟩ := trodAll_nil r2
  obtain rfl : args = #[v0, v1, v2] := by cases args; simp_all
  obtain ⟨rfl, rfl⟩ := trodVars_none hV
  have k0 := h0
  have lt0 : ∀ x ∈ p0, x.block < W.heap.size := by obtain ⟨m, hm⟩ := k0; exact DataW.trod_lt m _ _ _ hm
  have k1 := h1
  have lt1 : ∀ x ∈ p1, x.block < W.heap.size := by obtain ⟨m, hm⟩ := k1; exact DataW.trod_lt m _ _ _ hm
  have k2 := h2
  have lt2 : ∀ x ∈ p2, x.block < W.heap.size := by obtain ⟨m, hm⟩ := k2; exact DataW.trod_lt m _ _ _ hm
  have y0 := weights_field hsz 0 27 d0 rfl rfl
  obtain ⟨t0, m0, rfl, I0⟩ : ∃ t m, v0 = .agg (Tariff.cells t m) ∧ t.In W m := by
    obtain ⟨cs, rfl, -⟩ := okWide_struct Try.underlying27 (hval 0 27 v0 rfl rfl)
    obtain ⟨fuel, hf⟩ := h0
    obtain ⟨t, m, hc, hI⟩ := open_Tariff (x := (d0, p0)) y0 hf
    exact ⟨t, m, by rw [show cs = t.cells m from Array.ext' (by simpa [Value.cells] using hc)], hI⟩
  obtain ⟨a1, rfl, e1, -, w1⟩ := open_int Try.underlying3 (hval 1 3 v1 rfl rfl) h1
  have y2 := weights_field hsz 2 64 d2 rfl rfl
  obtain ⟨A2, l2, c2, rfl, n2, S2, F2⟩ : ∃ (A : Option Addr) (l : List PRow) (c : Nat), v2 = .slice A l.length c ∧ l.length ≤ c ∧ SliceAt W 1 PRow.vals A l ∧ (∀ a ∈ l, a.In W) := by
    obtain ⟨a, len, cap, rfl⟩ := okWide_slice Try.underlying64 (hval 2 64 v2 rfl rfl)
    obtain ⟨fuel, hf⟩ := h2
    obtain ⟨A, l, c, e, n1, -, n2, n3, n4⟩ := slice_open2 (vals := PRow.vals) (wf := PRow.In W) Try.underlying64 (show Try.prog.cellsOf 53 = 1 by kernel_rfl) (by decide) (fun _ ↦ rfl) (fun _ _ _ hww hh ↦ open_PRow hww hh) y2 (by rw [show Try.prog.bytesOf 53 = 24 by kernel_rfl]; decide) hf
    simp only [Value.cells, List.cons.injEq, and_true] at e
    exact ⟨A, l, c, e, n1, n2, n4⟩
  clear hA0 hval0 hsz0 hsz
  refine (capshold_calls t0 m0 a1 l2 A2 c2 W I0.at_ ⟨I0.k1, I0.k2, I0.k3⟩ S2 n2 F2).mono fun e W' ⟨he, bel⟩ => ?_
  subst he
  exact ⟨_, rfl, _, _, _, [], _, [], hW', trodAll_mk1 (shut_bool Try.underlying4 _), (trodAll_cons_mk (Below.trod laidOut (by kernel_rfl) (of_decide_eq_true (by kernel_rfl)) k0 bel lt0) (trodAll_cons_mk (Below.trod laidOut (by kernel_rfl) (of_decide_eq_true (by kernel_rfl)) k1 bel lt1) (trodAll_cons_mk (Below.trod laidOut (by kernel_rfl) (of_decide_eq_true (by kernel_rfl)) k2 bel lt2) trodAll_mk0))), rfl, bel.frame _, fun h => by cases h⟩
set_option maxHeartbeats 4000000 in
theorem closed : joinedFacts Try.prog 12 Try.f12 Rows.capsHoldSpec Rows.capsHoldRow = true := by
  exact joined_of _ _ _ _ _ (by as_aux_lemma => kernel_rfl) fact_laid fact_maps (by as_aux_lemma => kernel_rfl) (by as_aux_lemma => kernel_rfl) (by as_aux_lemma => kernel_rfl) (by as_aux_lemma => kernel_rfl) (by as_aux_lemma => kernel_rfl) (by as_aux_lemma => kernel_rfl) (by as_aux_lemma => kernel_rfl) (by as_aux_lemma => kernel_rfl) (by as_aux_lemma => kernel_rfl) (by as_aux_lemma => kernel_rfl) (by as_aux_lemma => kernel_rfl) (by as_aux_lemma => kernel_rfl) (by as_aux_lemma => kernel_rfl) (by as_aux_lemma => kernel_rfl) (by as_aux_lemma => kernel_rfl) (by as_aux_lemma => kernel_rfl) (by as_aux_lemma => kernel_rfl) (by as_aux_lemma => kernel_rfl) (by as_aux_lemma => kernel_rfl) (beq_r fact_keys (by as_aux_lemma => kernel_rfl)) (by as_aux_lemma => kernel_rfl) fact_heard mayEnter_is (beq_r lifts_is (by as_aux_lemma => kernel_rfl)) (beq_l make_is (by as_aux_lemma => kernel_rfl)) (by as_aux_lemma => kernel_rfl) (by as_aux_lemma => kernel_rfl) (by as_aux_lemma => kernel_rfl) (by as_aux_lemma => kernel_rfl)
set_option maxHeartbeats 2000000 in
theorem over : Rows.capsHoldRow.holds Try.pinned (OpenSpec.ofChange Rows.capsHoldSpec) :=
  OpenClaim.holds_of_wide 12 Try.f12 rfl rfl rfl rfl rfl rfl rfl ⟨rfl, rfl, rfl, rfl, rfl⟩ rfl rfl rfl rfl rfl (by kernel_rfl) Try.func12 closed
    (of_decide_eq_true (by kernel_rfl)) (by unfold Func.isWrapper; first | (rw [if_pos (by decide +kernel)]; kernel_rfl) | (rw [if_neg (by decide +kernel)]; exact ⟨rfl, rfl⟩))
    (fun os started H enc _ => lifted os started H enc)
theorem proved : Rows.CapsHoldSaid := over
end Go.Proofs.Ytmeogadkbbeglaa.capsHold
namespace Go.Proofs.Ytmeogadkbbeglaa
/-- The row, under a short name, for the claim. -/
theorem capsHold_holds : Rows.CapsHoldSaid := capsHold.proved
end Go.Proofs.Ytmeogadkbbeglaa
