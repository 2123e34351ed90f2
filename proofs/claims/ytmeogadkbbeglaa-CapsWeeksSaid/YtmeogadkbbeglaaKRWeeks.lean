/- The row of the law CapsWeeks: its arguments are opened, the walk is called, what it leaves is read again. -/
import Derived.Test.YtmeogadkbbeglaaRows
import Derived.Test.YtmeogadkbbeglaaFacts
import Derived.WalkKit
import Derived.ProofKit
import Derived.OpenShut
import Derived.ShutString
import Derived.ChangeOld
import Derived.Below
import Derived.Carry
import Derived.SizedLaws
import Derived.Lib.SmallJoins
import Derived.Laws.Cover2
import Derived.Test.YtmeogadkbbeglaaK28
namespace Go.Proofs.Ytmeogadkbbeglaa.capsWeeks
open Go.ChangeShapes Go.WideShapes Go.ChangeAt Go.RowKit
set_option linter.unusedVariables false
theorem own : ownKnob Try.prog.godebug = none := by kernel_rfl
theorem laidOut : laidOutB Try.prog = true := fact_laid
set_option maxRecDepth 100000 in
theorem lifted (os : Os) (started : os.Started) (H : Type) (enc : TypeId × Value → H) :
    ReturnsInHanded {} Try.checked os 11 .any (Rows.capsWeeksSpec.pre6 enc Try.prog Try.f11 Rows.capsWeeksRow.domain false) (Rows.capsWeeksSpec.post enc Try.prog Try.f11 false true false false) := by
  refine returnsInHanded_of_change_sized (C := Try.checked) own started (by kernel_rfl) Try.func11
    (ChangeSpec.witness6 (enc := enc) (C := Try.checked) false ⟨#[], #[.agg #[.slice none 0 0, .slice none 0 0, .slice none 0 0, .float .f64 0, .int .i64 0, .int .i64 0, .int .i64 0, .int .i64 0, .int .i64 0, .int .i64 0, .int .i64 0, .int .i64 0, .int .i64 0, .int .i64 0], .slice none 0 0], []⟩ 8 (by kernel_rfl) (by kernel_rfl) (by kernel_rfl) (by kernel_rfl)) ?_
  intro W base args ds gs before hval0 hW hcnd hsz0 _
  have hsz : (DataW.weightsEach Try.prog (Try.f11.params.toList ++ Rows.capsWeeksSpec.plain.varTypes Try.prog) (ds ++ gs)).all (· ≤ reachBytes) = true := hsz0
  have hval : ∀ (j : Nat) t v, Try.f11.params[j]? = some t → args[j]? = some v → Value.okWide Try.prog W .any base t v := hval0
  have hW' := hW
  obtain ⟨p, q, hA0, hV, rfl, hfz, hnd⟩ := hW
  have hA : DataW.TrodAll enc Try.prog W 0 (fun _ => true) true Try.f11.params.toList args.toList ds p := hA0
  rw [Try.params11] at hA hval hsz
  obtain ⟨v0, vs0, d0, ds0, p0, q0, hargs, rfl, rfl, h0, r0⟩ := trodAll_cons hA
  obtain ⟨v1, vs1, d1, ds1, p1, q1, rfl, rfl, rfl, h1, r1⟩ := trodAll_cons r0
  obtain ⟨rfl, rfl, rfl⟩ := trodAll_nil r1
  obtain rfl : args = #[v0, v1] := by cases args; simp_all
  obtain ⟨rfl, rfl⟩ := trodVars_none hV
  have k0 := h0
  have lt0 : ∀ x ∈ p0, x.block < W.heap.size := by obtain ⟨m, hm⟩ := k0; exact DataW.trod_lt m _ _ _ hm
  have k1 := h1
  have lt1 : ∀ x ∈ p1, x.block < W.heap.size := by obtain ⟨m, hm⟩ := k1; exact DataW.trod_lt m _ _ _ hm
  have y0 := weights_field hsz 0 27 d0 rfl rfl
  obtain ⟨t0, m0, rfl, I0⟩ : ∃ t m, v0 = .agg (Tariff.cells t m) ∧ t.In W m := by
    obtain ⟨cs, rfl, -⟩ := okWide_struct Try.underlying27 (hval 0 27 v0 rfl rfl)
    obtain ⟨fuel, hf⟩ := h0
    obtain ⟨t, m, hc, hI⟩ := open_Tariff (x := (d0, p0)) y0 hf
    exact ⟨t, m, by rw [show cs = t.cells m from Array.ext' (by simpa [Value.cells] using hc)], hI⟩
  have y1 := weights_field hsz 1 61 d1 rfl rfl
  obtain ⟨A1, l1, c1, rfl, n1, S1, B1, F1⟩ : ∃ (A : Option Addr) (l : List DayC) (c : Nat), v1 = .slice A l.length c ∧ l.length ≤ c ∧ SliceAt W 7 DayC.vals A l ∧ l.length * 56 ≤ 140737488351232 ∧ (∀ a ∈ l, DayC.wf a) := by
    obtain ⟨a, len, cap, rfl⟩ := okWide_slice Try.underlying61 (hval 1 61 v1 rfl rfl)
    obtain ⟨fuel, hf⟩ := h1
    obtain ⟨A, l, c, e, n1, -, n2, n3, n4⟩ := slice_open (vals := DayC.vals) (wf := DayC.wf) Try.underlying61 (show Try.prog.cellsOf 57 = 7 by kernel_rfl) (by decide) (fun _ ↦ rfl) (fun _ _ _ hh ↦ open_DayC hh) y1 (by rw [show Try.prog.bytesOf 57 = 56 by kernel_rfl]; decide) hf
    simp only [Value.cells, List.cons.injEq, and_true] at e
    exact ⟨A, l, c, e, n1, n2, by rwa [show Try.prog.bytesOf 57 = 56 by kernel_rfl] at n3, n4⟩
  clear hA0 hval0 hsz0 hsz
  refine (capsweeks_calls t0 m0 l1 A1 c1 W I0.at_ ⟨I0.k1, I0.k2, I0.k3⟩ S1 B1).mono fun e W' ⟨he, bel⟩ => ?_
  subst he
  exact ⟨_, rfl, _, _, _, [], _, [], hW', trodAll_mk1 (shut_bool Try.underlying4 _), (trodAll_cons_mk (Below.trod laidOut (by kernel_rfl) (of_decide_eq_true (by kernel_rfl)) k0 bel lt0) (trodAll_cons_mk (Below.trod laidOut (by kernel_rfl) (of_decide_eq_true (by kernel_rfl)) k1 bel lt1) trodAll_mk0)), rfl, bel.frame _, fun h => by cases h⟩
set_option maxHeartbeats 4000000 in
theorem closed : joinedFacts Try.prog 11 Try.f11 Rows.capsWeeksSpec Rows.capsWeeksRow = true := by
  exact joined_of _ _ _ _ _ (by as_aux_lemma => kernel_rfl) fact_laid fact_maps (by as_aux_lemma => kernel_rfl) (by as_aux_lemma => kernel_rfl) (by as_aux_lemma => kernel_rfl) (by as_aux_lemma => kernel_rfl) (by as_aux_lemma => kernel_rfl) (by as_aux_lemma => kernel_rfl) (by as_aux_lemma => kernel_rfl) (by as_aux_lemma => kernel_rfl) (by as_aux_lemma => kernel_rfl) (by as_aux_lemma => kernel_rfl) (by as_aux_lemma => kernel_rfl) (by as_aux_lemma => kernel_rfl) (by as_aux_lemma => kernel_rfl) (by as_aux_lemma => kernel_rfl) (by as_aux_lemma => kernel_rfl) (by as_aux_lemma => kernel_rfl) (by as_aux_lemma => kernel_rfl) (by as_aux_lemma => kernel_rfl) (by as_aux_lemma => kernel_rfl) (beq_r fact_keys (by as_aux_lemma => kernel_rfl)) (by as_aux_lemma => kernel_rfl) fact_heard mayEnter_is (beq_r lifts_is (by as_aux_lemma => kernel_rfl)) (beq_l make_is (by as_aux_lemma => kernel_rfl)) (by as_aux_lemma => kernel_rfl) (by as_aux_lemma => kernel_rfl) (by as_aux_lemma => kernel_rfl) (by as_aux_lemma => kernel_rfl)
set_option maxHeartbeats 2000000 in
theorem over : Rows.capsWeeksRow.holds Try.pinned (OpenSpec.ofChange Rows.capsWeeksSpec) :=
  OpenClaim.holds_of_wide 11 Try.f11 rfl rfl rfl rfl rfl rfl rfl ⟨rfl, rfl, rfl, rfl, rfl⟩ rfl rfl rfl rfl rfl (by kernel_rfl) Try.func11 closed
    (of_decide_eq_true (by kernel_rfl)) (by unfold Func.isWrapper; first | (rw [if_pos (by decide +kernel)]; kernel_rfl) | (rw [if_neg (by decide +kernel)]; exact ⟨rfl, rfl⟩))
    (fun os started H enc _ => lifted os started H enc)
theorem proved : Rows.CapsWeeksSaid := over
end Go.Proofs.Ytmeogadkbbeglaa.capsWeeks
namespace Go.Proofs.Ytmeogadkbbeglaa
/-- The row, under a short name, for the claim. -/
theorem capsWeeks_holds : Rows.CapsWeeksSaid := capsWeeks.proved
end Go.Proofs.Ytmeogadkbbeglaa
