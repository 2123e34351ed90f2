/- The walk of tariff.Right's body. -/
import Derived.Test.YtmeogadkbbeglaaW07r
import Derived.Test.YtmeogadkbbeglaaCalm
import Derived.Deep.RegionWith
import Derived.Deep.RegionHeld3
namespace Go.Proofs.Ytmeogadkbbeglaa
open Go.RowKit
set_option maxHeartbeats 2000000
set_option maxRecDepth 100000

/-- What Right's door makes of a panic, whatever the frame. -/
def RightG (t : Tariff) (w : World) (c : List PanicEntry) (W : World) : Prop :=
  c = [{ v := .iface 107 (.agg #[.int .i64 (rightF t)]), recovered := false }] ∧ Box W (w.heap.size + 1) #[.int .i64 0] 30 ∧ Below w.heap.size w W

theorem right_none (t : Tariff) (m : TMem) (w : World) (h : t.At w m) (hst : stationsF t.st = none) :
    Calls Try.prog 28 #[.agg (t.cells m)] w fun e w' => e = .returned (.int .i64 (rightF t)) ∧ Below w.heap.size w w' := by
  have hmf : ∀ (fn : Fn) (first cap : Array Value) (w : World), (Instr.makeFunc fn first cap).run Try.prog w = .ok (.func fn first cap) w := fun _ _ _ _ => rfl
  have HB := Below.refl w.heap.size w
  have HX : Box ((w.alloc (.cells (t.cells m) 27)).alloc (.cells #[.int .i64 0] 30)) (w.heap.size + 1) #[.int .i64 0] 30 := Box.new' (by simp) _ _
  have HT : Box ((w.alloc (.cells (t.cells m) 27)).alloc (.cells #[.int .i64 0] 30)) w.heap.size (t.cells m) 27 := (Box.new _ _ _).alloc _
  have HB1 : Below w.heap.size w ((w.alloc (.cells (t.cells m) 27)).alloc (.cells #[.int .i64 0] 30)) := by (repeat (first | (with_reducible exact HB) | (with_reducible refine bAlloc ?_ _) | (with_reducible refine bDrewN ?_ _) | (with_reducible refine bDrew ?_) | (with_reducible refine bSet ?_ (by first | exact Nat.le_refl _ | (simp; omega) | omega) _) | (with_reducible refine bThen ?_ (by with_reducible assumption))))
  go_enter_defers Try.func28, Try.ntmps28
  go_wp2_with fail
  generalize ((w.alloc (.cells (t.cells m) 27)).alloc (.cells #[.int .i64 0] 30)) = w1 at *
  refine wp_region_slot (S := fun w' => Below w1.heap.size w1 w') 2 (.pointer (some ⟨w.heap.size + 1, 0, none⟩)) (RightG t w) (by kernel_rfl) (by simp) (by rfl) ?_ ?_
  · intro c a' w' hs hdf hg
    obtain ⟨rfl, hX, hB⟩ := hg
    cases a' with
    | mk tm df =>
      simp only at hdf hs
      subst hdf
      exact right_door tm hX (by simp) hB rfl hs
  have t0 := (HT.cell 0)
  have t1 := (HT.cell 1)
  simp only [Tariff.cells] at t0 t1
  refine wpAnyH_take (i := 0) (v := .pointer (some ⟨w.heap.size, 1, none⟩)) rfl (by kernel_rfl) (by kernel_rfl) (by kernel_rfl) (fun _ _ _ h => h) (.inl ⟨by rfl, fun w' hw' => by simp [go_sem]⟩) (bDrew (Below.refl _ _)) ?_
  refine wpAnyH_take (i := 1) (v := .slice m.a2 t.sp.length m.c2) rfl (by kernel_rfl) (by kernel_rfl) (by kernel_rfl) (fun _ _ _ h => h) (.inl ⟨by rfl, fun w' hw' => by simp [go_sem, Go.Proofs.Ytmeogadkbbeglaa.keep hw' t1]⟩) (bDrew (Below.refl _ _)) ?_
  refine wpAnyH_take (i := 2) (v := .pointer (some ⟨w.heap.size, 0, none⟩)) rfl (by kernel_rfl) (by kernel_rfl) (by kernel_rfl) (fun _ _ _ h => h) (.inl ⟨by rfl, fun w' hw' => by simp [go_sem]⟩) (bDrew (Below.refl _ _)) ?_
  refine wpAnyH_take (i := 3) (v := .slice m.a1 t.st.length m.c1) rfl (by kernel_rfl) (by kernel_rfl) (by kernel_rfl) (fun _ _ _ h => h) (.inl ⟨by rfl, fun w' hw' => by simp [go_sem, Go.Proofs.Ytmeogadkbbeglaa.keep hw' t0]⟩) (bDrew (Below.refl _ _)) ?_
  refine wpAnyH_all (rs := [4]) (by kernel_rfl) (by decide) ?_
  intro i hi
  obtain rfl : i = 4 := by simpa using hi
  refine wpOp_step (by rfl) (fun K hK => ?_)
  go_simp
  go_at_call 74
  refine (stations_calls _ _ _ _ (h.st.keep (bDrew HB1))).mono ?_
  rintro e w' ⟨rfl, hb0⟩
  have hb1 : Below w1.heap.size w1 w' := bThen (bDrew (Below.refl _ _)) hb0
  rw [hst]
  exact ⟨rfl, by simp [rightF, hst], HX.below' hb1, bThen HB1 hb1⟩

theorem right_spans (t : Tariff) (m : TMem) (w : World) (h : t.At w m) (most : Int) (hst : stationsF t.st = some most) (h1 : 1 ≤ most) (h9 : most ≤ 9) (hsp : spansF t.sp most = false) :
    Calls Try.prog 28 #[.agg (t.cells m)] w fun e w' => e = .returned (.int .i64 (rightF t)) ∧ Below w.heap.size w w' := by
  have hmf : ∀ (fn : Fn) (first cap : Array Value) (w : World), (Instr.makeFunc fn first cap).run Try.prog w = .ok (.func fn first cap) w := fun _ _ _ _ => rfl
  have HB := Below.refl w.heap.size w
  have HX : Box ((w.alloc (.cells (t.cells m) 27)).alloc (.cells #[.int .i64 0] 30)) (w.heap.size + 1) #[.int .i64 0] 30 := Box.new' (by simp) _ _
  have HT : Box ((w.alloc (.cells (t.cells m) 27)).alloc (.cells #[.int .i64 0] 30)) w.heap.size (t.cells m) 27 := (Box.new _ _ _).alloc _
  have HB1 : Below w.heap.size w ((w.alloc (.cells (t.cells m) 27)).alloc (.cells #[.int .i64 0] 30)) := by (repeat (first | (with_reducible exact HB) | (with_reducible refine bAlloc ?_ _) | (with_reducible refine bDrewN ?_ _) | (with_reducible refine bDrew ?_) | (with_reducible refine bSet ?_ (by first | exact Nat.le_refl _ | (simp; omega) | omega) _) | (with_reducible refine bThen ?_ (by with_reducible assumption))))
  go_enter_defers Try.func28, Try.ntmps28
  go_wp2_with fail
  generalize ((w.alloc (.cells (t.cells m) 27)).alloc (.cells #[.int .i64 0] 30)) = w1 at *
  refine wp_region_slot (S := fun w' => Below w1.heap.size w1 w') 2 (.pointer (some ⟨w.heap.size + 1, 0, none⟩)) (RightG t w) (by kernel_rfl) (by simp) (by rfl) ?_ ?_
  · intro c a' w' hs hdf hg
    obtain ⟨rfl, hX, hB⟩ := hg
    cases a' with
    | mk tm df =>
      simp only at hdf hs
      subst hdf
      exact right_door tm hX (by simp) hB rfl hs
  have t0 := (HT.cell 0)
  have t1 := (HT.cell 1)
  simp only [Tariff.cells] at t0 t1
  refine wpAnyH_take (i := 0) (v := .pointer (some ⟨w.heap.size, 1, none⟩)) rfl (by kernel_rfl) (by kernel_rfl) (by kernel_rfl) (fun _ _ _ h => h) (.inl ⟨by rfl, fun w' hw' => by simp [go_sem]⟩) (bDrew (Below.refl _ _)) ?_
  refine wpAnyH_take (i := 1) (v := .slice m.a2 t.sp.length m.c2) rfl (by kernel_rfl) (by kernel_rfl) (by kernel_rfl) (fun _ _ _ h => h) (.inl ⟨by rfl, fun w' hw' => by simp [go_sem, Go.Proofs.Ytmeogadkbbeglaa.keep hw' t1]⟩) (bDrew (Below.refl _ _)) ?_
  refine wpAnyH_take (i := 2) (v := .pointer (some ⟨w.heap.size, 0, none⟩)) rfl (by kernel_rfl) (by kernel_rfl) (by kernel_rfl) (fun _ _ _ h => h) (.inl ⟨by rfl, fun w' hw' => by simp [go_sem]⟩) (bDrew (Below.refl _ _)) ?_
  refine wpAnyH_take (i := 3) (v := .slice m.a1 t.st.length m.c1) rfl (by kernel_rfl) (by kernel_rfl) (by kernel_rfl) (fun _ _ _ h => h) (.inl ⟨by rfl, fun w' hw' => by simp [go_sem, Go.Proofs.Ytmeogadkbbeglaa.keep hw' t0]⟩) (bDrew (Below.refl _ _)) ?_
  refine wpAnyH_all (rs := [4]) (by kernel_rfl) (by decide) ?_
  intro i hi
  obtain rfl : i = 4 := by simpa using hi
  refine wpOp_step (by rfl) (fun K hK => ?_)
  go_simp
  go_at_call 74
  refine (stations_calls _ _ _ _ (h.st.keep (bDrew HB1))).mono ?_
  rintro e w' ⟨rfl, hb0⟩
  have hb1 : Below w1.heap.size w1 w' := bThen (bDrew (Below.refl _ _)) hb0
  rw [hst]
  refine hK _ _ ⟨hb1, ?_⟩
  refine wpAnyH_all (rs := [5]) (by kernel_rfl) (by decide) ?_
  intro i hi
  obtain rfl : i = 5 := by simpa using hi
  refine wpOp_step (by rfl) (fun K hK => ?_)
  go_simp
  go_at_call 73
  refine (spans_calls _ _ _ _ _ (h.sp.keep (bThen HB1 hb1)) h1 h9).mono ?_
  rintro e w2 ⟨rfl, hb2⟩
  rw [hsp]
  refine hK _ _ ⟨bThen hb1 hb2, ?_⟩
  refine wpAnyH_all (rs := [6]) (by kernel_rfl) (by decide) ?_
  intro i hi
  obtain rfl : i = 6 := by simpa using hi
  refine wpOp_step (by rfl) (fun K hK => ?_)
  go_simp
  refine (must_no false rfl _ _).mono ?_
  rintro e w' ⟨rfl, rfl⟩
  exact ⟨rfl, by simp [rightF, hst, hsp], HX.below' (bThen hb1 hb2), bThen HB1 (bThen hb1 hb2)⟩

end Go.Proofs.Ytmeogadkbbeglaa
