/- The walks of the law's example. -/
import Derived.Test.YtmeogadkbbeglaaW07t
import Derived.Test.YtmeogadkbbeglaaW07c
import Derived.Test.YtmeogadkbbeglaaMem
namespace Go.Proofs.Ytmeogadkbbeglaa
open Go.RowKit
set_option maxHeartbeats 800000

/-- a tariff that was made, or came in -/
def IsT (t : Tariff) (w : World) (e : Ending) (w' : World) : Prop := ∃ m : TMem, e = .returned (.agg (t.cells m)) ∧ t.At w' m ∧ Below w.heap.size w w'

theorem plain_calls (w : World) : Calls Try.prog 70 #[] w (IsT plainT w) := by
  have HB := Below.refl w.heap.size w
  go_enter Try.func70, Try.ntmps70
  go_wp2_with fail
  refine bodyPost_ret (v := .agg (plainT.cells ⟨some ⟨w.heap.size + 1, 0, none⟩, 2, some ⟨w.heap.size + 1 + 1, 0, none⟩, 3, none, 0⟩)) (by simp [results, Try.results70, go_sem]; simp [plainT]) rfl ?_
  refine ⟨_, rfl, ⟨?_, ?_, sliceAt_nil _ _ _ _, by simp [plainT]⟩, by (repeat (first | (with_reducible exact HB) | (with_reducible refine bAlloc ?_ _) | (with_reducible refine bDrewN ?_ _) | (with_reducible refine bDrew ?_) | (with_reducible refine bSet ?_ (by first | exact Nat.le_refl _ | (simp; omega) | omega) _) | (with_reducible refine bThen ?_ (by with_reducible assumption))))⟩
  · exact sliceAt_box ((Box.new' (by simp) _ _).alloc _) (fun _ => rfl) (by simp [plainT]) (fun k v hk => by simpa [plainT, Station.vals] using hk)
  · exact sliceAt_box (Box.new' (by simp) _ _) (fun _ => rfl) (by simp [plainT]) (fun k v hk => by simpa [plainT, Span.vals] using hk)

def plainT0 : Tariff := { plainT with longest := 0 }
theorem plain_right : rightF plainT = 0 := by decide +kernel
theorem plain_right0 : rightF plainT0 = 70 := by decide +kernel
theorem plain_st : stFind plainT.st 2 = some ⟨2, 2, 7⟩ := by decide +kernel
theorem plain_single : singleF plainT 2 1 false = (150, 0) := by decide +kernel

theorem station_some (t : Tariff) (m : TMem) (id : Int) (s : Station) (w : World) (h : t.At w m) (hf : stFind t.st id = some s) :
    Calls Try.prog 31 #[.agg (t.cells m), .int .i64 id] w fun e w' => e = .returned (.tuple #[.agg #[.int .i64 s.id, .int .i64 s.zone, .int .i64 s.grp], .bool true]) ∧ Below w.heap.size w w' := by
  have := station_calls t m id w h
  rw [hf] at this
  exact this
theorem station_none (t : Tariff) (m : TMem) (id : Int) (w : World) (h : t.At w m) (hf : stFind t.st id = none) :
    Calls Try.prog 31 #[.agg (t.cells m), .int .i64 id] w fun e w' => e = .returned (.tuple #[.agg #[.int .i64 0, .int .i64 0, .int .i64 0], .bool false]) ∧ Below w.heap.size w w' := by
  have := station_calls t m id w h
  rw [hf] at this
  exact this

end Go.Proofs.Ytmeogadkbbeglaa
