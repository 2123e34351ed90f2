/- The walk of tariff.Right: its deferred closure, its body. The walk of tariff.Right's body. The walk of tariff.Right's body where the lists are in order. -/
import Derived.Test.YtmeogadkbbeglaaH1
import Derived.Deep.RegionWith
import Derived.Deep.RegionHeld3
namespace Go.Proofs.Ytmeogadkbbeglaa
open Go.RowKit
set_option maxHeartbeats 400000

theorem neq_nil (T : TypeId) (v : Value) (W : World) : (binOp .eql 20 (.iface T v) .nilIface).run Try.prog W = .ok (.bool false) W := by
  have h : ∀ d : Nat, (Op.equalIn (d + 1) 20 (.iface T v) .nilIface).run Try.prog W = .ok false W := fun d => by
    simp [Op.equalIn, run_underlying Try.underlying20]
  simp only [binOp]
  simp [Op.equal, Op.maxDepth, h 9999]

theorem tariff_caught (b : Nat) (x e : Int) (older : List PanicEntry) (w : World) (hX : Box w b #[.int .i64 x] 30) :
    CallsD Try.prog 71 #[.pointer (some ⟨b, 0, none⟩)] (.panicking ({ v := .iface 107 (.agg #[.int .i64 e]), recovered := false } :: older)) w fun en u' w' =>
      en = .returned (.tuple #[]) ∧ u' = .panicking ({ v := .iface 107 (.agg #[.int .i64 e]), recovered := true } :: older) ∧ Box w' b #[.int .i64 e] 30 ∧ Below b w w' := by
  have hlt := hX.lt
  have x0 := hX.cell 0
  have y0 := hX.free 0
  simp at x0
  have hta : ∀ (v : Value) (W : World), (Instr.typeAssert (.iface 107 v) 20 107 true).run Try.prog W = .ok (.tuple #[v, .bool true]) W := fun v W => by simp [Instr.typeAssert, go_sem, run_underlying Try.underlying107]
  have hne : ∀ (v : Value) (W : World), (binOp .eql 20 (.iface 107 v) .nilIface).run Try.prog W = .ok (.bool false) W := fun v W => neq_nil _ _ _
  refine callsD_of_wpS Try.func71 rfl fun c₀ cs hu => ?_
  apply wpS_seq
  apply wpS_region
  simp [wpOpsS, go_sem, recoverD, hu, Try.ntmps71, Exit.thenS]
  refine wpS_of_wp ?_
  generalize hQ : (fun e a' w' => bodyPostS _ _ _ _ _ e a' _ w') = Q
  have HQ := Lib.hid hQ
  clear hQ hu
  rw [show #[Value.pointer (some { block := b, off := 0 })] ++ (Array.replicate 11 undef).setIfInBounds 3 (Value.iface 107 (Value.agg #[Value.int IntKind.i64 e])) = #[Value.pointer (some { block := b, off := 0 }), undef, undef, undef, Value.iface 107 (Value.agg #[Value.int IntKind.i64 e]), undef, undef, undef, undef, undef, undef, undef] from rfl]
  go_wp2_with fail
  rw [← HQ.out]
  simp [bodyPostS, results, Try.results71]
  exact ⟨((hX.set 0 _).alloc _).cast (by simp), ((Below.refl b w).setCell (Nat.le_refl _) _).alloc (by simp [World.setCell]; omega) _⟩

theorem tariff_idle (p : Addr) (w : World) :
    CallsD Try.prog 71 #[.pointer (some p)] .returning w fun en u' w' => en = .returned (.tuple #[]) ∧ u' = .returning ∧ w = w' := by
  refine callsD_of_wpS Try.func71 rfl fun c₀ cs hu => ?_
  apply wpS_seq
  apply wpS_region
  simp [wpOpsS, go_sem, recoverD, hu, Try.ntmps71, Exit.thenS]
  refine wpS_of_wp ?_
  go_wp2
  cases c₀
  simp_all [bodyPostS, results, Try.results71]

/-- THE DOOR: a body of Right that breaks off. -/
theorem right_door {w : World} {t : Tariff} {W : World} {e : Int} {b : Nat} (tm : Array Value) (hX : Box W b #[.int .i64 0] 30) (hb : w.heap.size ≤ b) (hB : Below w.heap.size w W) (he : e = rightF t) (ht : tm[2]? = some (.pointer (some ⟨b, 0, none⟩))) :
    bodyPostD Try.prog Try.f28 (fun en w' => en = .returned (.int .i64 (rightF t)) ∧ Below w.heap.size w w') (.panic [{ v := .iface 107 (.agg #[.int .i64 e]), recovered := false }])
      { tmps := tm, defers := [{ target := .fn (.func 71) #[.pointer (some ⟨b, 0, none⟩)], args := #[] }] } W := by
  subst he
  refine leaves_cons (f := 71) (args := #[.pointer (some ⟨b, 0, none⟩)]) (by simp) (by simp [go_sem]) ?_
  refine (tariff_caught b 0 (rightF t) [] W hX).mono ?_
  rintro en u' w'' ⟨rfl, rfl, hX', hB'⟩
  have x0 := hX'.cell 0
  simp at x0
  simp [Leaves, settle, results, Try.results28, go_sem, ht, x0]
  exact hB.trans (hB'.mono hb)

theorem right_done {w : World} {t : Tariff} {W : World} {b : Nat} (tm : Array Value) (hX : Box W b #[.int .i64 0] 30) (hB : Below w.heap.size w W) (he : 0 = rightF t) (ht : tm[2]? = some (.pointer (some ⟨b, 0, none⟩))) :
    bodyPostD Try.prog Try.f28 (fun en w' => en = .returned (.int .i64 (rightF t)) ∧ Below w.heap.size w w') .ret
      { tmps := tm, defers := [{ target := .fn (.func 71) #[.pointer (some ⟨b, 0, none⟩)], args := #[] }] } W := by
  rw [← he]
  refine leaves_cons (f := 71) (args := #[.pointer (some ⟨b, 0, none⟩)]) (by simp) (by simp [go_sem]) ?_
  refine (tariff_idle ⟨b, 0, none⟩ W).mono ?_
  rintro en u' w'' ⟨rfl, rfl, rfl⟩
  have x0 := hX.cell 0
  simp at x0
  simp [Leaves, settle, results, Try.results28, go_sem, ht, x0]
  exact hB

end Go.Proofs.Ytmeogadkbbeglaa

namespace Go.Proofs.Ytmeogadkbbeglaa
open Go.RowKit
set_option maxHeartbeats 2000000
set_option maxRecDepth 100000

/-- What Right's door makes of a panic, whatever the frame. -/
def RightG (t : Tariff) (w : World) (c : List PanicEntry) (W : World) : Prop :=
  c = [{ v := .iface 107 (.agg #[.int .i64 (rightF t)]), recovered := false }] ∧ Box W (w.heap.size + 1) #[.int .i64 0] 30 ∧ Below w.heap.size w W

theorem right_none (t : Tariff) (m : TMem) (w : World) (h : t.At w m) (hst : stationsF t.st = none) :
    Calls Try.prog 28 #[.agg (t.cells m)] w fun e w' => e = .returned (.int .i64 (rightF t)) ∧ Below w.heap.size w w' := by
  have hmf : ∀ (fn : Fn) (first cap : Array Value) (w : World), (Instr.makeFunc fn first cap).run Try.prog w = .ok (.func fn first cap) w := fun _ _ _ _ => rfl
  have HB := Below.refl w.heap.size w
  have HX : Box ((w.alloc (.cells (t.cells m) 27)).alloc (.cells #[.int .i64 0] 30)) (w.heap.size + 1) #[.int .i64 0] 30 := Box.new' (by simp) _ _
  have HT : Box ((w.alloc (.cells (t.cells m) 27)).alloc (.cells #[.int .i64 0] 30)) w.heap.size (t.cells m) 27 := (Box.new _ _ _).alloc _
  have HB1 : Below w.heap.size w ((w.alloc (.cells (t.cells m) 27)).alloc (.cells #[.int .i64 0] 30)) := by (repeat (first | (with_reducible exact HB) | (with_reducible refine bAlloc ?_ _) | (with_reducible refine bDrewN ?_ _) | (with_reducible refine bDrew ?_) | (with_reducible refine bSet ?_ (by first | exact Nat.le_refl _ | (simp; omega) | omega) _) | (with_reducible refine bThen ?_ (by with_reducible assumption))))
  go_enter_defers Try.func28, Try.ntmps28
  go_wp2_with fail
  generalize ((w.alloc (.cells (t.cells m) 27)).alloc (.cells #[.int .i64 0] 30)) = w1 at *
  refine wp_region_slot (S := fun w' => Below w1.heap.size w1 w') 2 (.pointer (some ⟨w.heap.size + 1, 0, none⟩)) (RightG t w) (by kernel_rfl) (by simp) (by rfl) ?_ ?_
  · intro c a' w' hs hdf hg
    obtain ⟨rfl, hX, hB⟩ := hg
    cases a' with
    | mk tm df =>
      simp only at hdf hs
      subst hdf
      exact right_door tm hX (by simp) hB rfl hs
  have t0 := (HT.cell 0)
  have t1 := (HT.cell 1)
  simp only [Tariff.cells] at t0 t1
  refine wpAnyH_take (i := 0) (v := .pointer (some ⟨w.heap.size, 1, none⟩)) rfl (by kernel_rfl) (by kernel_rfl) (by kernel_rfl) (fun _ _ _ h => h) (.inl ⟨by rfl, fun w' hw' => by simp [go_sem]⟩) (bDrew (Below.refl _ _)) ?_
  refine wpAnyH_take (i := 1) (v := .slice m.a2 t.sp.length m.c2) rfl (by kernel_rfl) (by kernel_rfl) (by kernel_rfl) (fun _ _ _ h => h) (.inl ⟨by rfl, fun w' hw' => by simp [go_sem, Go.Proofs.Ytmeogadkbbeglaa.keep hw' t1]⟩) (bDrew (Below.refl _ _)) ?_
  refine wpAnyH_take (i := 2) (v := .pointer (some ⟨w.heap.size, 0, none⟩)) rfl (by kernel_rfl) (by kernel_rfl) (by kernel_rfl) (fun _ _ _ h => h) (.inl ⟨by rfl, fun w' hw' => by simp [go_sem]⟩) (bDrew (Below.refl _ _)) ?_
  refine wpAnyH_take (i := 3) (v := .slice m.a1 t.st.length m.c1) rfl (by kernel_rfl) (by kernel_rfl) (by kernel_rfl) (fun _ _ _ h => h) (.inl ⟨by rfl, fun w' hw' => by simp [go_sem, Go.Proofs.Ytmeogadkbbeglaa.keep hw' t0]⟩) (bDrew (Below.refl _ _)) ?_
  refine wpAnyH_all (rs := [4]) (by kernel_rfl) (by decide) ?_
  intro i hi
  obtain rfl : i = 4 := by simpa using hi
  refine wpOp_step (by rfl) (fun K hK => ?_)
  go_simp
  go_at_call 74
  refine (stations_calls _ _ _ _ (h.st.keep (bDrew HB1))).mono ?_
  rintro e w' ⟨rfl, hb0⟩
  have hb1 : Below w1.heap.size w1 w' := bThen (bDrew (Below.refl _ _)) hb0
  rw [hst]
  exact ⟨rfl, by simp [rightF, hst], HX.below' hb1, bThen HB1 hb1⟩

theorem right_spans (t : Tariff) (m : TMem) (w : World) (h : t.At w m) (most : Int) (hst : stationsF t.st = some most) (h1 : 1 ≤ most) (h9 : most ≤ 9) (hsp : spansF t.sp most = false) :
    Calls Try.prog 28 #[.agg (t.cells m)] w fun e w' => e = .returned (.int .i64 (rightF t)) ∧ Below w.heap.size w w' := by
  have hmf : ∀ (fn : Fn) (first cap : Array Value) (w : World), (Instr.makeFunc fn first cap).run Try.prog w = .ok (.func fn first cap) w := fun _ _ _ _ => rfl
  have HB := Below.refl w.heap.size w
  have HX : Box ((w.alloc (.cells (t.cells m) 27)).alloc (.cells #[.int .i64 0] 30)) (w.heap.size + 1) #[.int .i64 0] 30 := Box.new' (by simp) _ _
  have HT : Box ((w.alloc (.cells (t.cells m) 27)).alloc (.cells #[.int .i64 0] 30)) w.heap.size (t.cells m) 27 := (Box.new _ _ _).alloc _
  have HB1 : Below w.heap.size w ((w.alloc (.cells (t.cells m) 27)).alloc (.cells #[.int .i64 0] 30)) := by (repeat (first | (with_reducible exact HB) | (with_reducible refine bAlloc ?_ _) | (with_reducible refine bDrewN ?_ _) | (with_reducible refine bDrew ?_) | (with_reducible refine bSet ?_ (by first | exact Nat.le_refl _ | (simp; omega) | omega) _) | (with_reducible refine bThen ?_ (by with_reducible assumption))))
  go_enter_defers Try.func28, Try.ntmps28
  go_wp2_with fail
  generalize ((w.alloc (.cells (t.cells m) 27)).alloc (.cells #[.int .i64 0] 30)) = w1 at *
  refine wp_region_slot (S := fun w' => Below w1.heap.size w1 w') 2 (.pointer (some ⟨w.heap.size + 1, 0, none⟩)) (RightG t w) (by kernel_rfl) (by simp) (by rfl) ?_ ?_
  · intro c a' w' hs hdf hg
    obtain ⟨rfl, hX, hB⟩ := hg
    cases a' with
    | mk tm df =>
      simp only at hdf hs
      subst hdf
      exact right_door tm hX (by simp) hB rfl hs
  have t0 := (HT.cell 0)
  have t1 := (HT.cell 1)
  simp only [Tariff.cells] at t0 t1
  refine wpAnyH_take (i := 0) (v := .pointer (some ⟨w.heap.size, 1, none⟩)) rfl (by kernel_rfl) (by kernel_rfl) (by kernel_rfl) (fun _ _ _ h => h) (.inl ⟨by rfl, fun w' hw' => by simp [go_sem]⟩) (bDrew (Below.refl _ _)) ?_
  refine wpAnyH_take (i := 1) (v := .slice m.a2 t.sp.length m.c2) rfl (by kernel_rfl) (by kernel_rfl) (by kernel_rfl) (fun _ _ _ h => h) (.inl ⟨by rfl, fun w' hw' => by simp [go_sem, Go.Proofs.Ytmeogadkbbeglaa.keep hw' t1]⟩) (bDrew (Below.refl _ _)) ?_
  refine wpAnyH_take (i := 2) (v := .pointer (some ⟨w.heap.size, 0, none⟩)) rfl (by kernel_rfl) (by kernel_rfl) (by kernel_rfl) (fun _ _ _ h => h) (.inl ⟨by rfl, fun w' hw' => by simp [go_sem]⟩) (bDrew (Below.refl _ _)) ?_
  refine wpAnyH_take (i := 3) (v := .slice m.a1 t.st.length m.c1) rfl (by kernel_rfl) (by kernel_rfl) (by kernel_rfl) (fun _ _ _ h => h) (.inl ⟨by rfl, fun w' hw' => by simp [go_sem, Go.Proofs.Ytmeogadkbbeglaa.keep hw' t0]⟩) (bDrew (Below.refl _ _)) ?_
  refine wpAnyH_all (rs := [4]) (by kernel_rfl) (by decide) ?_
  intro i hi
  obtain rfl : i = 4 := by simpa using hi
  refine wpOp_step (by rfl) (fun K hK => ?_)
  go_simp
  go_at_call 74
  refine (stations_calls _ _ _ _ (h.st.keep (bDrew HB1))).mono ?_
  rintro e w' ⟨rfl, hb0⟩
  have hb1 : Below w1.heap.size w1 w' := bThen (bDrew (Below.refl _ _)) hb0
  rw [hst]
  refine hK _ _ ⟨hb1, ?_⟩
  refine wpAnyH_all (rs := [5]) (by kernel_rfl) (by decide) ?_
  intro i hi
  obtain rfl : i = 5 := by simpa using hi
  refine wpOp_step (by rfl) (fun K hK => ?_)
  go_simp
  go_at_call 73
  refine (spans_calls _ _ _ _ _ (h.sp.keep (bThen HB1 hb1)) h1 h9).mono ?_
  rintro e w2 ⟨rfl, hb2⟩
  rw [hsp]
  refine hK _ _ ⟨bThen hb1 hb2, ?_⟩
  refine wpAnyH_all (rs := [6]) (by kernel_rfl) (by decide) ?_
  intro i hi
  obtain rfl : i = 6 := by simpa using hi
  refine wpOp_step (by rfl) (fun K hK => ?_)
  go_simp
  refine (must_no false rfl _ _).mono ?_
  rintro e w' ⟨rfl, rfl⟩
  exact ⟨rfl, by simp [rightF, hst, hsp], HX.below' (bThen hb1 hb2), bThen HB1 (bThen hb1 hb2)⟩

end Go.Proofs.Ytmeogadkbbeglaa

namespace Go.Proofs.Ytmeogadkbbeglaa
open Go.RowKit
set_option maxHeartbeats 2000000
set_option maxRecDepth 100000

theorem stations_some (l : List Station) (A : Option Addr) (c : Nat) (w : World) (most : Int) (hst : stationsF l = some most) (hA : SliceAt w 3 Station.vals A l) :
    Calls Try.prog 74 #[.slice A l.length c] w fun e w' => e = .returned (.int .i64 most) ∧ Below w.heap.size w w' := by
  have := stations_calls l A c w hA
  rw [hst] at this
  exact this

/-- What holds all along in Right's body. -/
structure RInv (t : Tariff) (m : TMem) (w wr : World) : Prop where
  T : Box wr w.heap.size (t.cells m) 27
  X : Box wr (w.heap.size + 1) #[.int .i64 0] 30
  B : Below w.heap.size w wr
theorem RInv.alloc {t : Tariff} {m : TMem} {w wr : World} (h : RInv t m w wr) (o : Obj) : RInv t m w (wr.alloc o) := ⟨h.T.alloc o, h.X.alloc o, bAlloc h.B o⟩
theorem RInv.below {t : Tariff} {m : TMem} {w wr w' : World} (h : RInv t m w wr) (hb : Below wr.heap.size wr w') : RInv t m w w' := ⟨h.T.below' hb, h.X.below' hb, bThen h.B hb⟩

theorem right_rest (t : Tariff) (m : TMem) (w : World) (h : t.At w m) (most : Int) (hst : stationsF t.st = some most) (h1 : 1 ≤ most) (h9 : most ≤ 9) (hsp : spansF t.sp most = true) :
    Calls Try.prog 28 #[.agg (t.cells m)] w fun e w' => e = .returned (.int .i64 (rightF t)) ∧ Below w.heap.size w w' := by
  have hmf : ∀ (fn : Fn) (first cap : Array Value) (w : World), (Instr.makeFunc fn first cap).run Try.prog w = .ok (.func fn first cap) w := fun _ _ _ _ => rfl
  have HB := Below.refl w.heap.size w
  have HX : Box ((w.alloc (.cells (t.cells m) 27)).alloc (.cells #[.int .i64 0] 30)) (w.heap.size + 1) #[.int .i64 0] 30 := Box.new' (by simp) _ _
  have HT : Box ((w.alloc (.cells (t.cells m) 27)).alloc (.cells #[.int .i64 0] 30)) w.heap.size (t.cells m) 27 := (Box.new _ _ _).alloc _
  have HB1 : Below w.heap.size w ((w.alloc (.cells (t.cells m) 27)).alloc (.cells #[.int .i64 0] 30)) := by (repeat (first | (with_reducible exact HB) | (with_reducible refine bAlloc ?_ _) | (with_reducible refine bDrewN ?_ _) | (with_reducible refine bDrew ?_) | (with_reducible refine bSet ?_ (by first | exact Nat.le_refl _ | (simp; omega) | omega) _) | (with_reducible refine bThen ?_ (by with_reducible assumption))))
  have hr0 : R0 t := ⟨most, hst, hsp⟩
  have hlsp := h.sp.len
  have hlpk := h.pk.len
  obtain ⟨a1, mc1, a2, mc2, a3, mc3⟩ := m
  have HST := Lib.hid hst
  have HSP := Lib.hid hsp
  clear hst hsp
  go_enter_defers Try.func28, Try.ntmps28
  go_wp2_with fail
  generalize ((w.alloc (.cells (t.cells ⟨a1, mc1, a2, mc2, a3, mc3⟩) 27)).alloc (.cells #[.int .i64 0] 30)) = w1 at *
  have lt0 := HT.lt
  have t0 : w1.cell? ⟨w.heap.size, 0, none⟩ = some (.slice a1 t.st.length mc1) := HT.cell 0
  have t1 : w1.cell? ⟨w.heap.size, 1, none⟩ = some (.slice a2 t.sp.length mc2) := HT.cell 1
  have hS : ∀ x : Ext w1, SliceAt (w1.ext x) 3 Station.vals a1 t.st := fun x => h.st.keep (bThen HB1 (World.below_ext _ x))
  have hP : ∀ x : Ext w1, SliceAt (w1.ext x) 5 Span.vals a2 t.sp := fun x => h.sp.keep (bThen HB1 (World.below_ext _ x))
  (refine wp_region_calm_lit (by kernel_rfl) (by kernel_rfl) ?_; (repeat (go_big_quiet_step (first | (go_at_call 74; exact Calls.calm (stations_some _ _ _ _ most HST.out (hS _))) | (go_at_call 73; exact Calls.calm (spans_calls _ _ _ _ _ (hP _) h1 h9)) | (go_at_call 72; exact Calls.calm_same (must_yes _ HSP.out _ _))))); refine wpQuiet_nil ?_; intro _ hw'; obtain ⟨nq, hw''⟩ := hw'; subst hw'')
  clear hS hP
  have hI : RInv t ⟨a1, mc1, a2, mc2, a3, mc3⟩ w (w1.ext nq) := ⟨HT.below' (World.below_ext w1 nq), HX.below' (World.below_ext w1 nq), bThen HB1 (World.below_ext w1 nq)⟩
  clear HX HT t0 t1 lt0
  generalize w1.ext nq = w2 at *
  clear HB1
  obtain ⟨t0, t1, t2, t3, t4, t5, t6, t7, t8, t9, t10, t11, t12, t13⟩ := tcells hI.T
  have lt0 := hI.T.lt
  go_wp2_with fail
  have hI3 := hI.alloc (.cells #[.int .i64 t.bus, .int .i64 t.busDaily, .int .i64 t.busWeekly, .int .i64 t.most, .int .i64 t.threshold] 3)
  have hL := Box.new w2 #[.int .i64 t.bus, .int .i64 t.busDaily, .int .i64 t.busWeekly, .int .i64 t.most, .int .i64 t.threshold] 3
  generalize hbs : w2.heap.size = bs at *
  have HBS := Lib.hid hbs
  clear hbs
  generalize (w2.alloc (.cells #[.int .i64 t.bus, .int .i64 t.busDaily, .int .i64 t.busWeekly, .int .i64 t.most, .int .i64 t.threshold] 3)) = w3 at *
  clear hI lt0
  clear t0 t1 t2 t3 t4 t5 t6 t7 t8 t9 t10 t11 t12 t13
  go_loopw [37] (fun i wr => ∃ k : Nat, k ≤ 5 ∧ i = .int .i64 k ∧ RInv t ⟨a1, mc1, a2, mc2, a3, mc3⟩ w wr ∧ Box wr bs #[.int .i64 t.bus, .int .i64 t.busDaily, .int .i64 t.busWeekly, .int .i64 t.most, .int .i64 t.threshold] 3 ∧ Hid (([t.bus, t.busDaily, t.busWeekly, t.most, t.threshold].take k).all priceB = true)) (fun i _ => 5 - (intOf i).toNat)
  case atStart => exact ⟨0, by omega, rfl, hI3, hL, rfl⟩
  case round =>
    obtain ⟨k, hk, rfl, hI, hL', hall⟩ := hrel
    clear hI3 hL
    by_cases hlt : k < 5
    · have hcase : k = 0 ∨ k = 1 ∨ k = 2 ∨ k = 3 ∨ k = 4 := by omega
      have l0 : wr.cell? ⟨bs, 0, none⟩ = some (.int .i64 t.bus) := hL'.cell 0
      have l1 : wr.cell? ⟨bs, 1, none⟩ = some (.int .i64 t.busDaily) := hL'.cell 1
      have l2 : wr.cell? ⟨bs, 2, none⟩ = some (.int .i64 t.busWeekly) := hL'.cell 2
      have l3 : wr.cell? ⟨bs, 3, none⟩ = some (.int .i64 t.most) := hL'.cell 3
      have l4 : wr.cell? ⟨bs, 4, none⟩ = some (.int .i64 t.threshold) := hL'.cell 4
      rcases hcase with rfl | rfl | rfl | rfl | rfl
      · cases hp : priceB t.bus
        · go_wp2_with (first | (go_at_call 75; (with_reducible refine (price_calls _ _).mono ?_); rintro e w' ⟨rfl, rfl⟩) | (go_at_call 72; first | ((with_reducible refine (must_yes true rfl _ _).mono ?_); rintro e w' ⟨rfl, rfl⟩) | ((with_reducible refine (must_no false rfl _ _).mono ?_); rintro e w' ⟨rfl, rfl⟩)))
          exact right_door _ hI.X (by simp) hI.B (rf_prices hr0 (by simp [pricesB, hp])) rfl
        · go_wp2_with (first | (go_at_call 75; (with_reducible refine (price_calls _ _).mono ?_); rintro e w' ⟨rfl, rfl⟩) | (go_at_call 72; first | ((with_reducible refine (must_yes true rfl _ _).mono ?_); rintro e w' ⟨rfl, rfl⟩) | ((with_reducible refine (must_no false rfl _ _).mono ?_); rintro e w' ⟨rfl, rfl⟩)))
          go_roundw
          case rel => exact ⟨0 + 1, by omega, by go_num, hI, hL', by have hh := hall.out; simp at hh; simp [Hid, *]⟩
          case measure => simp [intOf]
      · cases hp : priceB t.busDaily
        · go_wp2_with (first | (go_at_call 75; (with_reducible refine (price_calls _ _).mono ?_); rintro e w' ⟨rfl, rfl⟩) | (go_at_call 72; first | ((with_reducible refine (must_yes true rfl _ _).mono ?_); rintro e w' ⟨rfl, rfl⟩) | ((with_reducible refine (must_no false rfl _ _).mono ?_); rintro e w' ⟨rfl, rfl⟩)))
          exact right_door _ hI.X (by simp) hI.B (rf_prices hr0 (by simp [pricesB, hp])) rfl
        · go_wp2_with (first | (go_at_call 75; (with_reducible refine (price_calls _ _).mono ?_); rintro e w' ⟨rfl, rfl⟩) | (go_at_call 72; first | ((with_reducible refine (must_yes true rfl _ _).mono ?_); rintro e w' ⟨rfl, rfl⟩) | ((with_reducible refine (must_no false rfl _ _).mono ?_); rintro e w' ⟨rfl, rfl⟩)))
          go_roundw
          case rel => exact ⟨1 + 1, by omega, by go_num, hI, hL', by have hh := hall.out; simp at hh; simp [Hid, *]⟩
          case measure => simp [intOf]
      · cases hp : priceB t.busWeekly
        · go_wp2_with (first | (go_at_call 75; (with_reducible refine (price_calls _ _).mono ?_); rintro e w' ⟨rfl, rfl⟩) | (go_at_call 72; first | ((with_reducible refine (must_yes true rfl _ _).mono ?_); rintro e w' ⟨rfl, rfl⟩) | ((with_reducible refine (must_no false rfl _ _).mono ?_); rintro e w' ⟨rfl, rfl⟩)))
          exact right_door _ hI.X (by simp) hI.B (rf_prices hr0 (by simp [pricesB, hp])) rfl
        · go_wp2_with (first | (go_at_call 75; (with_reducible refine (price_calls _ _).mono ?_); rintro e w' ⟨rfl, rfl⟩) | (go_at_call 72; first | ((with_reducible refine (must_yes true rfl _ _).mono ?_); rintro e w' ⟨rfl, rfl⟩) | ((with_reducible refine (must_no false rfl _ _).mono ?_); rintro e w' ⟨rfl, rfl⟩)))
          go_roundw
          case rel => exact ⟨2 + 1, by omega, by go_num, hI, hL', by have hh := hall.out; simp at hh; simp [Hid, *]⟩
          case measure => simp [intOf]
      · cases hp : priceB t.most
        · go_wp2_with (first | (go_at_call 75; (with_reducible refine (price_calls _ _).mono ?_); rintro e w' ⟨rfl, rfl⟩) | (go_at_call 72; first | ((with_reducible refine (must_yes true rfl _ _).mono ?_); rintro e w' ⟨rfl, rfl⟩) | ((with_reducible refine (must_no false rfl _ _).mono ?_); rintro e w' ⟨rfl, rfl⟩)))
          exact right_door _ hI.X (by simp) hI.B (rf_prices hr0 (by simp [pricesB, hp])) rfl
        · go_wp2_with (first | (go_at_call 75; (with_reducible refine (price_calls _ _).mono ?_); rintro e w' ⟨rfl, rfl⟩) | (go_at_call 72; first | ((with_reducible refine (must_yes true rfl _ _).mono ?_); rintro e w' ⟨rfl, rfl⟩) | ((with_reducible refine (must_no false rfl _ _).mono ?_); rintro e w' ⟨rfl, rfl⟩)))
          go_roundw
          case rel => exact ⟨3 + 1, by omega, by go_num, hI, hL', by have hh := hall.out; simp at hh; simp [Hid, *]⟩
          case measure => simp [intOf]
      · cases hp : priceB t.threshold
        · go_wp2_with (first | (go_at_call 75; (with_reducible refine (price_calls _ _).mono ?_); rintro e w' ⟨rfl, rfl⟩) | (go_at_call 72; first | ((with_reducible refine (must_yes true rfl _ _).mono ?_); rintro e w' ⟨rfl, rfl⟩) | ((with_reducible refine (must_no false rfl _ _).mono ?_); rintro e w' ⟨rfl, rfl⟩)))
          exact right_door _ hI.X (by simp) hI.B (rf_prices hr0 (by simp [pricesB, hp])) rfl
        · go_wp2_with (first | (go_at_call 75; (with_reducible refine (price_calls _ _).mono ?_); rintro e w' ⟨rfl, rfl⟩) | (go_at_call 72; first | ((with_reducible refine (must_yes true rfl _ _).mono ?_); rintro e w' ⟨rfl, rfl⟩) | ((with_reducible refine (must_no false rfl _ _).mono ?_); rintro e w' ⟨rfl, rfl⟩)))
          go_roundw
          case rel => exact ⟨4 + 1, by omega, by go_num, hI, hL', by have hh := hall.out; simp at hh; simp [Hid, *]⟩
          case measure => simp [intOf]
    · have hr1 : R1 t := ⟨hr0, by obtain rfl : k = 5 := by omega
                                  have hh := hall.out
                                  simp at hh
                                  simp [pricesB, *]⟩
      clear hall hL'
      obtain ⟨t0, t1, t2, t3, t4, t5, t6, t7, t8, t9, t10, t11, t12, t13⟩ := tcells hI.T
      go_wp2_with fail
      clear t0 t1 t2 t3 t4 t5 t6 t7 t8 t9 t10 t11 t12 t13
      go_loopw [48] (fun i wr => ∃ k : Nat, k ≤ t.sp.length ∧ i = .int .i64 k ∧ RInv t ⟨a1, mc1, a2, mc2, a3, mc3⟩ w wr ∧ Hid ((t.sp.take k).all spPrice = true)) (fun i _ => t.sp.length - (intOf i).toNat)
      case atStart => exact ⟨0, by omega, rfl, hI, rfl⟩
      case round =>
        clear hI
        obtain ⟨k, hk, rfl, hI, hall⟩ := hrel
        by_cases hlt : k < t.sp.length
        · obtain ⟨b, off, rfl, c0, c1, c2, c3, c4⟩ := elem5 h.sp hI.B k hlt
          cases hp1 : priceB t.sp[k].single <;> cases hp2 : priceB t.sp[k].daily <;> cases hp3 : priceB t.sp[k].weekly
          all_goals
            go_wp2_with (first | (go_at_call 75; (with_reducible refine (price_calls _ _).mono ?_); rintro e w' ⟨rfl, rfl⟩) | (go_at_call 72; first | ((with_reducible refine (must_yes true rfl _ _).mono ?_); rintro e w' ⟨rfl, rfl⟩) | ((with_reducible refine (must_no false rfl _ _).mono ?_); rintro e w' ⟨rfl, rfl⟩)))
            first
            | exact right_door _ (hI.alloc _).X (by simp) (hI.alloc _).B (rf_sp hr1 (all_at_false hlt (by simp [spPrice, *]))) rfl
            | (go_roundw
               case rel => exact ⟨k + 1, by omega, by go_num, hI.alloc _, all_snoc hlt hall.out (by simp [spPrice, *])⟩
               case measure => simp [intOf]; omega)
            | fail
        · have hr2 : R2 t := ⟨hr1, all_done hlt hall.out⟩
          clear hall
          obtain ⟨t0, t1, t2, t3, t4, t5, t6, t7, t8, t9, t10, t11, t12, t13⟩ := tcells hI.T
          go_wp2_with fail
          clear t0 t1 t2 t3 t4 t5 t6 t7 t8 t9 t10 t11 t12 t13
          go_loopw [70] (fun i wr => ∃ k : Nat, k ≤ t.sp.length ∧ i = .int .i64 k ∧ RInv t ⟨a1, mc1, a2, mc2, a3, mc3⟩ w wr ∧ Hid ((t.sp.take k).all (fun a => t.sp.all (fun b => wide1 a b)) = true)) (fun i _ => t.sp.length - (intOf i).toNat)
          case atStart => exact ⟨0, by omega, rfl, hI, rfl⟩
          case round =>
            clear hI
            obtain ⟨k, hk, rfl, hI, hall⟩ := hrel
            by_cases hlt : k < t.sp.length
            · obtain ⟨b, off, hA2, c0, c1, c2, c3, c4⟩ := elem5 h.sp hI.B k hlt
              subst hA2
              obtain ⟨t0, t1, t2, t3, t4, t5, t6, t7, t8, t9, t10, t11, t12, t13⟩ := tcells hI.T
              have lt0 := hI.T.lt
              go_wp2_with fail
              have hS := Box.new wr #[.int .i64 t.sp[k].frm, .int .i64 t.sp[k].to, .int .i64 t.sp[k].single, .int .i64 t.sp[k].daily, .int .i64 t.sp[k].weekly] 39
              have hJ := hI.alloc (.cells #[.int .i64 t.sp[k].frm, .int .i64 t.sp[k].to, .int .i64 t.sp[k].single, .int .i64 t.sp[k].daily, .int .i64 t.sp[k].weekly] 39)
              have hge : w.heap.size + 1 < wr.heap.size := hI.X.lt
              generalize hbs8 : wr.heap.size = b8 at *
              have HBS8 := Lib.hid hbs8
              clear hbs8
              generalize (wr.alloc (.cells #[.int .i64 t.sp[k].frm, .int .i64 t.sp[k].to, .int .i64 t.sp[k].single, .int .i64 t.sp[k].daily, .int .i64 t.sp[k].weekly] 39)) = w8 at *
              clear t0 t1 t2 t3 t4 t5 t6 t7 t8 t9 t10 t11 t12 t13
              clear c0 c1 c2 c3 c4 lt0
              go_loopw [77] (fun i wq => ∃ q : Nat, q ≤ t.sp.length ∧ i = .int .i64 q ∧ RInv t ⟨a1, mc1, some ⟨b, off, none⟩, mc2, a3, mc3⟩ w wq ∧ Box wq b8 #[.int .i64 t.sp[k].frm, .int .i64 t.sp[k].to, .int .i64 t.sp[k].single, .int .i64 t.sp[k].daily, .int .i64 t.sp[k].weekly] 39 ∧ Hid ((t.sp.take q).all (fun y => wide1 t.sp[k] y) = true)) (fun i _ => t.sp.length - (intOf i).toNat)
              case atStart => exact ⟨0, by omega, rfl, hJ, hS, rfl⟩
              case round =>
                obtain ⟨q, hq, rfl, hJ, hS, hin⟩ := hrel
                by_cases hqt : q < t.sp.length
                · obtain ⟨b', off', hA2, c0, c1, c2, c3, c4⟩ := elem5 h.sp hJ.B q hqt
                  injection hA2 with hA2
                  injection hA2 with hA2 hA3
                  subst hA2
                  subst hA3
                  have s0 : wr.cell? ⟨b8, 0, none⟩ = some (.int .i64 t.sp[k].frm) := hS.cell 0
                  have s1 : wr.cell? ⟨b8, 1, none⟩ = some (.int .i64 t.sp[k].to) := hS.cell 1
                  have s2 : wr.cell? ⟨b8, 2, none⟩ = some (.int .i64 t.sp[k].single) := hS.cell 2
                  have s3 : wr.cell? ⟨b8, 3, none⟩ = some (.int .i64 t.sp[k].daily) := hS.cell 3
                  have s4 : wr.cell? ⟨b8, 4, none⟩ = some (.int .i64 t.sp[k].weekly) := hS.cell 4
                  have lt8 := hS.lt
                  cases hw : decide (t.sp[k].weekly ≤ t.sp[q].weekly)
                  all_goals have hw' := hw; simp only [decide_eq_true_eq, decide_eq_false_iff_not] at hw'
                  all_goals go_wp2_with (go_at_call 72; first | ((with_reducible refine (must_yes true rfl _ _).mono ?_); rintro e w' ⟨rfl, rfl⟩) | ((with_reducible refine (must_no false rfl _ _).mono ?_); rintro e w' ⟨rfl, rfl⟩))
                  all_goals first
                  | exact right_door _ (hJ.alloc _).X (by simp) (hJ.alloc _).B (rf_wide hr2 (all_at_false hlt (all_at_false hqt (by simp [wide1, spWithin, spLe, *] <;> omega)))) rfl
                  | (go_roundw
                     case rel => exact ⟨q + 1, by omega, by go_num, hJ.alloc _, hS.alloc _, all_snoc hqt hin.out (by simp [wide1, spWithin, spLe, *] <;> omega)⟩
                     case measure => simp [intOf]; omega)
                  | fail
                · go_wp2_with fail
                  go_roundw
                  case rel => exact ⟨k + 1, by omega, by go_num, hJ, all_snoc hlt hall.out (all_done hqt hin.out)⟩
                  case measure => simp [intOf]; omega
            · have hr3 : R3 t := ⟨hr2, all_done hlt hall.out⟩
              clear hall
              obtain ⟨t0, t1, t2, t3, t4, t5, t6, t7, t8, t9, t10, t11, t12, t13⟩ := tcells hI.T
              cases hl8 : decide ((t.pk.length : Int) ≤ 8)
              · go_wp2_with (go_at_call 72; first | ((with_reducible refine (must_yes true rfl _ _).mono ?_); rintro e w' ⟨rfl, rfl⟩) | ((with_reducible refine (must_no false rfl _ _).mono ?_); rintro e w' ⟨rfl, rfl⟩))
                exact right_door _ hI.X (by simp) hI.B (rf_bands hr3 (by simp at hl8; simp [bandsF]; intro; omega)) rfl
              · go_wp2_with (go_at_call 72; first | ((with_reducible refine (must_yes true rfl _ _).mono ?_); rintro e w' ⟨rfl, rfl⟩) | ((with_reducible refine (must_no false rfl _ _).mono ?_); rintro e w' ⟨rfl, rfl⟩))
                clear t0 t1 t2 t3 t4 t5 t6 t7 t8 t9 t10 t11 t12 t13
                go_loopw [12, 127] (fun a i wr => ∃ (k : Nat) (at_ : Int), k ≤ t.pk.length ∧ a = .int .i64 at_ ∧ i = .int .i64 k ∧ RInv t ⟨a1, mc1, a2, mc2, a3, mc3⟩ w wr ∧ Hid (bandsGo (t.pk.drop k) at_ = bandsGo t.pk 0)) (fun _ i _ => t.pk.length - (intOf i).toNat)
                case atStart => exact ⟨0, 0, by omega, rfl, rfl, hI, rfl⟩
                case round =>
                  clear hI
                  obtain ⟨k, at_, hk, rfl, rfl, hI, hgo⟩ := hrel
                  by_cases hlt : k < t.pk.length
                  · obtain ⟨b, off, hA3, c0, c1⟩ := elem2 h.pk hI.B k hlt
                    subst hA3
                    rw [drop_cons hlt] at hgo
                    cases hw : decide (t.pk[k].to ≤ 1440)
                    all_goals have hw' := hw; simp only [decide_eq_true_eq, decide_eq_false_iff_not] at hw'
                    all_goals go_wp2_with (go_at_call 72; first | ((with_reducible refine (must_yes true rfl _ _).mono ?_); rintro e w' ⟨rfl, rfl⟩) | ((with_reducible refine (must_no false rfl _ _).mono ?_); rintro e w' ⟨rfl, rfl⟩))
                    all_goals first
                    | (refine right_door _ (hI.alloc _).X (by simp) (hI.alloc _).B (rf_bands hr3 ?_) rfl
                       have hh := hgo.out
                       rw [bandsGo_cons, if_neg (by omega)] at hh
                       simp [bandsF, ← hh])
                    | (go_roundw
                       case rel =>
                         refine ⟨k + 1, _, by omega, rfl, by go_num, hI.alloc _, ?_⟩
                         have hh := hgo.out
                         rw [bandsGo_cons, if_pos (by omega)] at hh
                         exact hh
                       case measure => simp [intOf]; omega)
                    | fail
                  · have hr4 : R4 t := ⟨hr3, by
                      obtain rfl : k = t.pk.length := by omega
                      have e : bandsGo t.pk 0 = true := by rw [← hgo.out, List.drop_length]; rfl
                      have e8 : t.pk.length ≤ 8 := by have := of_decide_eq_true hl8; omega
                      simp [bandsF, e, e8]⟩
                    clear hgo
                    obtain ⟨t0, t1, t2, t3, t4, t5, t6, t7, t8, t9, t10, t11, t12, t13⟩ := tcells hI.T
                    cases hrt : rateOk t.off
                    · go_wp2_with (first | (go_at_call 76; (with_reducible refine (rate_calls _ h.off _).mono ?_); rintro e w' ⟨rfl, rfl⟩) | (go_at_call 72; first | ((with_reducible refine (must_yes true rfl _ _).mono ?_); rintro e w' ⟨rfl, rfl⟩) | ((with_reducible refine (must_no false rfl _ _).mono ?_); rintro e w' ⟨rfl, rfl⟩)))
                      exact right_door _ hI.X (by simp) hI.B (rf_rate hr4 hrt) rfl
                    have hr5 : R5 t := ⟨hr4, hrt⟩
                    cases hlg : inB 1 t.longest 1440
                    · go_wp2_with (first | (go_at_call 76; (with_reducible refine (rate_calls _ h.off _).mono ?_); rintro e w' ⟨rfl, rfl⟩) | (go_at_call 77; (with_reducible refine (within_calls _ _ _ _).mono ?_); rintro e w' ⟨rfl, rfl⟩) | (go_at_call 72; first | ((with_reducible refine (must_yes true rfl _ _).mono ?_); rintro e w' ⟨rfl, rfl⟩) | ((with_reducible refine (must_no false rfl _ _).mono ?_); rintro e w' ⟨rfl, rfl⟩)))
                      exact right_door _ hI.X (by simp) hI.B (rf_long hr5 hlg) rfl
                    have hr6 : R6 t := ⟨hr5, hlg⟩
                    go_wp2_with (first | (go_at_call 76; (with_reducible refine (rate_calls _ h.off _).mono ?_); rintro e w' ⟨rfl, rfl⟩) | (go_at_call 77; (with_reducible refine (within_calls _ _ _ _).mono ?_); rintro e w' ⟨rfl, rfl⟩) | (go_at_call 72; first | ((with_reducible refine (must_yes true rfl _ _).mono ?_); rintro e w' ⟨rfl, rfl⟩) | ((with_reducible refine (must_no false rfl _ _).mono ?_); rintro e w' ⟨rfl, rfl⟩)))
                    clear hrt hlg
                    have hI3 := hI.alloc (.cells #[.int .i64 t.hopper, .int .i64 t.change, .int .i64 t.passback, .int .i64 t.delay] 3)
                    have hL := Box.new wr #[.int .i64 t.hopper, .int .i64 t.change, .int .i64 t.passback, .int .i64 t.delay] 3
                    generalize hb9 : wr.heap.size = b9 at *
                    have HB9 := Lib.hid hb9
                    clear hb9
                    generalize (wr.alloc (.cells #[.int .i64 t.hopper, .int .i64 t.change, .int .i64 t.passback, .int .i64 t.delay] 3)) = w9 at *
                    clear hI
                    clear t0 t1 t2 t3 t4 t5 t6 t7 t8 t9 t10 t11 t12 t13
                    go_loopw [169] (fun i wr => ∃ k : Nat, k ≤ 4 ∧ i = .int .i64 k ∧ RInv t ⟨a1, mc1, a2, mc2, a3, mc3⟩ w wr ∧ Box wr b9 #[.int .i64 t.hopper, .int .i64 t.change, .int .i64 t.passback, .int .i64 t.delay] 3 ∧ Hid (([t.hopper, t.change, t.passback, t.delay].take k).all (fun x => inB 0 x 1440) = true)) (fun i _ => 4 - (intOf i).toNat)
                    case atStart => exact ⟨0, by omega, rfl, hI3, hL, rfl⟩
                    case round =>
                      obtain ⟨k, hk, rfl, hI, hL', hall⟩ := hrel
                      clear hI3 hL
                      by_cases hlt : k < 4
                      · have hcase : k = 0 ∨ k = 1 ∨ k = 2 ∨ k = 3 := by omega
                        have l0 : wr.cell? ⟨b9, 0, none⟩ = some (.int .i64 t.hopper) := hL'.cell 0
                        have l1 : wr.cell? ⟨b9, 1, none⟩ = some (.int .i64 t.change) := hL'.cell 1
                        have l2 : wr.cell? ⟨b9, 2, none⟩ = some (.int .i64 t.passback) := hL'.cell 2
                        have l3 : wr.cell? ⟨b9, 3, none⟩ = some (.int .i64 t.delay) := hL'.cell 3
                        rcases hcase with rfl | rfl | rfl | rfl
                        · cases hp : inB 0 t.hopper 1440
                          · go_wp2_with (first | (go_at_call 77; (with_reducible refine (within_calls _ _ _ _).mono ?_); rintro e w' ⟨rfl, rfl⟩) | (go_at_call 72; first | ((with_reducible refine (must_yes true rfl _ _).mono ?_); rintro e w' ⟨rfl, rfl⟩) | ((with_reducible refine (must_no false rfl _ _).mono ?_); rintro e w' ⟨rfl, rfl⟩)))
                            exact right_door _ hI.X (by simp) hI.B (rf_mins hr6 (by simp [minsB, hp])) rfl
                          · go_wp2_with (first | (go_at_call 77; (with_reducible refine (within_calls _ _ _ _).mono ?_); rintro e w' ⟨rfl, rfl⟩) | (go_at_call 72; first | ((with_reducible refine (must_yes true rfl _ _).mono ?_); rintro e w' ⟨rfl, rfl⟩) | ((with_reducible refine (must_no false rfl _ _).mono ?_); rintro e w' ⟨rfl, rfl⟩)))
                            go_roundw
                            case rel => exact ⟨0 + 1, by omega, by go_num, hI, hL', by have hh := hall.out; simp at hh; simp [Hid, *]⟩
                            case measure => simp [intOf]
                        · cases hp : inB 0 t.change 1440
                          · go_wp2_with (first | (go_at_call 77; (with_reducible refine (within_calls _ _ _ _).mono ?_); rintro e w' ⟨rfl, rfl⟩) | (go_at_call 72; first | ((with_reducible refine (must_yes true rfl _ _).mono ?_); rintro e w' ⟨rfl, rfl⟩) | ((with_reducible refine (must_no false rfl _ _).mono ?_); rintro e w' ⟨rfl, rfl⟩)))
                            exact right_door _ hI.X (by simp) hI.B (rf_mins hr6 (by simp [minsB, hp])) rfl
                          · go_wp2_with (first | (go_at_call 77; (with_reducible refine (within_calls _ _ _ _).mono ?_); rintro e w' ⟨rfl, rfl⟩) | (go_at_call 72; first | ((with_reducible refine (must_yes true rfl _ _).mono ?_); rintro e w' ⟨rfl, rfl⟩) | ((with_reducible refine (must_no false rfl _ _).mono ?_); rintro e w' ⟨rfl, rfl⟩)))
                            go_roundw
                            case rel => exact ⟨1 + 1, by omega, by go_num, hI, hL', by have hh := hall.out; simp at hh; simp [Hid, *]⟩
                            case measure => simp [intOf]
                        · cases hp : inB 0 t.passback 1440
                          · go_wp2_with (first | (go_at_call 77; (with_reducible refine (within_calls _ _ _ _).mono ?_); rintro e w' ⟨rfl, rfl⟩) | (go_at_call 72; first | ((with_reducible refine (must_yes true rfl _ _).mono ?_); rintro e w' ⟨rfl, rfl⟩) | ((with_reducible refine (must_no false rfl _ _).mono ?_); rintro e w' ⟨rfl, rfl⟩)))
                            exact right_door _ hI.X (by simp) hI.B (rf_mins hr6 (by simp [minsB, hp])) rfl
                          · go_wp2_with (first | (go_at_call 77; (with_reducible refine (within_calls _ _ _ _).mono ?_); rintro e w' ⟨rfl, rfl⟩) | (go_at_call 72; first | ((with_reducible refine (must_yes true rfl _ _).mono ?_); rintro e w' ⟨rfl, rfl⟩) | ((with_reducible refine (must_no false rfl _ _).mono ?_); rintro e w' ⟨rfl, rfl⟩)))
                            go_roundw
                            case rel => exact ⟨2 + 1, by omega, by go_num, hI, hL', by have hh := hall.out; simp at hh; simp [Hid, *]⟩
                            case measure => simp [intOf]
                        · cases hp : inB 0 t.delay 1440
                          · go_wp2_with (first | (go_at_call 77; (with_reducible refine (within_calls _ _ _ _).mono ?_); rintro e w' ⟨rfl, rfl⟩) | (go_at_call 72; first | ((with_reducible refine (must_yes true rfl _ _).mono ?_); rintro e w' ⟨rfl, rfl⟩) | ((with_reducible refine (must_no false rfl _ _).mono ?_); rintro e w' ⟨rfl, rfl⟩)))
                            exact right_door _ hI.X (by simp) hI.B (rf_mins hr6 (by simp [minsB, hp])) rfl
                          · go_wp2_with (first | (go_at_call 77; (with_reducible refine (within_calls _ _ _ _).mono ?_); rintro e w' ⟨rfl, rfl⟩) | (go_at_call 72; first | ((with_reducible refine (must_yes true rfl _ _).mono ?_); rintro e w' ⟨rfl, rfl⟩) | ((with_reducible refine (must_no false rfl _ _).mono ?_); rintro e w' ⟨rfl, rfl⟩)))
                            go_roundw
                            case rel => exact ⟨3 + 1, by omega, by go_num, hI, hL', by have hh := hall.out; simp at hh; simp [Hid, *]⟩
                            case measure => simp [intOf]
                      · have hr7 : minsB t = true := by
                          obtain rfl : k = 4 := by omega
                          have hh := hall.out
                          simp at hh
                          simp [minsB, *]
                        have x0 : wr.cell? ⟨w.heap.size + 1, 0, none⟩ = some (.int .i64 0) := hI.X.cell 0
                        have y0 := hI.X.free 0
                        go_wp2_with fail
                        exact right_done _ ((hI.X.set 0 _).cast (by simp)) (bSet hI.B (by simp) _) (rf_ok hr6 hr7) rfl

/-- tariff.Right answers what P7.1 says, of whatever tariff. -/
theorem right_calls (t : Tariff) (m : TMem) (w : World) (h : t.At w m) :
    Calls Try.prog 28 #[.agg (t.cells m)] w fun e w' => e = .returned (.int .i64 (rightF t)) ∧ Below w.heap.size w w' := by
  cases hst : stationsF t.st with
  | none => exact right_none t m w h hst
  | some most =>
    have hr := stations_range hst
    cases hsp : spansF t.sp most with
    | false => exact right_spans t m w h most hst hr.1 hr.2 hsp
    | true => exact right_rest t m w h most hst hr.1 hr.2 hsp

end Go.Proofs.Ytmeogadkbbeglaa
