/- Between the printed words' rows and the hand-walks' slices; tariffs as the printed functions have them. -/
import Derived.Test.YtmeogadkbbeglaaH1
import Derived.Test.YtmeogadkbbeglaaK1
namespace Go.Proofs.YtmeogadkbbeglaaQ
open Go.RowKit Go.Proofs.Ytmeogadkbbeglaa Go.Proofs.YtmeogadkbbeglaaW.PrintWords
set_option linter.unusedVariables false
theorem addFlat (b off n : Nat) : (⟨b, off, none⟩ : Addr).add n = ⟨b, off + n, none⟩ := by simp [Addr.add]
/-- And the way back. -/
theorem C_of_sliceAt {α β : Type} {d : Kd α} {w : World} {A : Option Addr} {sz : Nat} {xs : List β} {vals : β → List Value} (g : β → α) (h : SliceAt w sz vals A xs) (hK : ∀ x, d.K w (g x) (vals x)) (hs : d.sz = sz) (hv : ∀ x, (vals x).length = sz) {n : Nat} (hn : xs.length = n) : d.C w A n (xs.map g) := by
  subst hn
  refine ⟨by simp, by have := h.1; omega, fun h0 => ?_⟩
  obtain ⟨b, off, e, -⟩ := h.2 0 xs[0] (by simp [h0])
  refine ⟨⟨b, off, none⟩, e, fun j p hj => ?_⟩
  rw [List.getElem?_map, Option.map_eq_some_iff] at hj
  obtain ⟨y, hy, rfl⟩ := hj
  refine ⟨vals y, by rw [hv, hs], hK y, fun i u hu => ?_⟩
  obtain ⟨b', off', e', hc⟩ := h.2 j y hy
  rw [e] at e'
  cases e'
  have := hc i u hu
  rwa [addFlat, ← Nat.add_assoc, hs]
def stOf (x : S35) : Station := ⟨x.f0, x.f1, x.f2⟩
def ofSt (s : Station) : S35 := ⟨s.id, s.zone, s.grp⟩
def spOf (x : S39) : Span := ⟨x.f0, x.f1, x.f2, x.f3, x.f4⟩
def ofSp (s : Span) : S39 := ⟨s.frm, s.to, s.single, s.daily, s.weekly⟩
def bdOf (x : S48) : Band := ⟨x.f0, x.f1⟩
def ofBd (s : Band) : S48 := ⟨s.frm, s.to⟩
@[simp] theorem stOf_ofSt (s : Station) : stOf (ofSt s) = s := rfl
@[simp] theorem spOf_ofSp (s : Span) : spOf (ofSp s) = s := rfl
@[simp] theorem bdOf_ofBd (s : Band) : bdOf (ofBd s) = s := rfl
@[simp] theorem ofSt_stOf (s : S35) : ofSt (stOf s) = s := rfl
@[simp] theorem ofSp_spOf (s : S39) : ofSp (spOf s) = s := rfl
@[simp] theorem ofBd_bdOf (s : S48) : ofBd (bdOf s) = s := rfl
/-- A tariff whose sizes and bits are some that can be. -/
def _root_.Go.Proofs.Ytmeogadkbbeglaa.Tariff.fits (t : Tariff) : Prop := t.st.length ≤ 140737488351232 ∧ t.sp.length ≤ 140737488351232 ∧ t.pk.length ≤ 140737488351232 ∧ t.off < 18446744073709551616
instance (t : Tariff) : Decidable (Tariff.fits t) := by unfold Tariff.fits; infer_instance
theorem fits_at {w : World} {t : Tariff} {m : TMem} (h : t.At w m) : Tariff.fits t := ⟨h.st.1, h.sp.1, h.pk.1, h.off⟩
theorem at_C {w : World} {t : Tariff} {m : TMem} (h : t.At w m) : Kd.C k35 w m.a1 (t.st.map ofSt).length (t.st.map ofSt) ∧ Kd.C k39 w m.a2 (t.sp.map ofSp).length (t.sp.map ofSp) ∧ Kd.C k48 w m.a3 (t.pk.map ofBd).length (t.pk.map ofBd) :=
  ⟨C_of_sliceAt ofSt h.st (fun x => k35_mk w (ofSt x)) rfl (fun _ => rfl) (by simp), C_of_sliceAt ofSp h.sp (fun x => k39_mk w (ofSp x)) rfl (fun _ => rfl) (by simp), C_of_sliceAt ofBd h.pk (fun x => k48_mk w (ofBd x)) rfl (fun _ => rfl) (by simp)⟩
end Go.Proofs.YtmeogadkbbeglaaQ
