/- What the claim's walk leans on: Conv, D18. -/
import Derived.Test.YtmeogadkbbeglaaH1
import Derived.Test.YtmeogadkbbeglaaK3
section
namespace Go.Proofs.YtmeogadkbbeglaaQ
open Go.RowKit Go.Proofs.Ytmeogadkbbeglaa Go.Proofs.YtmeogadkbbeglaaW.PrintWords
set_option linter.unusedVariables false
theorem addFlat (b off n : Nat) : (⟨b, off, none⟩ : Addr).add n = ⟨b, off + n, none⟩ := by simp [Addr.add]
/-- And the way back. -/
theorem C_of_sliceAt {α β : Type} {d : Kd α} {w : World} {A : Option Addr} {sz : Nat} {xs : List β} {vals : β → List Value} (g : β → α) (h : SliceAt w sz vals A xs) (hK : ∀ x, d.K w (g x) (vals x)) (hs : d.sz = sz) (hv : ∀ x, (vals x).length = sz) {n : Nat} (hn : xs.length = n) : d.C w A n (xs.map g) := by
  subst hn
  refine ⟨by simp, by have := h.1; omega, fun h0 => ?_⟩
  obtain ⟨b, off, e, -⟩ := h.2 0 xs[0] (by simp [h0])
  refine ⟨⟨b, off, none⟩, e, fun j p hj => ?_⟩
  rw [List.getElem?_map, Option.map_eq_some_iff] at hj
  obtain ⟨y, hy, rfl⟩ := hj
  refine ⟨vals y, by rw [hv, hs], hK y, fun i u hu => ?_⟩
  obtain ⟨b', off', e', hc⟩ := h.2 j y hy
  rw [e] at e'
  cases e'
  have := hc i u hu
  rwa [addFlat, ← Nat.add_assoc, hs]
def stOf (x : S35) : Station := ⟨x.f0, x.f1, x.f2⟩
def ofSt (s : Station) : S35 := ⟨s.id, s.zone, s.grp⟩
def spOf (x : S39) : Span := ⟨x.f0, x.f1, x.f2, x.f3, x.f4⟩
def ofSp (s : Span) : S39 := ⟨s.frm, s.to, s.single, s.daily, s.weekly⟩
def bdOf (x : S48) : Band := ⟨x.f0, x.f1⟩
def ofBd (s : Band) : S48 := ⟨s.frm, s.to⟩
@[simp] theorem stOf_ofSt (s : Station) : stOf (ofSt s) = s := rfl
@[simp] theorem spOf_ofSp (s : Span) : spOf (ofSp s) = s := rfl
@[simp] theorem bdOf_ofBd (s : Band) : bdOf (ofBd s) = s := rfl
@[simp] theorem ofSt_stOf (s : S35) : ofSt (stOf s) = s := rfl
@[simp] theorem ofSp_spOf (s : S39) : ofSp (spOf s) = s := rfl
@[simp] theorem ofBd_bdOf (s : S48) : ofBd (bdOf s) = s := rfl
/-- A tariff whose sizes and bits are some that can be. -/
def _root_.Go.Proofs.Ytmeogadkbbeglaa.Tariff.fits (t : Tariff) : Prop := t.st.length ≤ 140737488351232 ∧ t.sp.length ≤ 140737488351232 ∧ t.pk.length ≤ 140737488351232 ∧ t.off < 18446744073709551616
instance (t : Tariff) : Decidable (Tariff.fits t) := by unfold Tariff.fits; infer_instance
theorem fits_at {w : World} {t : Tariff} {m : TMem} (h : t.At w m) : Tariff.fits t := ⟨h.st.1, h.sp.1, h.pk.1, h.off⟩
theorem at_C {w : World} {t : Tariff} {m : TMem} (h : t.At w m) : Kd.C k35 w m.a1 (t.st.map ofSt).length (t.st.map ofSt) ∧ Kd.C k39 w m.a2 (t.sp.map ofSp).length (t.sp.map ofSp) ∧ Kd.C k48 w m.a3 (t.pk.map ofBd).length (t.pk.map ofBd) :=
  ⟨C_of_sliceAt ofSt h.st (fun x => k35_mk w (ofSt x)) rfl (fun _ => rfl) (by simp), C_of_sliceAt ofSp h.sp (fun x => k39_mk w (ofSp x)) rfl (fun _ => rfl) (by simp), C_of_sliceAt ofBd h.pk (fun x => k48_mk w (ofBd x)) rfl (fun _ => rfl) (by simp)⟩
end Go.Proofs.YtmeogadkbbeglaaQ
namespace Go.Proofs.Ytmeogadkbbeglaa
def spOut : Option Span → Int × Int × Int × Int × Int × Bool
  | some s => (s.frm, s.to, s.single, s.daily, s.weekly, true)
  | none => (0, 0, 0, 0, 0, false)
end Go.Proofs.Ytmeogadkbbeglaa
end
section
namespace Go.Proofs.Ytmeogadkbbeglaa
open Go.RowKit Go.Proofs.YtmeogadkbbeglaaQ Go.Proofs.YtmeogadkbbeglaaW.PrintWords
structure Journey where
  kind : Int
  frm : Int
  dst : Int
  start : Int
  stop : Int
  free : Bool
  deriving DecidableEq
structure Priced where
  j : Journey
  fare : Int
  deriving DecidableEq
structure DayC where
  day : Int
  rail : Int
  bus : Int
  capped : Int
  most : Int
  low : Int
  high : Int
  deriving DecidableEq
structure Tap where
  device : Int
  counter : Int
  token : ByteArray
  kind : Int
  place : Int
  time : Int
  deriving DecidableEq
structure Outage where
  station : Int
  frm : Int
  til : Int
  deriving DecidableEq
structure Bill where
  week : Int
  amount : Int
  deriving DecidableEq
def Journey.vals (j : Journey) : List Value := [.int .i64 j.kind, .int .i64 j.frm, .int .i64 j.dst, .int .i64 j.start, .int .i64 j.stop, .bool j.free]
def Priced.vals (p : Priced) : List Value := p.j.vals ++ [.int .i64 p.fare]
def DayC.vals (d : DayC) : List Value := [.int .i64 d.day, .int .i64 d.rail, .int .i64 d.bus, .int .i64 d.capped, .int .i64 d.most, .int .i64 d.low, .int .i64 d.high]
def Tap.vals (t : Tap) : List Value := [.int .i64 t.device, .int .i64 t.counter, .string t.token, .int .i64 t.kind, .int .i64 t.place, .int .i64 t.time]
def Outage.vals (o : Outage) : List Value := [.int .i64 o.station, .int .i64 o.frm, .int .i64 o.til]
def Bill.vals (b : Bill) : List Value := [.int .i64 b.week, .int .i64 b.amount]
def ofJn (j : Journey) : S50 := ⟨j.kind, j.frm, j.dst, j.start, j.stop, j.free⟩
def jnOf (x : S50) : Journey := ⟨x.f0, x.f1, x.f2, x.f3, x.f4, x.f5⟩
def ofPr (p : Priced) : S55 := ⟨ofJn p.j, p.fare⟩
def prOf (x : S55) : Priced := ⟨jnOf x.f0, x.f1⟩
def ofDy (d : DayC) : S57 := ⟨d.day, d.rail, d.bus, d.capped, d.most, d.low, d.high⟩
def dyOf (x : S57) : DayC := ⟨x.f0, x.f1, x.f2, x.f3, x.f4, x.f5, x.f6⟩
def ofTp (t : Tap) : S78 := ⟨t.device, t.counter, t.token, t.kind, t.place, t.time⟩
def tpOf (x : S78) : Tap := ⟨x.f0, x.f1, x.f2, x.f3, x.f4, x.f5⟩
def ofOu (o : Outage) : S157 := ⟨o.station, o.frm, o.til⟩
def ouOf (x : S157) : Outage := ⟨x.f0, x.f1, x.f2⟩
def ofBl (b : Bill) : S99 := ⟨b.week, b.amount⟩
def blOf (x : S99) : Bill := ⟨x.f0, x.f1⟩
@[simp] theorem jnOf_ofJn (x : Journey) : jnOf (ofJn x) = x := rfl
@[simp] theorem prOf_ofPr (x : Priced) : prOf (ofPr x) = x := rfl
@[simp] theorem dyOf_ofDy (x : DayC) : dyOf (ofDy x) = x := rfl
@[simp] theorem tpOf_ofTp (x : Tap) : tpOf (ofTp x) = x := rfl
@[simp] theorem ouOf_ofOu (x : Outage) : ouOf (ofOu x) = x := rfl
@[simp] theorem blOf_ofBl (x : Bill) : blOf (ofBl x) = x := rfl
@[simp] theorem ofJn_jnOf (x : S50) : ofJn (jnOf x) = x := rfl
@[simp] theorem ofPr_prOf (x : S55) : ofPr (prOf x) = x := rfl
@[simp] theorem ofDy_dyOf (x : S57) : ofDy (dyOf x) = x := rfl
@[simp] theorem ofTp_tpOf (x : S78) : ofTp (tpOf x) = x := rfl
@[simp] theorem ofOu_ouOf (x : S157) : ofOu (ouOf x) = x := rfl
@[simp] theorem ofBl_blOf (x : S99) : ofBl (blOf x) = x := rfl
end Go.Proofs.Ytmeogadkbbeglaa
end
