/- The walk of caps.Day's closure. -/
import Derived.Test.YtmeogadkbbeglaaK17
namespace Go.Proofs.Ytmeogadkbbeglaa
open Go.RowKit Go.Proofs.YtmeogadkbbeglaaQ
set_option linter.unusedVariables false
set_option maxHeartbeats 3200000
set_option maxRecDepth 100000
/-- All of w's blocks but p and q are as they were. -/
structure Spare (p q : Nat) (w w' : World) : Prop where
  os : w'.os = w.os
  tape : w'.tape = w.tape
  output : w'.output = w.output
  size : w.heap.size ≤ w'.heap.size
  block : ∀ k, k < w.heap.size → k ≠ p → k ≠ q → w'.heap[k]? = w.heap[k]?
theorem Spare.of {p q : Nat} {w w' : World} (h : Below w.heap.size w w') : Spare p q w w' := ⟨h.os, h.tape, h.output, h.size, fun k hk _ _ => h.block k hk⟩
theorem Spare.trans {p q : Nat} {a b c : World} (h : Spare p q a b) (k : Spare p q b c) : Spare p q a c :=
  ⟨k.os.trans h.os, k.tape.trans h.tape, k.output.trans h.output, Nat.le_trans h.size k.size, fun i hi h1 h2 => (k.block i (Nat.lt_of_lt_of_le hi h.size) h1 h2).trans (h.block i hi h1 h2)⟩
theorem Spare.set {p q : Nat} {w W : World} (h : Spare p q w W) {a : Addr} (ha : a.block = p ∨ a.block = q) (u : Value) : Spare p q w (W.setCell a u) :=
  have k := bSet (B := 0) (Below.refl 0 W) (p := a) (Nat.zero_le _) u
  ⟨k.os.trans h.os, k.tape.trans h.tape, k.output.trans h.output, Nat.le_trans h.size k.size, fun i hi h1 h2 => (Below.heap_setCell W a u i (by omega)).trans (h.block i hi h1 h2)⟩
theorem Spare.below {p q B : Nat} {w w' : World} (h : Spare p q w w') (hp : B ≤ p) (hq : B ≤ q) (hB : B ≤ w.heap.size) : Below B w w' :=
  ⟨h.os, h.tape, h.output, h.size, fun k hk => h.block k (by omega) (by omega) (by omega)⟩
theorem Box.spare {p q b : Nat} {w w' : World} {cs : Array Value} {T : TypeId} (h : Box w b cs T) (k : Spare p q w w') (h1 : b ≠ p) (h2 : b ≠ q) : Box w' b cs T := (k.block b h.lt h1 h2).trans h
def DAcc.out (a : DAcc) (day : Int) : Array Value := #[.int .i64 day, .int .i64 a.rail, .int .i64 a.bus, .int .i64 0, .int .i64 a.most, .int .i64 0, .int .i64 0]
def DAcc.zs (a : DAcc) : Array Value := #[.int .i64 a.z1, .int .i64 a.z2]
theorem endBelow {p q : Nat} {w W : World} {cs ds : Array Value} {S T : TypeId} (h1 : Box w p cs S) (h2 : Box w q ds T) (h : Below w.heap.size w W) : Box W p cs S ∧ Box W q ds T ∧ Spare p q w W :=
  ⟨h1.below' h, h2.below' h, Spare.of h⟩
theorem take_calls (t : Tariff) (m : TMem) (day : Int) (a : DAcc) (p : Priced) (bd bo bt bz : Nat) (w : World) (hT : t.At w m)
    (HD : Box w bd #[.int .i64 day] 3) (HO : Box w bo (a.out day) 57) (HX : Box w bt (t.cells m) 27) (HZ : Box w bz a.zs 128)
    (n1 : bd ≠ bo) (n2 : bd ≠ bz) (n3 : bt ≠ bo) (n4 : bt ≠ bz) (n5 : bo ≠ bz)
    (r1 : 0 ≤ a.rail ∧ a.rail ≤ 1152921504606846976) (r2 : 0 ≤ a.bus ∧ a.bus ≤ 1152921504606846976) (r3 : 0 ≤ a.most ∧ a.most ≤ 1152921504606846976) :
    Calls Try.prog 96 #[.agg #[.int .i64 p.j.kind, .int .i64 p.j.frm, .int .i64 p.j.dst, .int .i64 p.j.start, .int .i64 p.j.stop, .bool p.j.free, .int .i64 p.fare], .pointer (some ⟨bd, 0, none⟩), .pointer (some ⟨bo, 0, none⟩), .pointer (some ⟨bt, 0, none⟩), .pointer (some ⟨bz, 0, none⟩)] w fun e w' =>
      e = .returned (.int .i64 (dayStep t day a p).1) ∧ Box w' bo ((dayStep t day a p).2.out day) 57 ∧ Box w' bz (dayStep t day a p).2.zs 128 ∧ Spare bo bz w w' := by
  obtain ⟨⟨jk, jf, jd, js, je, jb⟩, fare⟩ := p
  obtain ⟨ra, bu, mo, z1, z2⟩ := a
  simp only at r1 r2 r3 HO HZ ⊢
  have HB := Below.refl w.heap.size w
  have ld := HD.lt
  have lo := HO.lt
  have lt := HX.lt
  have lz := HZ.lt
  have hd : ∀ W, Calls Try.prog 67 #[.int .i64 js] W fun e w' => e = .returned (.tuple #[.int .i64 (dayR js).1, .int .i64 (dayR js).2]) ∧ Below W.heap.size W w' := fun W => (clock_Day.calls js (dayR js).1 (dayR js).2 W (cday_f js)).mono fun _ _ h => ⟨h.1, h.2.below⟩
  by_cases h1 : jk < 1 ∨ 4 < jk
  · have e : dayStep t day ⟨ra, bu, mo, z1, z2⟩ ⟨⟨jk, jf, jd, js, je, jb⟩, fare⟩ = (1, ⟨ra, bu, mo, z1, z2⟩) := by simp only [dayStep, h1, if_true]
    rw [e]
    clear e hd
    rcases h1 with h1 | h1
    all_goals
      go_enter Try.func96, Try.ntmps96
      go_wp2_with fail
      go_ret
      exact ⟨rfl, endBelow HO HZ (by (repeat (first | (with_reducible exact HB) | (with_reducible refine bAlloc ?_ _) | (with_reducible refine bDrewN ?_ _) | (with_reducible refine bDrew ?_) | (with_reducible refine bSet ?_ (by first | exact Nat.le_refl _ | (simp; omega) | omega) _) | (with_reducible refine bThen ?_ (by with_reducible assumption)))))⟩
  · by_cases h2 : fare < 0 ∨ 1048576 < fare
    · have e : dayStep t day ⟨ra, bu, mo, z1, z2⟩ ⟨⟨jk, jf, jd, js, je, jb⟩, fare⟩ = (50, ⟨ra, bu, mo, z1, z2⟩) := by simp only [dayStep, h1, h2, if_true, if_false]
      rw [e]
      clear e hd
      have h1a : ¬ jk < 1 := by omega
      have h1b : ¬ 4 < jk := by omega
      clear h1
      rcases h2 with h2 | h2
      all_goals
        go_enter Try.func96, Try.ntmps96
        go_wp2_with fail
        all_goals try omega
        all_goals
          go_ret
          exact ⟨rfl, endBelow HO HZ (by (repeat (first | (with_reducible exact HB) | (with_reducible refine bAlloc ?_ _) | (with_reducible refine bDrewN ?_ _) | (with_reducible refine bDrew ?_) | (with_reducible refine bSet ?_ (by first | exact Nat.le_refl _ | (simp; omega) | omega) _) | (with_reducible refine bThen ?_ (by with_reducible assumption)))))⟩
    · have h1a : ¬ jk < 1 := by omega
      have h1b : ¬ 4 < jk := by omega
      have h2a : ¬ fare < 0 := by omega
      have h2b : ¬ 1048576 < fare := by omega
      have HO7 : Box w bo #[.int .i64 day, .int .i64 ra, .int .i64 bu, .int .i64 0, .int .i64 mo, .int .i64 0, .int .i64 0] 57 := HO
      have HZ2 : Box w bz #[.int .i64 z1, .int .i64 z2] 128 := HZ
      by_cases h3 : timeB js = false ∨ dayF js ≠ day
      · have e : dayStep t day ⟨ra, bu, mo, z1, z2⟩ ⟨⟨jk, jf, jd, js, je, jb⟩, fare⟩ = (60, ⟨ra, bu, mo, z1, z2⟩) := by simp only [dayStep, h1, h2, h3, if_true, if_false]
        rw [e]
        clear e h1 h2
        cases ht : timeB js
        · simp only [dayR, ht, Bool.false_eq_true, if_false] at hd
          clear h3 ht
          go_enter Try.func96, Try.ntmps96
          go_wp2_with fail
          refine (hd _).mono ?_
          rintro _ wq ⟨rfl, hb⟩
          replace HB : Below w.heap.size w wq := bThen (by (repeat (first | (with_reducible exact HB) | (with_reducible refine bAlloc ?_ _) | (with_reducible refine bDrewN ?_ _) | (with_reducible refine bDrew ?_) | (with_reducible refine bSet ?_ (by first | exact Nat.le_refl _ | (simp; omega) | omega) _) | (with_reducible refine bThen ?_ (by with_reducible assumption))))) hb
          go_wp2_with fail
          go_ret
          exact ⟨rfl, endBelow HO HZ (by (repeat (first | (with_reducible exact HB) | (with_reducible refine bAlloc ?_ _) | (with_reducible refine bDrewN ?_ _) | (with_reducible refine bDrew ?_) | (with_reducible refine bSet ?_ (by first | exact Nat.le_refl _ | (simp; omega) | omega) _) | (with_reducible refine bThen ?_ (by with_reducible assumption)))))⟩
        · simp only [dayR, ht, if_true] at hd
          have hne : dayF js ≠ day := by rcases h3 with h | h; rw [ht] at h; cases h; exact h
          generalize dayF js = on at *
          clear h3 ht
          go_enter Try.func96, Try.ntmps96
          go_wp2_with fail
          refine (hd _).mono ?_
          rintro _ wq ⟨rfl, hb⟩
          replace HB : Below w.heap.size w wq := bThen (by (repeat (first | (with_reducible exact HB) | (with_reducible refine bAlloc ?_ _) | (with_reducible refine bDrewN ?_ _) | (with_reducible refine bDrew ?_) | (with_reducible refine bSet ?_ (by first | exact Nat.le_refl _ | (simp; omega) | omega) _) | (with_reducible refine bThen ?_ (by with_reducible assumption))))) hb
          have HD2 := HD.below' HB
          have HD2a := (HD2).cell 0; have HD2l := (HD2).lt; simp at HD2a
          go_wp2_with fail
          go_ret
          exact ⟨rfl, endBelow HO HZ (by (repeat (first | (with_reducible exact HB) | (with_reducible refine bAlloc ?_ _) | (with_reducible refine bDrewN ?_ _) | (with_reducible refine bDrew ?_) | (with_reducible refine bSet ?_ (by first | exact Nat.le_refl _ | (simp; omega) | omega) _) | (with_reducible refine bThen ?_ (by with_reducible assumption)))))⟩
      · have ht : timeB js = true := by cases h : timeB js; exact absurd (.inl h) h3; rfl
        have hday : dayF js = day := Decidable.byContradiction fun h => h3 (.inr h)
        simp only [dayR, ht, if_true, hday] at hd
        by_cases h4 : jk = 4
        · have e : dayStep t day ⟨ra, bu, mo, z1, z2⟩ ⟨⟨jk, jf, jd, js, je, jb⟩, fare⟩ = (0, ⟨ra, bu + fare, mo, z1, z2⟩) := by simp only [dayStep]; rw [if_neg h1, if_neg h2, if_neg h3, if_pos h4]
          rw [e]
          clear e h1 h2 h3 ht hday
          subst h4
          have HP := (Box.new w #[.int .i64 4, .int .i64 jf, .int .i64 jd, .int .i64 js, .int .i64 je, .bool jb, .int .i64 fare] 55).alloc (.cells #[.int .i64 4, .int .i64 jf, .int .i64 jd, .int .i64 js, .int .i64 je, .bool jb] 50)
          have HJ := Box.new' (w := w.alloc (.cells #[.int .i64 4, .int .i64 jf, .int .i64 jd, .int .i64 js, .int .i64 je, .bool jb, .int .i64 fare] 55)) (b := w.heap.size + 1) (by simp) #[.int .i64 4, .int .i64 jf, .int .i64 jd, .int .i64 js, .int .i64 je, .bool jb] 50
          go_enter Try.func96, Try.ntmps96
          go_wp2_with fail
          refine (hd _).mono ?_
          rintro _ wq ⟨rfl, hb⟩
          replace HP := HP.below' hb
          replace HJ := HJ.below' hb
          replace HB : Below w.heap.size w wq := bThen (by (repeat (first | (with_reducible exact HB) | (with_reducible refine bAlloc ?_ _) | (with_reducible refine bDrewN ?_ _) | (with_reducible refine bDrew ?_) | (with_reducible refine bSet ?_ (by first | exact Nat.le_refl _ | (simp; omega) | omega) _) | (with_reducible refine bThen ?_ (by with_reducible assumption))))) hb
          have HPa := (HP).cell 0; have HPb := (HP).cell 1; have HPc := (HP).cell 2; have HPd := (HP).cell 3; have HPe := (HP).cell 4; have HPf := (HP).cell 5; have HPg := (HP).cell 6; have HPl := (HP).lt; simp at HPa HPb HPc HPd HPe HPf HPg
          have HJa := (HJ).cell 0; have HJb := (HJ).cell 1; have HJc := (HJ).cell 2; have HJd := (HJ).cell 3; have HJe := (HJ).cell 4; have HJf := (HJ).cell 5; have HJl := (HJ).lt; simp at HJa HJb HJc HJd HJe HJf
          have HD2 := HD.below' HB
          have HO2 := HO7.below' HB
          have HZ3 := HZ2.below' HB
          have HX2 := HX.below' HB
          have HD2a := (HD2).cell 0; have HD2l := (HD2).lt; simp at HD2a
          have HO2a := (HO2).cell 0; have HO2b := (HO2).cell 1; have HO2c := (HO2).cell 2; have HO2d := (HO2).cell 3; have HO2e := (HO2).cell 4; have HO2f := (HO2).cell 5; have HO2g := (HO2).cell 6; have HO2l := (HO2).lt; simp at HO2a HO2b HO2c HO2d HO2e HO2f HO2g
          have y2 := HO2.free 2
          go_wp2_with fail
          go_ret
          exact ⟨rfl, (HO2.set 2 _).cast (by simp [DAcc.out]), HZ3.other _ (by show bz ≠ bo; omega) _, Spare.set (p := bo) (q := bz) (Spare.of HB) (by simp) _⟩
        · by_cases h5 : jk = 1
          · skip
            subst h5
            clear h4
            have S1 := fun W h => station_calls t m jf W h
            have S2 := fun W h => station_calls t m jd W h
            have e : dayStep t day ⟨ra, bu, mo, z1, z2⟩ ⟨⟨1, jf, jd, js, je, jb⟩, fare⟩ = (match stFind t.st jf, stFind t.st jd with
                | some x, some y => (0, { rail := ra + fare, bus := bu, most := mo, z1 := (zWith (z1, z2) (mn x.zone y.zone) (mx x.zone y.zone)).1, z2 := (zWith (z1, z2) (mn x.zone y.zone) (mx x.zone y.zone)).2 })
                | _, _ => (1, ⟨ra, bu, mo, z1, z2⟩)) := by simp only [dayStep]; rw [if_neg (by decide), if_neg h2, if_neg h3, if_neg (by decide), if_neg (by decide)]; all_goals (cases stFind t.st jf <;> cases stFind t.st jd <;> rfl)
            rw [e]
            clear e h1 h2 h3 ht hday
            have HP := (Box.new w #[.int .i64 1, .int .i64 jf, .int .i64 jd, .int .i64 js, .int .i64 je, .bool jb, .int .i64 fare] 55).alloc (.cells #[.int .i64 1, .int .i64 jf, .int .i64 jd, .int .i64 js, .int .i64 je, .bool jb] 50)
            have HJ := Box.new' (w := w.alloc (.cells #[.int .i64 1, .int .i64 jf, .int .i64 jd, .int .i64 js, .int .i64 je, .bool jb, .int .i64 fare] 55)) (b := w.heap.size + 1) (by simp) #[.int .i64 1, .int .i64 jf, .int .i64 jd, .int .i64 js, .int .i64 je, .bool jb] 50
            cases hx : stFind t.st jf with
            | none =>
              cases hy : stFind t.st jd with
              | none =>
                rw [hx] at S1
                rw [hy] at S2
                simp only [stRes] at S1 S2
                go_enter Try.func96, Try.ntmps96
                go_wp2_with fail
                refine (hd _).mono ?_
                rintro _ wq ⟨rfl, hb⟩
                replace HP := HP.below' hb
                replace HJ := HJ.below' hb
                replace HB : Below w.heap.size w wq := bThen (by (repeat (first | (with_reducible exact HB) | (with_reducible refine bAlloc ?_ _) | (with_reducible refine bDrewN ?_ _) | (with_reducible refine bDrew ?_) | (with_reducible refine bSet ?_ (by first | exact Nat.le_refl _ | (simp; omega) | omega) _) | (with_reducible refine bThen ?_ (by with_reducible assumption))))) hb
                have HPa := (HP).cell 0; have HPb := (HP).cell 1; have HPc := (HP).cell 2; have HPd := (HP).cell 3; have HPe := (HP).cell 4; have HPf := (HP).cell 5; have HPg := (HP).cell 6; have HPl := (HP).lt; simp at HPa HPb HPc HPd HPe HPf HPg
                have HJa := (HJ).cell 0; have HJb := (HJ).cell 1; have HJc := (HJ).cell 2; have HJd := (HJ).cell 3; have HJe := (HJ).cell 4; have HJf := (HJ).cell 5; have HJl := (HJ).lt; simp at HJa HJb HJc HJd HJe HJf
                have HD2 := HD.below' HB
                have HX2 := HX.below' HB
                have HD2a := (HD2).cell 0; have HD2l := (HD2).lt; simp at HD2a
                obtain ⟨t0, t1, t2, t3, t4, t5, t6, t7, t8, t9, t10, t11, t12, t13⟩ := tcells HX2
                have lt0 := HX2.lt
                go_wp2_with fail
                refine (S1 _ (hT.keep HB)).mono ?_
                rintro _ w3 ⟨rfl, hb3⟩
                clear t0 t1 t2 t3 t4 t5 t6 t7 t8 t9 t10 t11 t12 t13 lt0 HX2 HD2a HD2l HD2 HPa HPb HPc HPd HPe HPf HPg HPl HJa HJb HJc HJd HJe HJf HJl
                replace HP := HP.below' hb3
                replace HJ := HJ.below' hb3
                have HB3 : Below w.heap.size w w3 := bThen HB hb3
                clear hb3
                have HPa := (HP).cell 0; have HPb := (HP).cell 1; have HPc := (HP).cell 2; have HPd := (HP).cell 3; have HPe := (HP).cell 4; have HPf := (HP).cell 5; have HPg := (HP).cell 6; have HPl := (HP).lt; simp at HPa HPb HPc HPd HPe HPf HPg
                have HJa := (HJ).cell 0; have HJb := (HJ).cell 1; have HJc := (HJ).cell 2; have HJd := (HJ).cell 3; have HJe := (HJ).cell 4; have HJf := (HJ).cell 5; have HJl := (HJ).lt; simp at HJa HJb HJc HJd HJe HJf
                have HX2 := HX.below' HB3
                obtain ⟨t0, t1, t2, t3, t4, t5, t6, t7, t8, t9, t10, t11, t12, t13⟩ := tcells HX2
                have lt0 := HX2.lt
                have HF := Box.new w3 #[.int .i64 0, .int .i64 0, .int .i64 0] 35
                have hz := bAlloc (Below.refl w3.heap.size w3) (.cells #[.int .i64 0, .int .i64 0, .int .i64 0] 35)
                go_wp2_with fail
                refine (S2 _ ((hT.keep HB3).keep hz)).mono ?_
                rintro _ w4 ⟨rfl, hb4⟩
                clear t0 t1 t2 t3 t4 t5 t6 t7 t8 t9 t10 t11 t12 t13 lt0 HX2 HPa HPb HPc HPd HPe HPf HPg HPl HJa HJb HJc HJd HJe HJf HJl
                have hz4 := bThen hz hb4
                replace HP := HP.below' hz4
                replace HJ := HJ.below' hz4
                replace HF := HF.below' hb4
                have HB4 : Below w.heap.size w w4 := bThen HB3 hz4
                clear hz hb4 hz4
                have HPa := (HP).cell 0; have HPb := (HP).cell 1; have HPc := (HP).cell 2; have HPd := (HP).cell 3; have HPe := (HP).cell 4; have HPf := (HP).cell 5; have HPg := (HP).cell 6; have HPl := (HP).lt; simp at HPa HPb HPc HPd HPe HPf HPg
                have HFa := (HF).cell 0; have HFb := (HF).cell 1; have HFc := (HF).cell 2; have HFl := (HF).lt; simp at HFa HFb HFc
                have HO2 := HO7.below' HB4
                have HZ3 := HZ2.below' HB4
                have HO2a := (HO2).cell 0; have HO2b := (HO2).cell 1; have HO2c := (HO2).cell 2; have HO2d := (HO2).cell 3; have HO2e := (HO2).cell 4; have HO2f := (HO2).cell 5; have HO2g := (HO2).cell 6; have HO2l := (HO2).lt; simp at HO2a HO2b HO2c HO2d HO2e HO2f HO2g
                have HZ3a := (HZ3).cell 0; have HZ3b := (HZ3).cell 1; have HZ3l := (HZ3).lt; simp at HZ3a HZ3b
                have y1 := HO2.free 1
                have z0 := HZ3.free 0
                have z1' := HZ3.free 1
                go_wp2_with fail
                go_ret
                exact ⟨rfl, endBelow HO HZ (by (repeat (first | (with_reducible exact HB4) | (with_reducible refine bAlloc ?_ _) | (with_reducible refine bDrewN ?_ _) | (with_reducible refine bDrew ?_) | (with_reducible refine bSet ?_ (by first | exact Nat.le_refl _ | (simp; omega) | omega) _) | (with_reducible refine bThen ?_ (by with_reducible assumption)))))⟩
              | some y =>
                rw [hx] at S1
                rw [hy] at S2
                simp only [stRes] at S1 S2
                go_enter Try.func96, Try.ntmps96
                go_wp2_with fail
                refine (hd _).mono ?_
                rintro _ wq ⟨rfl, hb⟩
                replace HP := HP.below' hb
                replace HJ := HJ.below' hb
                replace HB : Below w.heap.size w wq := bThen (by (repeat (first | (with_reducible exact HB) | (with_reducible refine bAlloc ?_ _) | (with_reducible refine bDrewN ?_ _) | (with_reducible refine bDrew ?_) | (with_reducible refine bSet ?_ (by first | exact Nat.le_refl _ | (simp; omega) | omega) _) | (with_reducible refine bThen ?_ (by with_reducible assumption))))) hb
                have HPa := (HP).cell 0; have HPb := (HP).cell 1; have HPc := (HP).cell 2; have HPd := (HP).cell 3; have HPe := (HP).cell 4; have HPf := (HP).cell 5; have HPg := (HP).cell 6; have HPl := (HP).lt; simp at HPa HPb HPc HPd HPe HPf HPg
                have HJa := (HJ).cell 0; have HJb := (HJ).cell 1; have HJc := (HJ).cell 2; have HJd := (HJ).cell 3; have HJe := (HJ).cell 4; have HJf := (HJ).cell 5; have HJl := (HJ).lt; simp at HJa HJb HJc HJd HJe HJf
                have HD2 := HD.below' HB
                have HX2 := HX.below' HB
                have HD2a := (HD2).cell 0; have HD2l := (HD2).lt; simp at HD2a
                obtain ⟨t0, t1, t2, t3, t4, t5, t6, t7, t8, t9, t10, t11, t12, t13⟩ := tcells HX2
                have lt0 := HX2.lt
                go_wp2_with fail
                refine (S1 _ (hT.keep HB)).mono ?_
                rintro _ w3 ⟨rfl, hb3⟩
                clear t0 t1 t2 t3 t4 t5 t6 t7 t8 t9 t10 t11 t12 t13 lt0 HX2 HD2a HD2l HD2 HPa HPb HPc HPd HPe HPf HPg HPl HJa HJb HJc HJd HJe HJf HJl
                replace HP := HP.below' hb3
                replace HJ := HJ.below' hb3
                have HB3 : Below w.heap.size w w3 := bThen HB hb3
                clear hb3
                have HPa := (HP).cell 0; have HPb := (HP).cell 1; have HPc := (HP).cell 2; have HPd := (HP).cell 3; have HPe := (HP).cell 4; have HPf := (HP).cell 5; have HPg := (HP).cell 6; have HPl := (HP).lt; simp at HPa HPb HPc HPd HPe HPf HPg
                have HJa := (HJ).cell 0; have HJb := (HJ).cell 1; have HJc := (HJ).cell 2; have HJd := (HJ).cell 3; have HJe := (HJ).cell 4; have HJf := (HJ).cell 5; have HJl := (HJ).lt; simp at HJa HJb HJc HJd HJe HJf
                have HX2 := HX.below' HB3
                obtain ⟨t0, t1, t2, t3, t4, t5, t6, t7, t8, t9, t10, t11, t12, t13⟩ := tcells HX2
                have lt0 := HX2.lt
                have HF := Box.new w3 #[.int .i64 0, .int .i64 0, .int .i64 0] 35
                have hz := bAlloc (Below.refl w3.heap.size w3) (.cells #[.int .i64 0, .int .i64 0, .int .i64 0] 35)
                go_wp2_with fail
                refine (S2 _ ((hT.keep HB3).keep hz)).mono ?_
                rintro _ w4 ⟨rfl, hb4⟩
                clear t0 t1 t2 t3 t4 t5 t6 t7 t8 t9 t10 t11 t12 t13 lt0 HX2 HPa HPb HPc HPd HPe HPf HPg HPl HJa HJb HJc HJd HJe HJf HJl
                have hz4 := bThen hz hb4
                replace HP := HP.below' hz4
                replace HJ := HJ.below' hz4
                replace HF := HF.below' hb4
                have HB4 : Below w.heap.size w w4 := bThen HB3 hz4
                clear hz hb4 hz4
                have HPa := (HP).cell 0; have HPb := (HP).cell 1; have HPc := (HP).cell 2; have HPd := (HP).cell 3; have HPe := (HP).cell 4; have HPf := (HP).cell 5; have HPg := (HP).cell 6; have HPl := (HP).lt; simp at HPa HPb HPc HPd HPe HPf HPg
                have HFa := (HF).cell 0; have HFb := (HF).cell 1; have HFc := (HF).cell 2; have HFl := (HF).lt; simp at HFa HFb HFc
                have HO2 := HO7.below' HB4
                have HZ3 := HZ2.below' HB4
                have HO2a := (HO2).cell 0; have HO2b := (HO2).cell 1; have HO2c := (HO2).cell 2; have HO2d := (HO2).cell 3; have HO2e := (HO2).cell 4; have HO2f := (HO2).cell 5; have HO2g := (HO2).cell 6; have HO2l := (HO2).lt; simp at HO2a HO2b HO2c HO2d HO2e HO2f HO2g
                have HZ3a := (HZ3).cell 0; have HZ3b := (HZ3).cell 1; have HZ3l := (HZ3).lt; simp at HZ3a HZ3b
                have y1 := HO2.free 1
                have z0 := HZ3.free 0
                have z1' := HZ3.free 1
                go_wp2_with fail
                go_ret
                exact ⟨rfl, endBelow HO HZ (by (repeat (first | (with_reducible exact HB4) | (with_reducible refine bAlloc ?_ _) | (with_reducible refine bDrewN ?_ _) | (with_reducible refine bDrew ?_) | (with_reducible refine bSet ?_ (by first | exact Nat.le_refl _ | (simp; omega) | omega) _) | (with_reducible refine bThen ?_ (by with_reducible assumption)))))⟩
            | some x =>
              cases hy : stFind t.st jd with
              | none =>
                rw [hx] at S1
                rw [hy] at S2
                simp only [stRes] at S1 S2
                go_enter Try.func96, Try.ntmps96
                go_wp2_with fail
                refine (hd _).mono ?_
                rintro _ wq ⟨rfl, hb⟩
                replace HP := HP.below' hb
                replace HJ := HJ.below' hb
                replace HB : Below w.heap.size w wq := bThen (by (repeat (first | (with_reducible exact HB) | (with_reducible refine bAlloc ?_ _) | (with_reducible refine bDrewN ?_ _) | (with_reducible refine bDrew ?_) | (with_reducible refine bSet ?_ (by first | exact Nat.le_refl _ | (simp; omega) | omega) _) | (with_reducible refine bThen ?_ (by with_reducible assumption))))) hb
                have HPa := (HP).cell 0; have HPb := (HP).cell 1; have HPc := (HP).cell 2; have HPd := (HP).cell 3; have HPe := (HP).cell 4; have HPf := (HP).cell 5; have HPg := (HP).cell 6; have HPl := (HP).lt; simp at HPa HPb HPc HPd HPe HPf HPg
                have HJa := (HJ).cell 0; have HJb := (HJ).cell 1; have HJc := (HJ).cell 2; have HJd := (HJ).cell 3; have HJe := (HJ).cell 4; have HJf := (HJ).cell 5; have HJl := (HJ).lt; simp at HJa HJb HJc HJd HJe HJf
                have HD2 := HD.below' HB
                have HX2 := HX.below' HB
                have HD2a := (HD2).cell 0; have HD2l := (HD2).lt; simp at HD2a
                obtain ⟨t0, t1, t2, t3, t4, t5, t6, t7, t8, t9, t10, t11, t12, t13⟩ := tcells HX2
                have lt0 := HX2.lt
                go_wp2_with fail
                refine (S1 _ (hT.keep HB)).mono ?_
                rintro _ w3 ⟨rfl, hb3⟩
                clear t0 t1 t2 t3 t4 t5 t6 t7 t8 t9 t10 t11 t12 t13 lt0 HX2 HD2a HD2l HD2 HPa HPb HPc HPd HPe HPf HPg HPl HJa HJb HJc HJd HJe HJf HJl
                replace HP := HP.below' hb3
                replace HJ := HJ.below' hb3
                have HB3 : Below w.heap.size w w3 := bThen HB hb3
                clear hb3
                have HPa := (HP).cell 0; have HPb := (HP).cell 1; have HPc := (HP).cell 2; have HPd := (HP).cell 3; have HPe := (HP).cell 4; have HPf := (HP).cell 5; have HPg := (HP).cell 6; have HPl := (HP).lt; simp at HPa HPb HPc HPd HPe HPf HPg
                have HJa := (HJ).cell 0; have HJb := (HJ).cell 1; have HJc := (HJ).cell 2; have HJd := (HJ).cell 3; have HJe := (HJ).cell 4; have HJf := (HJ).cell 5; have HJl := (HJ).lt; simp at HJa HJb HJc HJd HJe HJf
                have HX2 := HX.below' HB3
                obtain ⟨t0, t1, t2, t3, t4, t5, t6, t7, t8, t9, t10, t11, t12, t13⟩ := tcells HX2
                have lt0 := HX2.lt
                have HF := Box.new w3 #[.int .i64 x.id, .int .i64 x.zone, .int .i64 x.grp] 35
                have hz := bAlloc (Below.refl w3.heap.size w3) (.cells #[.int .i64 x.id, .int .i64 x.zone, .int .i64 x.grp] 35)
                go_wp2_with fail
                refine (S2 _ ((hT.keep HB3).keep hz)).mono ?_
                rintro _ w4 ⟨rfl, hb4⟩
                clear t0 t1 t2 t3 t4 t5 t6 t7 t8 t9 t10 t11 t12 t13 lt0 HX2 HPa HPb HPc HPd HPe HPf HPg HPl HJa HJb HJc HJd HJe HJf HJl
                have hz4 := bThen hz hb4
                replace HP := HP.below' hz4
                replace HJ := HJ.below' hz4
                replace HF := HF.below' hb4
                have HB4 : Below w.heap.size w w4 := bThen HB3 hz4
                clear hz hb4 hz4
                have HPa := (HP).cell 0; have HPb := (HP).cell 1; have HPc := (HP).cell 2; have HPd := (HP).cell 3; have HPe := (HP).cell 4; have HPf := (HP).cell 5; have HPg := (HP).cell 6; have HPl := (HP).lt; simp at HPa HPb HPc HPd HPe HPf HPg
                have HFa := (HF).cell 0; have HFb := (HF).cell 1; have HFc := (HF).cell 2; have HFl := (HF).lt; simp at HFa HFb HFc
                have HO2 := HO7.below' HB4
                have HZ3 := HZ2.below' HB4
                have HO2a := (HO2).cell 0; have HO2b := (HO2).cell 1; have HO2c := (HO2).cell 2; have HO2d := (HO2).cell 3; have HO2e := (HO2).cell 4; have HO2f := (HO2).cell 5; have HO2g := (HO2).cell 6; have HO2l := (HO2).lt; simp at HO2a HO2b HO2c HO2d HO2e HO2f HO2g
                have HZ3a := (HZ3).cell 0; have HZ3b := (HZ3).cell 1; have HZ3l := (HZ3).lt; simp at HZ3a HZ3b
                have y1 := HO2.free 1
                have z0 := HZ3.free 0
                have z1' := HZ3.free 1
                go_wp2_with fail
                go_ret
                exact ⟨rfl, endBelow HO HZ (by (repeat (first | (with_reducible exact HB4) | (with_reducible refine bAlloc ?_ _) | (with_reducible refine bDrewN ?_ _) | (with_reducible refine bDrew ?_) | (with_reducible refine bSet ?_ (by first | exact Nat.le_refl _ | (simp; omega) | omega) _) | (with_reducible refine bThen ?_ (by with_reducible assumption)))))⟩
              | some y =>
                rw [hx] at S1
                rw [hy] at S2
                simp only [stRes] at S1 S2
                go_enter Try.func96, Try.ntmps96
                go_wp2_with fail
                refine (hd _).mono ?_
                rintro _ wq ⟨rfl, hb⟩
                replace HP := HP.below' hb
                replace HJ := HJ.below' hb
                replace HB : Below w.heap.size w wq := bThen (by (repeat (first | (with_reducible exact HB) | (with_reducible refine bAlloc ?_ _) | (with_reducible refine bDrewN ?_ _) | (with_reducible refine bDrew ?_) | (with_reducible refine bSet ?_ (by first | exact Nat.le_refl _ | (simp; omega) | omega) _) | (with_reducible refine bThen ?_ (by with_reducible assumption))))) hb
                have HPa := (HP).cell 0; have HPb := (HP).cell 1; have HPc := (HP).cell 2; have HPd := (HP).cell 3; have HPe := (HP).cell 4; have HPf := (HP).cell 5; have HPg := (HP).cell 6; have HPl := (HP).lt; simp at HPa HPb HPc HPd HPe HPf HPg
                have HJa := (HJ).cell 0; have HJb := (HJ).cell 1; have HJc := (HJ).cell 2; have HJd := (HJ).cell 3; have HJe := (HJ).cell 4; have HJf := (HJ).cell 5; have HJl := (HJ).lt; simp at HJa HJb HJc HJd HJe HJf
                have HD2 := HD.below' HB
                have HX2 := HX.below' HB
                have HD2a := (HD2).cell 0; have HD2l := (HD2).lt; simp at HD2a
                obtain ⟨t0, t1, t2, t3, t4, t5, t6, t7, t8, t9, t10, t11, t12, t13⟩ := tcells HX2
                have lt0 := HX2.lt
                go_wp2_with fail
                refine (S1 _ (hT.keep HB)).mono ?_
                rintro _ w3 ⟨rfl, hb3⟩
                clear t0 t1 t2 t3 t4 t5 t6 t7 t8 t9 t10 t11 t12 t13 lt0 HX2 HD2a HD2l HD2 HPa HPb HPc HPd HPe HPf HPg HPl HJa HJb HJc HJd HJe HJf HJl
                replace HP := HP.below' hb3
                replace HJ := HJ.below' hb3
                have HB3 : Below w.heap.size w w3 := bThen HB hb3
                clear hb3
                have HPa := (HP).cell 0; have HPb := (HP).cell 1; have HPc := (HP).cell 2; have HPd := (HP).cell 3; have HPe := (HP).cell 4; have HPf := (HP).cell 5; have HPg := (HP).cell 6; have HPl := (HP).lt; simp at HPa HPb HPc HPd HPe HPf HPg
                have HJa := (HJ).cell 0; have HJb := (HJ).cell 1; have HJc := (HJ).cell 2; have HJd := (HJ).cell 3; have HJe := (HJ).cell 4; have HJf := (HJ).cell 5; have HJl := (HJ).lt; simp at HJa HJb HJc HJd HJe HJf
                have HX2 := HX.below' HB3
                obtain ⟨t0, t1, t2, t3, t4, t5, t6, t7, t8, t9, t10, t11, t12, t13⟩ := tcells HX2
                have lt0 := HX2.lt
                have HF := Box.new w3 #[.int .i64 x.id, .int .i64 x.zone, .int .i64 x.grp] 35
                have hz := bAlloc (Below.refl w3.heap.size w3) (.cells #[.int .i64 x.id, .int .i64 x.zone, .int .i64 x.grp] 35)
                go_wp2_with fail
                refine (S2 _ ((hT.keep HB3).keep hz)).mono ?_
                rintro _ w4 ⟨rfl, hb4⟩
                clear t0 t1 t2 t3 t4 t5 t6 t7 t8 t9 t10 t11 t12 t13 lt0 HX2 HPa HPb HPc HPd HPe HPf HPg HPl HJa HJb HJc HJd HJe HJf HJl
                have hz4 := bThen hz hb4
                replace HP := HP.below' hz4
                replace HJ := HJ.below' hz4
                replace HF := HF.below' hb4
                have HB4 : Below w.heap.size w w4 := bThen HB3 hz4
                clear hz hb4 hz4
                have HPa := (HP).cell 0; have HPb := (HP).cell 1; have HPc := (HP).cell 2; have HPd := (HP).cell 3; have HPe := (HP).cell 4; have HPf := (HP).cell 5; have HPg := (HP).cell 6; have HPl := (HP).lt; simp at HPa HPb HPc HPd HPe HPf HPg
                have HFa := (HF).cell 0; have HFb := (HF).cell 1; have HFc := (HF).cell 2; have HFl := (HF).lt; simp at HFa HFb HFc
                have HO2 := HO7.below' HB4
                have HZ3 := HZ2.below' HB4
                have HO2a := (HO2).cell 0; have HO2b := (HO2).cell 1; have HO2c := (HO2).cell 2; have HO2d := (HO2).cell 3; have HO2e := (HO2).cell 4; have HO2f := (HO2).cell 5; have HO2g := (HO2).cell 6; have HO2l := (HO2).lt; simp at HO2a HO2b HO2c HO2d HO2e HO2f HO2g
                have HZ3a := (HZ3).cell 0; have HZ3b := (HZ3).cell 1; have HZ3l := (HZ3).lt; simp at HZ3a HZ3b
                have y1 := HO2.free 1
                have z0 := HZ3.free 0
                have z1' := HZ3.free 1
                have HG := Box.new w4 #[.int .i64 y.id, .int .i64 y.zone, .int .i64 y.grp] 35
                have s3 := HB3.size
                have s4 := HB4.size
                have nF : w3.heap.size ≠ bo := by omega
                have nF' : bo ≠ w3.heap.size := by omega
                have hz := bAlloc (Below.refl w4.heap.size w4) (.cells #[.int .i64 y.id, .int .i64 y.zone, .int .i64 y.grp] 35)
                go_wp2_with fail
                all_goals
                  refine (with_calls _ _ _ _ _).mono ?_
                  rintro _ w6 ⟨rfl, hb6⟩
                  have HZ5 := ((HZ3.other ⟨bo, 1, none⟩ (by show bz ≠ bo; omega) (.int .i64 (ra + fare))).alloc (.cells #[.int .i64 y.id, .int .i64 y.zone, .int .i64 y.grp] 35)).below' hb6
                  have HO5 := ((HO2.set 1 (.int .i64 (ra + fare))).alloc (.cells #[.int .i64 y.id, .int .i64 y.zone, .int .i64 y.grp] 35)).below' hb6
                  have SP := ((Spare.set (p := bo) (q := bz) (Spare.of HB4) (a := ⟨bo, 1, none⟩) (by simp) (.int .i64 (ra + fare))).trans (Spare.of (bAlloc (Below.refl _ _) (.cells #[.int .i64 y.id, .int .i64 y.zone, .int .i64 y.grp] 35)))).trans (Spare.of hb6)
                  have HZ5a := (HZ5).cell 0; have HZ5b := (HZ5).cell 1; have HZ5l := (HZ5).lt; simp at HZ5a HZ5b
                  have z0 := HZ5.free 0
                  have z1' := HZ5.free 1
                  go_wp2_with fail
                  go_ret
                  refine ⟨rfl, ?_, ?_, ?_⟩
                  · exact ((HO5.other ⟨bz, 0, none⟩ (by show bo ≠ bz; omega) _).other ⟨bz, 1, none⟩ (by show bo ≠ bz; omega) _).cast (by simp [DAcc.out])
                  · exact ((HZ5.set 0 _).set 1 _).cast (by simp only [DAcc.zs, mn, mx]; simp; grind)
                  · exact Spare.set (p := bo) (q := bz) (Spare.set (p := bo) (q := bz) SP (by simp) _) (by simp) _
          · have e : dayStep t day ⟨ra, bu, mo, z1, z2⟩ ⟨⟨jk, jf, jd, js, je, jb⟩, fare⟩ = (0, ⟨ra, bu, mo + fare, z1, z2⟩) := by simp only [dayStep, h1, h2, h3, h4, h5, if_true, if_false, ne_eq, not_false_eq_true]
            rw [e]
            clear e h1 h2 h3 ht hday
            obtain rfl | rfl : jk = 2 ∨ jk = 3 := by omega
            · skip
              have HP := (Box.new w #[.int .i64 2, .int .i64 jf, .int .i64 jd, .int .i64 js, .int .i64 je, .bool jb, .int .i64 fare] 55).alloc (.cells #[.int .i64 2, .int .i64 jf, .int .i64 jd, .int .i64 js, .int .i64 je, .bool jb] 50)
              have HJ := Box.new' (w := w.alloc (.cells #[.int .i64 2, .int .i64 jf, .int .i64 jd, .int .i64 js, .int .i64 je, .bool jb, .int .i64 fare] 55)) (b := w.heap.size + 1) (by simp) #[.int .i64 2, .int .i64 jf, .int .i64 jd, .int .i64 js, .int .i64 je, .bool jb] 50
              go_enter Try.func96, Try.ntmps96
              go_wp2_with fail
              refine (hd _).mono ?_
              rintro _ wq ⟨rfl, hb⟩
              replace HP := HP.below' hb
              replace HJ := HJ.below' hb
              replace HB : Below w.heap.size w wq := bThen (by (repeat (first | (with_reducible exact HB) | (with_reducible refine bAlloc ?_ _) | (with_reducible refine bDrewN ?_ _) | (with_reducible refine bDrew ?_) | (with_reducible refine bSet ?_ (by first | exact Nat.le_refl _ | (simp; omega) | omega) _) | (with_reducible refine bThen ?_ (by with_reducible assumption))))) hb
              have HPa := (HP).cell 0; have HPb := (HP).cell 1; have HPc := (HP).cell 2; have HPd := (HP).cell 3; have HPe := (HP).cell 4; have HPf := (HP).cell 5; have HPg := (HP).cell 6; have HPl := (HP).lt; simp at HPa HPb HPc HPd HPe HPf HPg
              have HJa := (HJ).cell 0; have HJb := (HJ).cell 1; have HJc := (HJ).cell 2; have HJd := (HJ).cell 3; have HJe := (HJ).cell 4; have HJf := (HJ).cell 5; have HJl := (HJ).lt; simp at HJa HJb HJc HJd HJe HJf
              have HD2 := HD.below' HB
              have HO2 := HO7.below' HB
              have HZ3 := HZ2.below' HB
              have HX2 := HX.below' HB
              have HD2a := (HD2).cell 0; have HD2l := (HD2).lt; simp at HD2a
              have HO2a := (HO2).cell 0; have HO2b := (HO2).cell 1; have HO2c := (HO2).cell 2; have HO2d := (HO2).cell 3; have HO2e := (HO2).cell 4; have HO2f := (HO2).cell 5; have HO2g := (HO2).cell 6; have HO2l := (HO2).lt; simp at HO2a HO2b HO2c HO2d HO2e HO2f HO2g
              have y4 := HO2.free 4
              go_wp2_with fail
              go_ret
              exact ⟨rfl, (HO2.set 4 _).cast (by simp [DAcc.out]), HZ3.other _ (by show bz ≠ bo; omega) _, Spare.set (p := bo) (q := bz) (Spare.of HB) (by simp) _⟩
            · skip
              have HP := (Box.new w #[.int .i64 3, .int .i64 jf, .int .i64 jd, .int .i64 js, .int .i64 je, .bool jb, .int .i64 fare] 55).alloc (.cells #[.int .i64 3, .int .i64 jf, .int .i64 jd, .int .i64 js, .int .i64 je, .bool jb] 50)
              have HJ := Box.new' (w := w.alloc (.cells #[.int .i64 3, .int .i64 jf, .int .i64 jd, .int .i64 js, .int .i64 je, .bool jb, .int .i64 fare] 55)) (b := w.heap.size + 1) (by simp) #[.int .i64 3, .int .i64 jf, .int .i64 jd, .int .i64 js, .int .i64 je, .bool jb] 50
              go_enter Try.func96, Try.ntmps96
              go_wp2_with fail
              refine (hd _).mono ?_
              rintro _ wq ⟨rfl, hb⟩
              replace HP := HP.below' hb
              replace HJ := HJ.below' hb
              replace HB : Below w.heap.size w wq := bThen (by (repeat (first | (with_reducible exact HB) | (with_reducible refine bAlloc ?_ _) | (with_reducible refine bDrewN ?_ _) | (with_reducible refine bDrew ?_) | (with_reducible refine bSet ?_ (by first | exact Nat.le_refl _ | (simp; omega) | omega) _) | (with_reducible refine bThen ?_ (by with_reducible assumption))))) hb
              have HPa := (HP).cell 0; have HPb := (HP).cell 1; have HPc := (HP).cell 2; have HPd := (HP).cell 3; have HPe := (HP).cell 4; have HPf := (HP).cell 5; have HPg := (HP).cell 6; have HPl := (HP).lt; simp at HPa HPb HPc HPd HPe HPf HPg
              have HJa := (HJ).cell 0; have HJb := (HJ).cell 1; have HJc := (HJ).cell 2; have HJd := (HJ).cell 3; have HJe := (HJ).cell 4; have HJf := (HJ).cell 5; have HJl := (HJ).lt; simp at HJa HJb HJc HJd HJe HJf
              have HD2 := HD.below' HB
              have HO2 := HO7.below' HB
              have HZ3 := HZ2.below' HB
              have HX2 := HX.below' HB
              have HD2a := (HD2).cell 0; have HD2l := (HD2).lt; simp at HD2a
              have HO2a := (HO2).cell 0; have HO2b := (HO2).cell 1; have HO2c := (HO2).cell 2; have HO2d := (HO2).cell 3; have HO2e := (HO2).cell 4; have HO2f := (HO2).cell 5; have HO2g := (HO2).cell 6; have HO2l := (HO2).lt; simp at HO2a HO2b HO2c HO2d HO2e HO2f HO2g
              have y4 := HO2.free 4
              go_wp2_with fail
              go_ret
              exact ⟨rfl, (HO2.set 4 _).cast (by simp [DAcc.out]), HZ3.other _ (by show bz ≠ bo; omega) _, Spare.set (p := bo) (q := bz) (Spare.of HB) (by simp) _⟩
end Go.Proofs.Ytmeogadkbbeglaa
