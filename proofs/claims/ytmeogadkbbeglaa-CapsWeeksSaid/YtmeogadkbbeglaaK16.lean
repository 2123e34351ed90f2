/- What the claim's walk leans on: U07, W18. -/
import Derived.Test.YtmeogadkbbeglaaH3
import Derived.Test.YtmeogadkbbeglaaK4
import Derived.Test.YtmeogadkbbeglaaK15
import Derived.Test.YtmeogadkbbeglaaK13
import Derived.Test.YtmeogadkbbeglaaH2
import Derived.Test.YtmeogadkbbeglaaK6
import Derived.Test.YtmeogadkbbeglaaK3
import Derived.Test.YtmeogadkbbeglaaK5
section
namespace Go.Proofs.Ytmeogadkbbeglaa
open Go.RowKit Go.Proofs.YtmeogadkbbeglaaQ Go.Proofs.YtmeogadkbbeglaaW.PrintWords Go.Proofs.YtmeogadkbbeglaaW.PrintLast Go.Proofs.YtmeogadkbbeglaaW.PrintMore
set_option linter.unusedVariables false
set_option linter.unusedSimpArgs false
theorem rd_st (l : List Station) (i : Nat) (h : i < l.length) : rd_T35 (l.map ofSt) i = ofSt l[i] := by
  simp [rd_T35, List.getD_eq_getElem?_getD, h]
theorem rd_sp (l : List Span) (i : Nat) (h : i < l.length) : rd_T39 (l.map ofSp) i = ofSp l[i] := by
  simp [rd_T39, List.getD_eq_getElem?_getD, h]
theorem rd_bd (l : List Band) (i : Nat) (h : i < l.length) : rd_T48 (l.map ofBd) i = ofBd l[i] := by
  simp [rd_T48, List.getD_eq_getElem?_getD, h]
theorem wrap_up {i : Nat} (h : i < 9223372036854775807) : wrap64 ((i : Int) + 1) = ((i + 1 : Nat) : Int) := by unfold wrap64; omega
theorem wrap_down {i : Nat} (h : 0 < i) (h2 : i < 9223372036854775807) : wrap64 ((i : Int) - 1) = ((i - 1 : Nat) : Int) := by unfold wrap64; omega
theorem ite_out {α : Type} {c : Prop} [Decidable c] {a b x : α} (h1 : c → a = x) (h2 : ¬ c → b = x) : (if c then a else b) = x := by
  split
  · exact h1 ‹_›
  · exact h2 ‹_›
def stRet : Option Int → Int × Bool
  | some m => (m, true)
  | none => (0, false)
theorem stations_l (l : List Station) (hl : l.length ≤ 200) : ∀ (d i : Nat) (most ahead : Int), i + d = l.length → 0 ≤ ahead → (i = 0 → ahead = 0) → (∀ h : 0 < i, ∃ h2 : i - 1 < l.length, l[i - 1].id = ahead) →
    Ev (fun k => fareboxref07_stations.l0 k (l.map ofSt) most (i : Int)) (stRet (stGo (l.drop i) most ahead))
  | 0, i, most, ahead, hd, h0, hz, hp => by
    refine Ev.step (f := fun _ => some (most, true)) (fun k => ?_) ?_
    · simp only [fareboxref07_stations.l0, List.length_map]
      rw [if_neg (by omega)]
    · rw [List.drop_of_length_le (by omega)]; exact Ev.now _
  | d + 1, i, most, ahead, hd, h0, hz, hp => by
    have hi : i < l.length := by omega
    have hr := rd_st l i hi
    rw [drop_cons hi]
    by_cases hok : stOk ahead l[i] = true
    · have hc : (ahead < l[i].id ∧ l[i].id ≤ 65535) ∧ (1 ≤ l[i].zone ∧ l[i].zone ≤ 9) ∧ (0 ≤ l[i].grp ∧ l[i].grp ≤ 65535) := by
        simp [stOk, inB] at hok; omega
      simp only [stGo, hok, if_true]
      refine Ev.step (f := fun k => fareboxref07_stations.l0 k (l.map ofSt) (if most < l[i].zone then l[i].zone else most) ((i + 1 : Nat) : Int)) (fun k => ?_) (stations_l l hl d (i + 1) (if most < l[i].zone then l[i].zone else most) l[i].id (by omega) (by omega) (by omega) (fun _ => ⟨by simpa using hi, by simp⟩))
      rcases Nat.eq_zero_or_pos i with rfl | hpos
      · simp only [fareboxref07_stations.l0, List.length_map, hr, ofSt, wrap_up (i := 0) (by omega)]
        rw [if_pos (by omega), if_pos (by omega), if_neg (by omega), if_neg (by omega), if_neg (by omega), if_neg (by omega), if_neg (by omega), if_neg (by omega), if_neg (by omega)]
        rfl
      · obtain ⟨h2, e2⟩ := hp hpos
        simp only [fareboxref07_stations.l0, List.length_map, hr, wrap_up (i := i) (by omega), wrap_down hpos (by omega), rd_st l (i - 1) h2, ofSt, e2]
        rw [if_pos (by omega), if_pos (by omega), if_neg (by omega), if_neg (by omega), if_pos (by omega), if_pos (by omega), if_pos (by omega), if_neg (by omega), if_neg (by omega), if_neg (by omega), if_neg (by omega), if_neg (by omega)]
        rfl
    · have hc : ¬ ((ahead < l[i].id ∧ l[i].id ≤ 65535) ∧ (1 ≤ l[i].zone ∧ l[i].zone ≤ 9) ∧ (0 ≤ l[i].grp ∧ l[i].grp ≤ 65535)) := by
        simp [stOk, inB] at hok; omega
      simp only [stGo, hok]
      refine Ev.step (f := fun k => some (0, false)) (fun k => ?_) (Ev.now _)
      rcases Nat.eq_zero_or_pos i with rfl | hpos
      · have := hz rfl
        simp only [fareboxref07_stations.l0, List.length_map, hr, ofSt, wrap_up (i := 0) (by omega)]
        rw [if_pos (by omega), if_pos (by omega)]
        repeat' refine ite_out (fun _ => ?_) (fun _ => ?_)
        all_goals first | rfl | (exfalso; omega)
      · obtain ⟨h2, e2⟩ := hp hpos
        simp only [fareboxref07_stations.l0, List.length_map, hr, wrap_up (i := i) (by omega), wrap_down hpos (by omega), rd_st l (i - 1) h2, ofSt, e2]
        rw [if_pos (by omega), if_pos (by omega)]
        repeat' refine ite_out (fun _ => ?_) (fun _ => ?_)
        all_goals first | rfl | (exfalso; omega)
theorem stations_ev (l : List Station) : Ev (fun k => fareboxref07_stations.f k (l.map ofSt)) (stRet (stationsF l)) := by
  unfold stationsF
  by_cases h : l.length ≤ 200
  · rw [if_pos h]
    refine Ev.congr (fun k => ?_) (stations_l l h l.length 0 1 0 (by omega) (by omega) (fun _ => rfl) (fun h => absurd h (by omega)))
    simp only [fareboxref07_stations.f, List.length_map]
    rw [if_neg (by omega)]
    rfl
  · rw [if_neg h]
    refine Ev.congr (fun k => ?_) (Ev.now _)
    simp only [fareboxref07_stations.f, List.length_map]
    rw [if_pos (by omega)]
    rfl
def tri : Nat → Nat
  | 0 => 0
  | d + 1 => tri d + (d + 1)
theorem tri_eq : ∀ d : Nat, 2 * tri d = d * (d + 1)
  | 0 => rfl
  | d + 1 => by have := tri_eq d; simp only [tri]; rw [Nat.mul_add, this]; simp only [Nat.mul_add, Nat.add_mul]; omega
def spTail (L : List Span) (f t most : Nat) : Bool :=
  if t ≤ most then decide (L.length = most + 1 - t + tri (most - f)) && spGo L f t most
  else decide (L.length = tri (most - f)) && spGo L ((f : Int) + 1) ((f : Int) + 1) most
theorem spans_l (l : List Span) (most : Nat) (h9 : most ≤ 9) (hl : l.length ≤ 140737488351232) : ∀ (m f t n : Nat), 1 ≤ f → f ≤ most → f ≤ t → t ≤ most + 1 → n ≤ l.length → (most - f) * 20 + (most + 1 - t) ≤ m →
    Ev (fun k => fareboxref07_spans.l1 k (l.map ofSp) most n f t) (spTail (l.drop n) f t most)
  | m, f, t, n, h1, hf, hft, ht, hn, hm => by
    by_cases hle : t ≤ most
    · rcases Nat.lt_or_ge n l.length with hlt | hge
      · have hr := rd_sp l n hlt
        have hb0 : (0 : Int) ≤ (n : Int) := by omega
        by_cases he : l[n].frm = (f : Int) ∧ l[n].to = (t : Int)
        · cases m with
          | zero => omega
          | succ m =>
          refine Ev.step (f := fun k => fareboxref07_spans.l1 k (l.map ofSp) most ((n + 1 : Nat) : Int) f ((t + 1 : Nat) : Int)) (fun k => ?_) ?_
          · simp only [fareboxref07_spans.l1, List.length_map, hr, ofSp, wrap_up (i := n) (by omega), wrap_up (i := t) (by omega)]
            rw [if_pos (by omega), if_neg (by omega), if_pos hb0, if_pos (by omega), if_pos he.1, if_pos he.2]
          · have ih := spans_l l most h9 hl m f (t + 1) (n + 1) h1 hf (by omega) (by omega) (by omega) (by omega)
            have e : spTail (l.drop n) f t most = spTail (l.drop (n + 1)) f (t + 1) most := by
              unfold spTail
              rw [if_pos hle, drop_cons hlt]
              simp only [spGo, he, if_true, and_self, List.length_cons, List.length_drop]
              by_cases h2 : t + 1 ≤ most
              · rw [if_pos h2, if_neg (by omega)]
                congr 1
                apply decide_eq_decide.2; omega
              · rw [if_neg h2, if_pos (by omega)]
                congr 1
                apply decide_eq_decide.2; omega
            rw [e]
            exact ih
        · refine Ev.step (f := fun k => some false) (fun k => ?_) ?_
          · simp only [fareboxref07_spans.l1, List.length_map, hr, ofSp, wrap_up (i := n) (by omega), wrap_up (i := t) (by omega)]
            rw [if_pos (by omega), if_neg (by omega), if_pos hb0, if_pos (by omega)]
            refine ite_out (fun ha => ?_) (fun _ => rfl)
            refine ite_out (fun hb => absurd ⟨ha, hb⟩ he) (fun _ => rfl)
          · have e : spTail (l.drop n) f t most = false := by
              unfold spTail
              rw [if_pos hle, drop_cons hlt]
              simp only [spGo, he, if_false, Bool.and_false]
            rw [e]; exact Ev.now _
      · refine Ev.step (f := fun k => some false) (fun k => ?_) ?_
        · simp only [fareboxref07_spans.l1, List.length_map]
          rw [if_pos (by omega), if_pos (by omega)]
        · have e : spTail (l.drop n) f t most = false := by
            unfold spTail
            rw [if_pos hle, List.drop_of_length_le hge]
            have : ¬ (([] : List Span).length = most + 1 - t + tri (most - f)) := by simp; omega
            rw [decide_eq_false this, Bool.false_and]
          rw [e]; exact Ev.now _
    · refine Ev.step (f := fun k => fareboxref07_spans.l0 k (l.map ofSp) most n ((f + 1 : Nat) : Int)) (fun k => ?_) ?_
      · simp only [fareboxref07_spans.l1, wrap_up (i := f) (by omega)]
        rw [if_neg (by omega)]
      · by_cases hz : f = most
        · subst hz
          refine Ev.step (f := fun k => some ((n : Int) == (l.length : Int))) (fun k => ?_) ?_
          · simp only [fareboxref07_spans.l0, List.length_map]
            rw [if_neg (by omega)]
          · have e : spTail (l.drop n) f t f = ((n : Int) == (l.length : Int)) := by
              unfold spTail
              rw [if_neg hle, Nat.sub_self, List.length_drop]
              rcases Nat.lt_or_ge n l.length with h | h
              · rw [decide_eq_false (by simp only [tri]; omega), Bool.false_and]; symm; simp; omega
              · obtain rfl : n = l.length := by omega
                simp [tri, spGo]
            rw [e]; exact Ev.now _
        · cases m with
          | zero => omega
          | succ m =>
          refine Ev.step (f := fun k => fareboxref07_spans.l1 k (l.map ofSp) most n ((f + 1 : Nat) : Int) ((f + 1 : Nat) : Int)) (fun k => ?_) ?_
          · simp only [fareboxref07_spans.l0]
            rw [if_pos (by omega)]
          · have ih := spans_l l most h9 hl m (f + 1) (f + 1) n (by omega) (by omega) (by omega) (by omega) hn (by omega)
            have e : spTail (l.drop n) f t most = spTail (l.drop n) (f + 1) (f + 1) most := by
              unfold spTail
              rw [if_neg hle, if_pos (by omega)]
              congr 1
              apply decide_eq_decide.2
              rw [show most - f = (most - (f + 1)) + 1 from by omega]
              simp only [tri]
              omega
            rw [e]; exact ih
  termination_by m => m
theorem spans_ev (l : List Span) (m : Int) (h1 : 1 ≤ m) (h9 : m ≤ 9) (hl : l.length ≤ 140737488351232) : Ev (fun k => fareboxref07_spans.f k (l.map ofSp) m) (spansF l m) := by
  obtain ⟨most, rfl⟩ : ∃ n : Nat, m = n := ⟨m.toNat, by omega⟩
  have h := spans_l l most (by omega) hl ((most - 1) * 20 + (most + 1 - 1)) 1 1 0 (by omega) (by omega) (by omega) (by omega) (by omega) (by omega)
  refine Ev.congr (fun k => ?_) (g := fun k => fareboxref07_spans.f k (l.map ofSp) most) (f := fun k => fareboxref07_spans.l0 k (l.map ofSp) most 0 1) ?_
  · rfl
  · refine Ev.step (fun k => ?_) (f := fun k => fareboxref07_spans.l1 k (l.map ofSp) most ((0 : Nat) : Int) ((1 : Nat) : Int) ((1 : Nat) : Int)) ?_
    · simp only [fareboxref07_spans.l0]
      rw [if_pos (by omega)]
      rfl
    · have e : spTail (l.drop 0) 1 1 most = spansF l most := by
        have e2 := tri_eq most
        have e3 : tri most = most + tri (most - 1) := by
          cases most with
          | zero => omega
          | succ q => simp only [tri, Nat.add_sub_cancel]; omega
        unfold spTail spansF
        rw [if_pos (by omega), List.drop_zero]
        have : ((most : Int) * ((most : Int) + 1)) = ((2 * tri most : Nat) : Int) := by rw [e2]; simp
        rw [this]
        by_cases hh : l.length = tri most
        · rw [if_pos (by omega), decide_eq_true (by omega), Bool.true_and]; rfl
        · rw [if_neg (by omega), decide_eq_false (by omega), Bool.false_and]
      rw [← e]; exact h
theorem spans_len {l : List Span} {m : Int} (h1 : 1 ≤ m) (h9 : m ≤ 9) (h : spansF l m = true) : l.length ≤ 45 := by
  unfold spansF at h
  split at h
  · rename_i hh
    have : m * (m + 1) ≤ 9 * 10 := Int.mul_le_mul (by omega) (by omega) (by omega) (by omega)
    omega
  · cases h
theorem price_f (n : Int) : fareboxref07_price.f n = some (priceB n) := by
  unfold fareboxref07_price.f priceB inB
  by_cases h : n ≥ 0
  · rw [if_pos h]; congr 1; apply decide_eq_decide.2; omega
  · rw [if_neg h]; congr 1; symm; apply decide_eq_false; omega
theorem rd_nat (l : List Int) (i : Nat) (h : i < l.length) : rd l (i : Int) = l[i] := by
  simp [rd, List.getD_eq_getElem?_getD, h]
theorem prices_l1 (x : List Int) (hx : x.length ≤ 1000) : ∀ (d i : Nat), i + d = x.length → Ev (fun k => fareboxref07_prices.l1 k x i) ((x.drop i).all priceB)
  | 0, i, hd => by
    refine Ev.step (f := fun _ => some true) (fun k => ?_) ?_
    · simp only [fareboxref07_prices.l1]
      rw [if_neg (by omega)]
    · rw [List.drop_of_length_le (by omega)]; exact Ev.now _
  | d + 1, i, hd => by
    have hi : i < x.length := by omega
    rw [drop_cons hi, List.all_cons]
    cases hp : priceB x[i]
    · refine Ev.step (f := fun _ => some false) (fun k => ?_) (by simpa using Ev.now _)
      simp only [fareboxref07_prices.l1, rd_nat x i hi, price_f, Option.bind_some, hp]
      rw [if_pos (by omega), if_pos (by omega)]
      rfl
    · rw [Bool.true_and]
      refine Ev.step (f := fun k => fareboxref07_prices.l1 k x ((i + 1 : Nat) : Int)) (fun k => ?_) (prices_l1 x hx d (i + 1) (by omega))
      simp only [fareboxref07_prices.l1, rd_nat x i hi, price_f, Option.bind_some, hp, if_true, wrap_up (i := i) (by omega)]
      rw [if_pos (by omega), if_pos (by omega)]
theorem prices_l0 (a : List S35) (l : List Span) (b : List S48) (a3 : Nat) (a4 a5 a6 a7 a8 a9 a10 a11 a12 a13 : Int) (hl : l.length ≤ 45) : ∀ (d i : Nat) (x : List Int), i + d = l.length → x.length ≤ 5 + 3 * i →
    Ev (fun k => fareboxref07_prices.l0 k x i a (l.map ofSp) b a3 a4 a5 a6 a7 a8 a9 a10 a11 a12 a13) (x.all priceB && (l.drop i).all spPrice)
  | 0, i, x, hd, hx => by
    refine Ev.step (f := fun k => fareboxref07_prices.l1 k x ((0 : Nat) : Int)) (fun k => ?_) ?_
    · simp only [fareboxref07_prices.l0, List.length_map]
      rw [if_neg (by omega)]
      rfl
    · rw [List.drop_of_length_le (by omega)]
      have := prices_l1 x (by omega) x.length 0 (by omega)
      simpa using this
  | d + 1, i, x, hd, hx => by
    have hi : i < l.length := by omega
    rw [drop_cons hi, List.all_cons]
    refine Ev.step (f := fun k => fareboxref07_prices.l0 k (x ++ [l[i].single, l[i].daily, l[i].weekly]) ((i + 1 : Nat) : Int) a (l.map ofSp) b a3 a4 a5 a6 a7 a8 a9 a10 a11 a12 a13) (fun k => ?_) ?_
    · simp only [fareboxref07_prices.l0, List.length_map, rd_sp l i hi, ofSp, Option.bind_some, wrap_up (i := i) (by omega), List.length_cons, List.length_nil]
      rw [if_pos (by omega), if_pos (by omega), if_pos (by omega)]
    · have := prices_l0 a l b a3 a4 a5 a6 a7 a8 a9 a10 a11 a12 a13 hl d (i + 1) (x ++ [l[i].single, l[i].daily, l[i].weekly]) (by omega) (by simp; omega)
      have e : (x.all priceB && (spPrice l[i] && (l.drop (i + 1)).all spPrice)) = ((x ++ [l[i].single, l[i].daily, l[i].weekly]).all priceB && (l.drop (i + 1)).all spPrice) := by
        simp [spPrice, List.all_append, Bool.and_assoc]
      rw [e]; exact this
theorem prices_ev (t : Tariff) (h : t.sp.length ≤ 45) : Ev (fun k => fareboxref07_prices.f k ((t).st.map ofSt) ((t).sp.map ofSp) ((t).pk.map ofBd) (t).off (t).bus (t).busDaily (t).busWeekly (t).hopper (t).most (t).longest (t).change (t).passback (t).delay (t).threshold) (pricesB t && t.sp.all spPrice) := by
  have := prices_l0 (t.st.map ofSt) t.sp (t.pk.map ofBd) t.off t.bus t.busDaily t.busWeekly t.hopper t.most t.longest t.change t.passback t.delay t.threshold h t.sp.length 0 [t.bus, t.busDaily, t.busWeekly, t.most, t.threshold] (by omega) (by simp)
  refine Ev.congr (fun k => rfl) (f := fun k => fareboxref07_prices.l0 k [t.bus, t.busDaily, t.busWeekly, t.most, t.threshold] ((0 : Nat) : Int) _ _ _ _ _ _ _ _ _ _ _ _ _ _) ?_
  simpa [pricesB] using this
theorem within_f (a b : Span) : fareboxref07_Within.f a.frm a.to a.single a.daily a.weekly b.frm b.to b.single b.daily b.weekly = some (spWithin a b) := by
  unfold fareboxref07_Within.f spWithin
  by_cases h : a.frm ≥ b.frm
  · rw [if_pos h]; congr 1; apply decide_eq_decide.2; omega
  · rw [if_neg h]; congr 1; symm; apply decide_eq_false; omega
theorem wider_l1 (l : List Span) (hl : l.length ≤ 45) (i : Nat) (hi : i < l.length) : ∀ (d j : Nat), j + d = l.length → ∀ (r : Bool), Ev (fun k => fareboxref07_wider.l0 k (l.map ofSp) ((i + 1 : Nat) : Int)) r →
    Ev (fun k => fareboxref07_wider.l1 k (l.map ofSp) i j) ((l.drop j).all (fun b => wide1 l[i] b) && r)
  | 0, j, hd, r, hr => by
    refine Ev.step (f := fun k => fareboxref07_wider.l0 k (l.map ofSp) ((i + 1 : Nat) : Int)) (fun k => ?_) ?_
    · simp only [fareboxref07_wider.l1, List.length_map, wrap_up (i := i) (by omega)]
      rw [if_neg (by omega)]
    · rw [List.drop_of_length_le (by omega)]; exact hr
  | d + 1, j, hd, r, hr => by
    have hj : j < l.length := by omega
    rw [drop_cons hj, List.all_cons]
    cases hw : wide1 l[i] l[j]
    · refine Ev.step (f := fun _ => some false) (fun k => ?_) (by simpa using Ev.now _)
      simp only [wide1, Bool.or_eq_false_iff, Bool.not_eq_false'] at hw
      have h2 := of_decide_eq_false hw.2
      simp only [fareboxref07_wider.l1, List.length_map, rd_sp l i hi, rd_sp l j hj, ofSp, within_f, Option.bind_some, hw.1, if_true]
      rw [if_pos (by omega), if_pos (by omega), if_pos (by omega), if_pos (by omega)]
      repeat' refine ite_out (fun _ => ?_) (fun _ => ?_)
      all_goals first | rfl | (exfalso; omega)
    · rw [Bool.true_and]
      refine Ev.step (f := fun k => fareboxref07_wider.l1 k (l.map ofSp) i ((j + 1 : Nat) : Int)) (fun k => ?_) (wider_l1 l hl i hi d (j + 1) (by omega) r hr)
      simp only [fareboxref07_wider.l1, List.length_map, rd_sp l i hi, rd_sp l j hj, ofSp, within_f, Option.bind_some, wrap_up (i := j) (by omega)]
      rw [if_pos (by omega), if_pos (by omega), if_pos (by omega), if_pos (by omega)]
      refine ite_out (fun hc => ?_) (fun _ => rfl)
      simp only [wide1, hc, Bool.not_true, Bool.false_or] at hw
      have h2 := of_decide_eq_true hw
      rw [if_neg (by omega), if_neg (by omega), if_neg (by omega)]
theorem wider_l0 (l : List Span) (hl : l.length ≤ 45) : ∀ (d i : Nat), i + d = l.length → Ev (fun k => fareboxref07_wider.l0 k (l.map ofSp) i) ((l.drop i).all (fun a => l.all (fun b => wide1 a b)))
  | 0, i, hd => by
    refine Ev.step (f := fun _ => some true) (fun k => ?_) ?_
    · simp only [fareboxref07_wider.l0, List.length_map]
      rw [if_neg (by omega)]
    · rw [List.drop_of_length_le (by omega)]; exact Ev.now _
  | d + 1, i, hd => by
    have hi : i < l.length := by omega
    rw [drop_cons hi, List.all_cons]
    refine Ev.step (f := fun k => fareboxref07_wider.l1 k (l.map ofSp) i ((0 : Nat) : Int)) (fun k => ?_) ?_
    · simp only [fareboxref07_wider.l0, List.length_map]
      rw [if_pos (by omega)]
      rfl
    · have := wider_l1 l hl i hi l.length 0 (by omega) _ (wider_l0 l hl d (i + 1) (by omega))
      simpa using this
theorem wider_ev (l : List Span) (hl : l.length ≤ 45) : Ev (fun k => fareboxref07_wider.f k (l.map ofSp)) (l.all (fun a => l.all (fun b => wide1 a b))) := by
  have := wider_l0 l hl l.length 0 (by omega)
  rw [List.drop_zero] at this
  exact this
theorem bands_l0 (l : List Band) (hl : l.length ≤ 8) : ∀ (d i : Nat) (at_ : Int), i + d = l.length → Ev (fun k => fareboxref07_bands.l0 k (l.map ofBd) at_ i) (bandsGo (l.drop i) at_)
  | 0, i, at_, hd => by
    refine Ev.step (f := fun _ => some true) (fun k => ?_) ?_
    · simp only [fareboxref07_bands.l0, List.length_map]
      rw [if_neg (by omega)]
    · rw [List.drop_of_length_le (by omega)]; exact Ev.now _
  | d + 1, i, at_, hd => by
    have hi : i < l.length := by omega
    rw [drop_cons hi, bandsGo_cons]
    by_cases hb : at_ ≤ l[i].frm ∧ l[i].frm < l[i].to ∧ l[i].to ≤ 1440
    · rw [if_pos hb]
      refine Ev.step (f := fun k => fareboxref07_bands.l0 k (l.map ofBd) l[i].to ((i + 1 : Nat) : Int)) (fun k => ?_) (bands_l0 l hl d (i + 1) _ (by omega))
      simp only [fareboxref07_bands.l0, List.length_map, rd_bd l i hi, ofBd, wrap_up (i := i) (by omega)]
      rw [if_pos (by omega), if_pos (by omega), if_neg (by omega), if_neg (by omega), if_neg (by omega)]
    · rw [if_neg hb]
      refine Ev.step (f := fun k => some false) (fun k => ?_) (Ev.now _)
      simp only [fareboxref07_bands.l0, List.length_map, rd_bd l i hi, ofBd, wrap_up (i := i) (by omega)]
      rw [if_pos (by omega), if_pos (by omega)]
      repeat' refine ite_out (fun _ => ?_) (fun _ => ?_)
      all_goals first | rfl | (exfalso; omega)
theorem bands_ev (l : List Band) : Ev (fun k => fareboxref07_bands.f k (l.map ofBd)) (bandsF l) := by
  unfold bandsF
  by_cases h : l.length ≤ 8
  · rw [decide_eq_true h, Bool.true_and]
    have := bands_l0 l h l.length 0 0 (by omega)
    rw [List.drop_zero] at this
    refine Ev.congr (fun k => ?_) this
    simp only [fareboxref07_bands.f, List.length_map]
    rw [if_neg (by omega)]
    rfl
  · rw [decide_eq_false h, Bool.false_and]
    refine Ev.congr (fun k => ?_) (Ev.now _)
    simp only [fareboxref07_bands.f, List.length_map]
    rw [if_pos (by omega)]
theorem rate_f {b : Nat} (h : b < 18446744073709551616) : fareboxref05_Rate.f b = some (rateOk b) := by
  simp only [fareboxref05_Rate.f, parts_f h, Option.bind_some]
  unfold partsF rateOk
  have e1 : minusB b = decide (9223372036854775808 ≤ b) := by unfold minusB; rw [Bool.eq_iff_iff]; simp; omega
  have e2 : powN b = b / 4503599627370496 % 2048 := rfl
  by_cases p1 : powN b = 2047
  · simp only [p1, if_true]
    rw [if_neg (by simp)]
    congr 1; symm; apply decide_eq_false; omega
  · by_cases p0 : powN b = 0
    · simp only [p0, if_true, if_neg (show ¬ (0 : Nat) = 2047 by decide), e1]
      by_cases hm : 9223372036854775808 ≤ b
      · simp only [hm, decide_true, if_true]; congr 1; symm; apply decide_eq_false; omega
      · simp only [hm, decide_false, Bool.false_eq_true, if_false]
        rw [if_pos (by omega)]; congr 1; symm; apply decide_eq_true; omega
    · simp only [p1, p0, if_false, if_true, e1]
      by_cases hm : 9223372036854775808 ≤ b
      · simp only [hm, decide_true, if_true]; congr 1; symm; apply decide_eq_false; omega
      · simp only [hm, decide_false, Bool.false_eq_true, if_false]
        refine ite_out (fun _ => ?_) (fun _ => ite_out (fun _ => ite_out (fun _ => ?_) (fun _ => ?_)) (fun _ => ?_))
        · congr 1; symm; apply decide_eq_true; omega
        · congr 1; symm; apply decide_eq_true; omega
        · congr 1; rw [Bool.eq_iff_iff]; simp; omega
        · congr 1; rw [Bool.eq_iff_iff]; simp; omega
theorem minutes_f (n least : Int) : fareboxref07_minutes.f n least = some (inB least n 1440) := by
  unfold fareboxref07_minutes.f inB
  by_cases h : n ≥ least
  · rw [if_pos h]; congr 1; apply decide_eq_decide.2; omega
  · rw [if_neg h]; congr 1; symm; apply decide_eq_false; omega
theorem ref_right_ev (t : Tariff) (h : Tariff.fits t) : Ev (fun k => fareboxref07_Right.f k ((t).st.map ofSt) ((t).sp.map ofSp) ((t).pk.map ofBd) (t).off (t).bus (t).busDaily (t).busWeekly (t).hopper (t).most (t).longest (t).change (t).passback (t).delay (t).threshold) (rightF t) := by
  unfold fareboxref07_Right.f rightF
  refine Ev.bind (stations_ev t.st) ?_
  cases hst : stationsF t.st with
  | none => exact Ev.now _
  | some most =>
    obtain ⟨m1, m9⟩ := stations_range hst
    simp only [stRet, if_true]
    refine Ev.bind (spans_ev t.sp most m1 m9 h.2.1) ?_
    cases hsp : spansF t.sp most with
    | false => exact Ev.now _
    | true =>
      have h45 := spans_len m1 m9 hsp
      simp only [if_true, Bool.true_eq_false, if_false]
      refine Ev.bind (prices_ev t h45) ?_
      cases hp : pricesB t with
      | false => exact Ev.now _
      | true =>
        cases hq : t.sp.all spPrice with
        | false => exact Ev.now _
        | true =>
          simp only [Bool.and_self, if_true, Bool.true_eq_false, if_false]
          refine Ev.bind (wider_ev t.sp h45) ?_
          refine Ev.bind (bands_ev t.pk) ?_
          have hj : ∀ x : Bool, Ev (fun k => fareboxref07_Right.j0 k x ((t).st.map ofSt) ((t).sp.map ofSp) ((t).pk.map ofBd) (t).off (t).bus (t).busDaily (t).busWeekly (t).hopper (t).most (t).longest (t).change (t).passback (t).delay (t).threshold) (if x = true then 70 else if rateOk t.off = false then 51 else if inB 1 t.longest 1440 = false then 70 else if minsB t = false then 70 else 0) := by
            intro x
            refine Ev.step (f := fun _ => some _) (fun k => ?_) (Ev.now _)
            simp only [fareboxref07_Right.j0, rate_f h.2.2.2, minutes_f, Option.bind_some]
            rw [show minsB t = (inB 0 t.hopper 1440 && (inB 0 t.change 1440 && (inB 0 t.passback 1440 && inB 0 t.delay 1440))) from rfl]
            cases x <;> cases rateOk t.off <;> cases inB 1 t.longest 1440 <;> cases inB 0 t.hopper 1440 <;> cases inB 0 t.change 1440 <;> cases inB 0 t.passback 1440 <;> cases inB 0 t.delay 1440 <;> rfl
          cases hw : t.sp.all (fun a => t.sp.all (fun b => wide1 a b)) with
          | false => exact hj true
          | true =>
            cases hb : bandsF t.pk with
            | false => exact hj true
            | true => exact hj false
end Go.Proofs.Ytmeogadkbbeglaa
end
section
namespace Go.Proofs.Ytmeogadkbbeglaa
open Go.RowKit Go.Proofs.YtmeogadkbbeglaaQ
set_option maxHeartbeats 1600000
set_option maxRecDepth 100000
/-- the lists' lengths are within their capacities -/
structure TMem.Caps (m : TMem) (t : Tariff) : Prop where
  k1 : t.st.length ≤ m.c1
  k2 : t.sp.length ≤ m.c2
  k3 : t.pk.length ≤ m.c3
theorem plain_calls2 (w : World) : Calls Try.prog 70 #[] w fun e w' => ∃ m : TMem, e = .returned (.agg (plainT.cells m)) ∧ m.Caps plainT ∧ plainT.At w' m ∧ Below w.heap.size w w' := by
  have HB := Below.refl w.heap.size w
  go_enter Try.func70, Try.ntmps70
  go_wp2_with fail
  refine bodyPost_ret (v := .agg (plainT.cells ⟨some ⟨w.heap.size + 1, 0, none⟩, 2, some ⟨w.heap.size + 1 + 1, 0, none⟩, 3, none, 0⟩)) (by simp [results, Try.results70, go_sem]; simp [plainT]) rfl ?_
  refine ⟨_, rfl, ⟨Nat.le_refl _, Nat.le_refl _, Nat.le_refl _⟩, ⟨?_, ?_, sliceAt_nil _ _ _ _, by simp [plainT]⟩, by (repeat (first | (with_reducible exact HB) | (with_reducible refine bAlloc ?_ _) | (with_reducible refine bDrewN ?_ _) | (with_reducible refine bDrew ?_) | (with_reducible refine bSet ?_ (by first | exact Nat.le_refl _ | (simp; omega) | omega) _) | (with_reducible refine bThen ?_ (by with_reducible assumption))))⟩
  · exact sliceAt_box ((Box.new' (by simp) _ _).alloc _) (fun _ => rfl) (by simp [plainT]) (fun k v hk => by simpa [plainT, Station.vals] using hk)
  · exact sliceAt_box (Box.new' (by simp) _ _) (fun _ => rfl) (by simp [plainT]) (fun k v hk => by simpa [plainT, Span.vals] using hk)
end Go.Proofs.Ytmeogadkbbeglaa
end
