/- A region that draws its order: each operation by itself, whenever it comes up, over an invariant. What a region that lends a list keeps: the list's copy in memory of its own, a mark behind it. Single operations by law: a slice made, an append within the room. The walks of the reference's floats: their parts, their place, their order where both are one. The walk of the reference's Same, of two tariffs that hold the same. -/
import Derived.Test.YtmeogadkbbeglaaH1
import Derived.Orders
import Derived.Test.YtmeogadkbbeglaaH3
import Derived.Laws.MakeOwn
import Derived.Laws.AppendOwn
import Derived.Laws.CopyOwn
namespace Go.Rg
section
variable {P : Program} {ops : Array Oper} {Q : Exit → Act → World → Prop}

/-- The slots of the listed operations filled, in the text's order. -/
def puts (S : Nat → Option Value) : Nat → List Oper → Act → Act
  | _, [], a => a
  | k, o :: r, a => puts S (k + 1) r (match S k with | none => a | some v => a.put o.dst v)

def upd (S : Nat → Option Value) (i : Nat) (v : Value) : Nat → Option Value := fun k => if k = i then some v else S k
theorem upd_same (S : Nat → Option Value) (i : Nat) (v : Value) : upd S i v i = some v := by simp [upd]
theorem upd_ne (S : Nat → Option Value) {i k : Nat} (v : Value) (h : k ≠ i) : upd S i v k = S k := by simp [upd, h]

theorem put_comm (a : Act) {s t : Option Tmp} (u v : Value) (h : t = none ∨ s ≠ t) : (a.put s u).put t v = (a.put t v).put s u := by
  cases s with
  | none => rfl
  | some s =>
    cases t with
    | none => rfl
    | some t =>
      have hne : s ≠ t := fun e => by rcases h with h | h; cases h; exact h (by rw [e])
      show ({ tmps := (a.tmps.setIfInBounds s u).setIfInBounds t v, defers := a.defers } : Act) = { tmps := (a.tmps.setIfInBounds t v).setIfInBounds s u, defers := a.defers }
      rw [Array.setIfInBounds_comm _ _ hne]

theorem puts_put {S : Nat → Option Value} : ∀ (l : List Oper) (k : Nat) (a : Act) (t : Option Tmp) (v : Value), (∀ o ∈ l, t = none ∨ o.dst ≠ t) → puts S k l (a.put t v) = (puts S k l a).put t v
  | [], _, _, _, _, _ => rfl
  | o :: r, k, a, t, v, h => by
    unfold puts
    rw [← puts_put r (k + 1) _ t v (fun o' ho => h o' (List.mem_cons_of_mem _ ho))]
    cases S k with
    | none => rfl
    | some u =>
      show puts S (k + 1) r ((a.put t v).put o.dst u) = puts S (k + 1) r ((a.put o.dst u).put t v)
      rw [put_comm a u v (h o (List.mem_cons_self ..))]

theorem puts_upd_lt {S : Nat → Option Value} {i : Nat} {v : Value} : ∀ (l : List Oper) (k : Nat) (a : Act), i < k → puts (upd S i v) k l a = puts S k l a
  | [], _, _, _ => rfl
  | o :: r, k, a, h => by
    unfold puts
    rw [upd_ne S v (show k ≠ i by omega), puts_upd_lt r (k + 1) _ (by omega)]

def apartP : List Oper → Prop
  | [] => True
  | o :: r => (∀ o' ∈ r, o.dst = none ∨ o'.dst ≠ o.dst) ∧ apartP r
def apartB : List Oper → Bool
  | [] => true
  | o :: r => r.all (fun o' => o.dst.isNone || o'.dst != o.dst) && apartB r
theorem apart_of : ∀ {l : List Oper}, apartB l = true → apartP l
  | [], _ => trivial
  | o :: r, h => by
    simp only [apartB, Bool.and_eq_true, List.all_eq_true, Bool.or_eq_true, Option.isNone_iff_eq_none, bne_iff_ne] at h
    exact ⟨h.1, apart_of h.2⟩

theorem puts_upd {S : Nat → Option Value} {v : Value} : ∀ (l : List Oper) (k j : Nat) (a : Act) (o : Oper), l[j]? = some o → S (k + j) = none → apartP l → puts (upd S (k + j) v) k l a = (puts S k l a).put o.dst v
  | [], _, _, _, _, h, _, _ => by simp at h
  | p :: r, k, 0, a, o, h, hS, hd => by
    simp at h
    subst h
    simp only [Nat.add_zero] at hS ⊢
    unfold puts
    rw [upd_same, hS, puts_upd_lt r (k + 1) _ (by omega)]
    exact puts_put r (k + 1) a p.dst v hd.1
  | p :: r, k, j + 1, a, o, h, hS, hd => by
    rw [List.getElem?_cons_succ] at h
    unfold puts
    rw [upd_ne S v (show k ≠ k + (j + 1) by omega), show k + (j + 1) = k + 1 + j by omega]
    exact puts_upd r (k + 1) j _ o h (by rw [← hS]; congr 1; omega) hd.2

def backB (ops : List Oper) : Nat → Bool
  | 0 => true
  | k + 1 => (match ops[k]? with | some o => o.after.all (fun e => !Region.binds .any e || decide (e.on < k)) && o.guard.isNone | none => true) && backB ops k
theorem back_of {l : List Oper} : ∀ {k : Nat}, backB l k = true → ∀ (i : Nat) (o : Oper), i < k → l[i]? = some o → (∀ e ∈ o.after, Region.binds .any e = true → e.on < i) ∧ o.guard = none
  | 0, _, i, _, h, _ => by omega
  | k + 1, hb, i, o, h, ho => by
    simp only [backB, Bool.and_eq_true] at hb
    by_cases hi : i = k
    · subst hi
      rw [ho] at hb
      simp only [Bool.and_eq_true, Array.all_eq_true_iff_forall_mem, decide_eq_true_eq, Option.isNone_iff_eq_none, Bool.or_eq_true, Bool.not_eq_true'] at hb
      exact ⟨fun e he hbi => (hb.1.1 e he).resolve_left (by rw [hbi]; simp), hb.1.2⟩
    · exact back_of hb.2 i o (by omega) ho

theorem wanted_of {o : Oper} (h : o.guard = none) (y : Nat → Option Bool) : Region.wanted o y = true := by
  unfold Region.wanted; rw [h]

theorem ready_mem {listed : Array Bool} {i : Nat} (h : i ∈ Region.ready .any ops listed) : ∃ o, ops[i]? = some o ∧ listed.getD i true = false ∧ ∀ e ∈ o.after, Region.binds .any e = true → listed.getD e.on false = true := by
  unfold Region.ready at h
  simp only [List.mem_filter, List.mem_range, Bool.and_eq_true, Bool.not_eq_true'] at h
  obtain ⟨h1, h2, h3⟩ := h
  rw [Array.getElem?_eq_getElem h1] at h3
  refine ⟨ops[i], Array.getElem?_eq_getElem h1, h2, fun e he hb => ?_⟩
  simp only [Option.map_some, Option.getD_some, Array.all_eq_true_iff_forall_mem, Bool.or_eq_true, Bool.not_eq_true'] at h3
  rcases h3 e he with h | h
  · rw [hb] at h; cases h
  · exact h

theorem ready_least {listed : Array Bool} (hsz : listed.size = ops.size) (hback : ∀ (i : Nat) (o : Oper), ops[i]? = some o → ∀ e ∈ o.after, Region.binds .any e = true → e.on < i) (h : Region.ready .any ops listed = []) : ∀ i, i < ops.size → listed.getD i true = true := by
  intro i
  induction i using Nat.strongRecOn with
  | ind i ih =>
    intro hi
    cases hl : listed.getD i true with
    | true => rfl
    | false =>
      exfalso
      have : i ∈ Region.ready .any ops listed := by
        unfold Region.ready
        simp only [List.mem_filter, List.mem_range, Bool.and_eq_true, Bool.not_eq_true']
        refine ⟨hi, hl, ?_⟩
        rw [Array.getElem?_eq_getElem hi]
        simp only [Option.map_some, Option.getD_some, Array.all_eq_true_iff_forall_mem, Bool.or_eq_true, Bool.not_eq_true']
        intro e he
        by_cases hbi : Region.binds .any e = true
        case neg => left; simpa using hbi
        right
        have hlt := hback i _ (Array.getElem?_eq_getElem hi) e he hbi
        have := ih e.on hlt (by omega)
        rw [Array.getD_eq_getD_getElem?] at this ⊢
        rw [Array.getElem?_eq_getElem (by omega)] at this ⊢
        exact this
      rw [h] at this
      cases this

theorem wpAny_rg {I : (Nat → Option Value) → World → Prop} {a : Act} (hd : apartP ops.toList) (hback : ∀ (i : Nat) (o : Oper), ops[i]? = some o → (∀ e ∈ o.after, Region.binds .any e = true → e.on < i) ∧ o.guard = none)
    (step : ∀ (i : Nat) (o : Oper), ops[i]? = some o → ∀ S w, I S w → S i = none → (∀ e ∈ o.after, Region.binds .any e = true → ∃ v, S e.on = some v) → ∀ K : Act → World → Prop, (∀ v w', I (upd S i v) w' → K ((puts S 0 ops.toList a).put o.dst v) w') → o.wp P (puts S 0 ops.toList a) w K Q)
    (fin : ∀ S w, I S w → (∀ i, i < ops.size → ∃ v, S i = some v) → Q .normal (puts S 0 ops.toList a) w) :
    ∀ (fuel : Nat) (listed : Array Bool) (S : Nat → Option Value) (w : World), listed.size = ops.size → (∀ i, i < ops.size → (listed.getD i true = true ↔ ∃ v, S i = some v)) → listed.toList.count false ≤ fuel → I S w → wpAny P .any ops Q fuel listed (puts S 0 ops.toList a) w := by
  intro fuel
  have allQ : ∀ (listed : Array Bool) (S : Nat → Option Value) (w : World), listed.size = ops.size → (∀ i, i < ops.size → (listed.getD i true = true ↔ ∃ v, S i = some v)) → I S w → Region.ready .any ops listed = [] → Q .normal (puts S 0 ops.toList a) w := fun listed S w hsz hS hI hr =>
    fin S w hI fun i hi => (hS i hi).1 (ready_least hsz (fun i o ho => (hback i o ho).1) hr i hi)
  induction fuel with
  | zero =>
    intro listed S w hsz hS hc hI
    have hr : Region.ready .any ops listed = [] := by
      apply List.eq_nil_iff_forall_not_mem.2
      intro i hi
      obtain ⟨o, ho, hl, -⟩ := ready_mem hi
      have hlt : i < listed.size := by rw [hsz]; exact (Array.getElem?_eq_some_iff.1 ho).1
      rw [Array.getD_eq_getD_getElem?, Array.getElem?_eq_getElem hlt] at hl
      have hm : false ∈ listed.toList := by
        simp only [Option.getD_some] at hl
        rw [← hl]; simp
      have := List.count_pos_iff.2 hm
      omega
    exact ⟨hr, allQ listed S w hsz hS hI hr⟩
  | succ fuel ih =>
    intro listed S w hsz hS hc hI
    refine ⟨allQ listed S w hsz hS hI, fun i hi => ?_⟩
    obtain ⟨o, ho, hl, haf⟩ := ready_mem hi
    have hio : i < ops.size := (Array.getElem?_eq_some_iff.1 ho).1
    have hlt : i < listed.size := by rw [hsz]; exact hio
    have hSi : S i = none := by
      cases hs : S i with
      | none => rfl
      | some v => have := (hS i hio).2 ⟨v, hs⟩; rw [hl] at this; cases this
    unfold wpOp
    rw [ho]
    simp only [wanted_of (hback i o ho).2, if_true]
    left
    refine step i o ho S w hI hSi (fun e he hb => ?_) _ (fun v w' hI' => ?_)
    · have h1 := haf e he hb
      have h2 := (hback i o ho).1 e he hb
      have h3 : e.on < ops.size := by omega
      refine (hS e.on h3).1 ?_
      rw [Array.getD_eq_getD_getElem?] at h1 ⊢
      rw [Array.getElem?_eq_getElem (by omega)] at h1 ⊢
      exact h1
    · have hp := puts_upd (S := S) (v := v) ops.toList 0 i a o (by simpa using ho) (by simpa using hSi) hd
      rw [Nat.zero_add] at hp
      rw [← hp]
      refine ih _ _ _ (by simpa using hsz) (fun j hj => ?_) ?_ hI'
      · rw [Array.getD_eq_getD_getElem?, Array.getElem?_setIfInBounds]
        by_cases hji : i = j
        · subst hji
          simp [hlt, upd_same]
        · rw [if_neg hji, upd_ne S v (Ne.symm hji), ← Array.getD_eq_getD_getElem?]
          exact hS j hj
      · rw [Array.toList_setIfInBounds, List.count_set (by simpa using hlt)]
        rw [Array.getD_eq_getD_getElem?, Array.getElem?_eq_getElem hlt] at hl
        simp only [Option.getD_some] at hl
        simp only [Array.getElem_toList, hl]
        simp only [beq_self_eq_true, if_true, show (true == false) = false from rfl, Bool.false_eq_true, if_false]
        omega

theorem count_replicate_false (n : Nat) : (Array.replicate n false).toList.count false ≤ n := by simp

/-- A region that draws its order, by an invariant. -/
theorem wp_region_rg {id : Nat} {a : Act} {w : World} (I : (Nat → Option Value) → World → Prop) (hm : P.follows .mixedOrders = true) (hd : apartB ops.toList = true) (hback : backB ops.toList ops.size = true)
    (h0 : I (fun _ => none) { w with drawn := w.drawn + 1 })
    (step : ∀ (i : Nat) (o : Oper), ops[i]? = some o → ∀ S w, I S w → S i = none → (∀ e ∈ o.after, Region.binds .any e = true → ∃ v, S e.on = some v) → ∀ K : Act → World → Prop, (∀ v w', I (upd S i v) w' → K ((puts S 0 ops.toList a).put o.dst v) w') → o.wp P (puts S 0 ops.toList a) w K Q)
    (fin : ∀ S w, I S w → (∀ i, i < ops.size → ∃ v, S i = some v) → Q .normal (puts S 0 ops.toList a) w) : (Code.region id ops true).wp P Q a w := by
  refine wp_region_any hm ?_
  have e0 : puts (fun _ => none) 0 ops.toList a = a := by
    have : ∀ (l : List Oper) (k : Nat), puts (fun _ => none) k l a = a := by
      intro l
      induction l with
      | nil => intro k; rfl
      | cons o r ih => intro k; exact ih (k + 1)
    exact this _ 0
  have h := wpAny_rg (apart_of hd) (fun i o ho => back_of hback i o (Array.getElem?_eq_some_iff.1 ho).1 (by simpa using ho)) step fin ops.size (Array.replicate ops.size false) (fun _ => none) _ (by simp) (fun i hi => by simp [hi]) (by simp) h0
  rw [e0] at h
  exact h

def allOps (Pr : Nat → Oper → Prop) : Nat → List Oper → Prop
  | _, [] => True
  | k, o :: r => Pr k o ∧ allOps Pr (k + 1) r
theorem allOps_get {Pr : Nat → Oper → Prop} : ∀ {l : List Oper} {k j : Nat} {o : Oper}, allOps Pr k l → l[j]? = some o → Pr (k + j) o
  | [], _, _, _, _, h => by simp at h
  | p :: r, k, 0, o, ha, h => by simp at h; subst h; exact ha.1
  | p :: r, k, j + 1, o, ha, h => by
    rw [List.getElem?_cons_succ] at h
    have := allOps_get (k := k + 1) ha.2 h
    rwa [show k + 1 + j = k + (j + 1) by omega] at this

theorem put_size (a : Act) (t : Option Tmp) (v : Value) : (a.put t v).tmps.size = a.tmps.size := by
  cases t with
  | none => rfl
  | some s => show (a.tmps.setIfInBounds s v).size = _; simp
theorem put_old {a : Act} {t : Option Tmp} {d : Tmp} (v : Value) (h : t ≠ some d) : (a.put t v).tmps[d]? = a.tmps[d]? := by
  cases t with
  | none => rfl
  | some s => show (a.tmps.setIfInBounds s v)[d]? = _; rw [Array.getElem?_setIfInBounds_ne (fun e => h (by rw [e]))]

theorem puts_old {S : Nat → Option Value} {d : Tmp} : ∀ (l : List Oper) (k : Nat) (a : Act), (∀ o ∈ l, o.dst ≠ some d) → (puts S k l a).tmps[d]? = a.tmps[d]?
  | [], _, _, _ => rfl
  | o :: r, k, a, h => by
    unfold puts
    rw [puts_old r (k + 1) _ (fun o' ho => h o' (List.mem_cons_of_mem _ ho))]
    cases S k with
    | none => rfl
    | some v => exact put_old v (h o (List.mem_cons_self ..))
theorem puts_get {S : Nat → Option Value} {d : Tmp} {v : Value} : ∀ (l : List Oper) (k j : Nat) (a : Act) (o : Oper), l[j]? = some o → o.dst = some d → S (k + j) = some v → apartP l → d < a.tmps.size → (puts S k l a).tmps[d]? = some v
  | [], _, _, _, _, h, _, _, _, _ => by simp at h
  | p :: r, k, 0, a, o, h, hd, hS, hp, hsz => by
    simp at h
    subst h
    unfold puts
    simp only [Nat.add_zero] at hS
    rw [hS, puts_old r (k + 1) _ (fun o' ho e => by
      rcases hp.1 o' ho with h | h
      · rw [hd] at h; cases h
      · exact h (by rw [e, hd]))]
    show (a.put p.dst v).tmps[d]? = _
    rw [hd]
    show (a.tmps.setIfInBounds d v)[d]? = some v
    simp [hsz]
  | p :: r, k, j + 1, a, o, h, hd, hS, hp, hsz => by
    rw [List.getElem?_cons_succ] at h
    unfold puts
    refine puts_get r (k + 1) j _ o h hd (by rw [← hS]; congr 1; omega) hp.2 ?_
    cases S k with
    | none => exact hsz
    | some u => show d < (a.put p.dst u).tmps.size; rw [put_size]; exact hsz

/-- The same, each operation's step for itself, its operands told. -/
theorem wp_region_steps {id : Nat} {a : Act} {w : World} (I : (Nat → Option Value) → World → Prop) (hm : P.follows .mixedOrders = true) (hd : apartB ops.toList = true) (hback : backB ops.toList ops.size = true)
    (N : Nat) (hN : a.tmps.size = N) (hfitB : ops.toList.all (fun o => match o.dst with | some d => decide (d < N) | none => true) = true)
    (h0 : I (fun _ => none) { w with drawn := w.drawn + 1 })
    (step : allOps (fun i o => ∀ (S : Nat → Option Value) (w : World) (A : Act) (K : Act → World → Prop), (∀ t j v, (ops[j]?).bind (·.dst) = some t → S j = some v → A.tmps[t]? = some v) → (∀ t, ops.all (fun o => o.dst != some t) = true → A.tmps[t]? = a.tmps[t]?) → I S w → S i = none →
      (∀ e ∈ o.after, Region.binds .any e = true → ∃ v, S e.on = some v) → (∀ v w', I (upd S i v) w' → K (A.put o.dst v) w') → o.wp P A w K Q) 0 ops.toList)
    (fin : ∀ S w, I S w → (∀ i, i < ops.size → ∃ v, S i = some v) → Q .normal (puts S 0 ops.toList a) w) : (Code.region id ops true).wp P Q a w := by
  have hfit : ∀ o ∈ ops.toList, ∀ d, o.dst = some d → d < a.tmps.size := fun o ho d hdst => by
    have := List.all_eq_true.1 hfitB o ho
    rw [hdst] at this
    rw [hN]
    simpa using this
  refine wp_region_rg I hm hd hback h0 (fun i o ho S w' hI hS haf K hK => ?_) fin
  have hs := allOps_get step (show ops.toList[i]? = some o by simpa using ho)
  rw [Nat.zero_add] at hs
  refine hs S w' _ K (fun t j v ht hv => ?_) (fun t ht => ?_) hI hS haf hK
  · cases hj : ops[j]? with
    | none => rw [hj] at ht; cases ht
    | some p =>
      rw [hj] at ht
      have hj' : ops.toList[j]? = some p := by simpa using hj
      exact puts_get (S := S) (v := v) ops.toList 0 j a p hj' ht (by simpa using hv) (apart_of hd) (hfit p (List.mem_of_getElem? hj') t ht)
  · exact puts_old (S := S) (d := t) ops.toList 0 a (fun o ho => by
      rw [Array.all_eq_true_iff_forall_mem] at ht
      simpa using ht o (by simpa using ho))
end
end Go.Rg

namespace Go.Proofs.Ytmeogadkbbeglaa
open Go.RowKit Go.Rg

structure LentI (w0 : World) (bt : Nat) (cs : Array Value) (T : TypeId) (fld : Nat) (A : Option Addr) (n c : Nat) (tE : TypeId) (sz : Nat) (F mk : List Value) (S : Nat → Option Value) (w : World) : Prop where
  lt : bt < w0.heap.size
  size : w0.heap.size ≤ w.heap.size
  os : w.os = w0.os
  tape : w.tape = w0.tape
  output : w.output = w0.output
  fr : ∀ k, k < w0.heap.size → k ≠ bt → w.heap[k]? = w0.heap[k]?
  tb : S 16 = none → Box w bt cs T
  te : ∀ v, S 16 = some v → ∃ u, S 14 = some u ∧ Box w bt (cs.setIfInBounds fld u) T
  late : ∀ v, S 16 = some v → ∀ i, i < 16 → ∃ u, S i = some u
  v0 : ∀ v, S 0 = some v → v = .pointer (some ⟨bt, fld, none⟩)
  v1 : ∀ v, S 1 = some v → v = .slice A n c
  v2 : ∀ v, S 2 = some v → v = .int .i64 (n : Int)
  v3 : ∀ v, S 3 = some v → v = .int .i64 ((n : Int) + 1)
  v5 : ∀ v, S 5 = some v → v = .pointer (some ⟨bt, fld, none⟩)
  v6 : ∀ v, S 6 = some v → v = .slice A n c
  v8 : ∀ v, S 8 = some v → v = .agg mk.toArray
  v11 : ∀ v, S 11 = some v → v = .pointer (some ⟨bt, fld, none⟩)
  v12 : ∀ v, S 12 = some v → v = .slice A n c
  v13 : ∀ v, S 13 = some v → v = .int .i64 (n : Int)
  v15 : ∀ v, S 15 = some v → v = .pointer (some ⟨bt, fld, none⟩)
  own : ∀ v, S 4 = some v → ∃ g cur, v = .slice (some ⟨g, 0, none⟩) 0 (n + 1) ∧ w0.heap.size ≤ g ∧ Box w g cur tE ∧ cur.size = (n + 1) * sz ∧
    (∀ u, S 7 = some u → u = .slice (some ⟨g, 0, none⟩) n (n + 1) ∧ cur.toList.take (n * sz) = F) ∧
    (∀ u, S 10 = some u → u = .slice (some ⟨g, 0, none⟩) (n + 1) (n + 1) ∧ cur.toList = F ++ mk) ∧
    (∀ u, S 14 = some u → u = .slice (some ⟨g, 0, none⟩) n (n + 1)) ∧
    (∀ u, S 9 = some u → u ≠ .slice (some ⟨g, 0, none⟩) 1 1)
  d7 : ∀ v, S 7 = some v → ∃ u, S 4 = some u
  d10 : ∀ v, S 10 = some v → ∃ u, S 7 = some u
  d14 : ∀ v, S 14 = some v → ∃ u, S 10 = some u
  mark : ∀ v, S 9 = some v → ∃ h, v = .slice (some ⟨h, 0, none⟩) 1 1 ∧ w0.heap.size ≤ h ∧ Box w h mk.toArray tE

theorem LentI.start {w0 : World} {bt : Nat} {cs : Array Value} {T : TypeId} {fld : Nat} {A : Option Addr} {n c : Nat} {tE : TypeId} {sz : Nat} {F mk : List Value} (h : Box w0 bt cs T) : LentI w0 bt cs T fld A n c tE sz F mk (fun _ => none) w0.drew := by
  refine ⟨h.lt, Nat.le_refl _, rfl, rfl, rfl, fun _ _ _ => rfl, fun _ => h, ?_, ?_, ?_, ?_, ?_, ?_, ?_, ?_, ?_, ?_, ?_, ?_, ?_, ?_, ?_, ?_, ?_, ?_⟩
  all_goals
    intro v hv
    cases hv

section
variable {w0 : World} {bt : Nat} {cs : Array Value} {T : TypeId} {fld : Nat} {A : Option Addr} {n c : Nat} {tE : TypeId} {sz : Nat} {F mk : List Value} {S : Nat → Option Value} {w : World}
theorem LentI.not16 (h : LentI w0 bt cs T fld A n c tE sz F mk S w) {i : Nat} (hi : i < 16) (hS : S i = none) : S 16 = none := by
  cases e : S 16 with
  | none => rfl
  | some v => obtain ⟨u, hu⟩ := h.late v e i hi; rw [hS] at hu; cases hu

/-- An operation that only reads. -/
theorem LentI.quiet (h : LentI w0 bt cs T fld A n c tE sz F mk S w) {i : Nat} {v : Value} (hi : i < 16) (hS : S i = none)
    (hv : match i with
      | 0 | 5 | 11 | 15 => v = .pointer (some ⟨bt, fld, none⟩)
      | 1 | 6 | 12 => v = .slice A n c
      | 2 | 13 => v = .int .i64 (n : Int)
      | 3 => v = .int .i64 ((n : Int) + 1)
      | 8 => v = .agg mk.toArray
      | 14 => ∃ g, v = .slice (some ⟨g, 0, none⟩) n (n + 1) ∧ S 10 = some (.slice (some ⟨g, 0, none⟩) (n + 1) (n + 1))
      | _ => False) : LentI w0 bt cs T fld A n c tE sz F mk (upd S i v) w := by
  have n16 := h.not16 hi hS
  have hne : ∀ k u, k ≠ i → upd S i v k = some u → S k = some u := fun k u hk hu => by rwa [upd_ne S v hk] at hu
  have e16 : upd S i v 16 = none := by rw [upd_ne S v (by omega)]; exact n16
  refine ⟨h.lt, h.size, h.os, h.tape, h.output, h.fr, fun _ => h.tb n16, ?_, ?_, ?_, ?_, ?_, ?_, ?_, ?_, ?_, ?_, ?_, ?_, ?_, ?_, ?_, ?_, ?_, ?_⟩
  · intro u hu; rw [e16] at hu; cases hu
  · intro u hu; rw [e16] at hu; cases hu
  iterate 11
    · intro u hu
      first
      | (by_cases hk : 0 = i
         · subst hk; rw [upd_same] at hu; cases hu; exact hv
         · exact h.v0 u (hne _ _ hk hu))
      | (by_cases hk : 1 = i
         · subst hk; rw [upd_same] at hu; cases hu; exact hv
         · exact h.v1 u (hne _ _ hk hu))
      | (by_cases hk : 2 = i
         · subst hk; rw [upd_same] at hu; cases hu; exact hv
         · exact h.v2 u (hne _ _ hk hu))
      | (by_cases hk : 3 = i
         · subst hk; rw [upd_same] at hu; cases hu; exact hv
         · exact h.v3 u (hne _ _ hk hu))
      | (by_cases hk : 5 = i
         · subst hk; rw [upd_same] at hu; cases hu; exact hv
         · exact h.v5 u (hne _ _ hk hu))
      | (by_cases hk : 6 = i
         · subst hk; rw [upd_same] at hu; cases hu; exact hv
         · exact h.v6 u (hne _ _ hk hu))
      | (by_cases hk : 8 = i
         · subst hk; rw [upd_same] at hu; cases hu; exact hv
         · exact h.v8 u (hne _ _ hk hu))
      | (by_cases hk : 11 = i
         · subst hk; rw [upd_same] at hu; cases hu; exact hv
         · exact h.v11 u (hne _ _ hk hu))
      | (by_cases hk : 12 = i
         · subst hk; rw [upd_same] at hu; cases hu; exact hv
         · exact h.v12 u (hne _ _ hk hu))
      | (by_cases hk : 13 = i
         · subst hk; rw [upd_same] at hu; cases hu; exact hv
         · exact h.v13 u (hne _ _ hk hu))
      | (by_cases hk : 15 = i
         · subst hk; rw [upd_same] at hu; cases hu; exact hv
         · exact h.v15 u (hne _ _ hk hu))
  · intro u hu
    have h4 : (4 : Nat) ≠ i := fun e => by subst e; exact hv
    have h7 : (7 : Nat) ≠ i := fun e => by subst e; exact hv
    have h9 : (9 : Nat) ≠ i := fun e => by subst e; exact hv
    have h10 : (10 : Nat) ≠ i := fun e => by subst e; exact hv
    obtain ⟨g, cur, e1, e2, e3, e4, e5, e6, e7, e8⟩ := h.own u (hne _ _ h4 hu)
    refine ⟨g, cur, e1, e2, e3, e4, fun x hx => e5 x (hne _ _ h7 hx), fun x hx => e6 x (hne _ _ h10 hx), fun x hx => ?_, fun x hx => e8 x (hne _ _ h9 hx)⟩
    by_cases hk : 14 = i
    · subst hk
      rw [upd_same] at hx
      cases hx
      obtain ⟨g', f1, f2⟩ := hv
      have := (e6 _ f2).1
      simp only [Value.slice.injEq, Option.some.injEq, Addr.mk.injEq] at this
      rw [f1, this.1.1]
    · exact e7 x (hne _ _ hk hx)
  · intro u hu
    have h7 : (7 : Nat) ≠ i := fun e => by subst e; exact hv
    have h4 : (4 : Nat) ≠ i := fun e => by subst e; exact hv
    rw [upd_ne S v h4]
    exact h.d7 u (hne _ _ h7 hu)
  · intro u hu
    have h10 : (10 : Nat) ≠ i := fun e => by subst e; exact hv
    have h7 : (7 : Nat) ≠ i := fun e => by subst e; exact hv
    rw [upd_ne S v h7]
    exact h.d10 u (hne _ _ h10 hu)
  · intro u hu
    have h10 : (10 : Nat) ≠ i := fun e => by subst e; exact hv
    rw [upd_ne S v h10]
    by_cases hk : 14 = i
    · subst hk
      obtain ⟨g', f1, f2⟩ := hv
      exact ⟨_, f2⟩
    · exact h.d14 u (hne _ _ hk hu)
  · intro u hu
    have h9 : (9 : Nat) ≠ i := fun e => by subst e; exact hv
    exact h.mark u (hne _ _ h9 hu)
theorem LentI.none7 (h : LentI w0 bt cs T fld A n c tE sz F mk S w) (h4 : S 4 = none) : S 7 = none := by
  cases e : S 7 with
  | none => rfl
  | some u => obtain ⟨x, hx⟩ := h.d7 u e; rw [h4] at hx; cases hx
theorem LentI.none10 (h : LentI w0 bt cs T fld A n c tE sz F mk S w) (h7 : S 7 = none) : S 10 = none := by
  cases e : S 10 with
  | none => rfl
  | some u => obtain ⟨x, hx⟩ := h.d10 u e; rw [h7] at hx; cases hx
theorem LentI.none14 (h : LentI w0 bt cs T fld A n c tE sz F mk S w) (h10 : S 10 = none) : S 14 = none := by
  cases e : S 14 with
  | none => rfl
  | some u => obtain ⟨x, hx⟩ := h.d14 u e; rw [h10] at hx; cases hx

theorem LentI.make (h : LentI w0 bt cs T fld A n c tE sz F mk S w) (hS : S 4 = none) (z : Array Value) (hz : z.size = (n + 1) * sz) :
    LentI w0 bt cs T fld A n c tE sz F mk (upd S 4 (.slice (some ⟨w.heap.size, 0, none⟩) 0 (n + 1))) (w.alloc (.cells z tE (0, 0))) := by
  have n16 := h.not16 (by decide) hS
  have n7 := h.none7 hS
  have n10 := h.none10 n7
  have n14 := h.none14 n10
  have hsz : (w.alloc (.cells z tE (0, 0))).heap.size = w.heap.size + 1 := by show (w.heap.push _).size = _; simp
  refine ⟨h.lt, by rw [hsz]; have := h.size; omega, h.os, h.tape, h.output, fun k hk hb => (Below.heap_alloc w _ k (Nat.lt_of_lt_of_le hk h.size)).trans (h.fr k hk hb), fun _ => (h.tb n16).alloc _, ?_, ?_, fun u hu => h.v0 u (by rwa [upd_ne S _ (by decide)] at hu), fun u hu => h.v1 u (by rwa [upd_ne S _ (by decide)] at hu), fun u hu => h.v2 u (by rwa [upd_ne S _ (by decide)] at hu), fun u hu => h.v3 u (by rwa [upd_ne S _ (by decide)] at hu), fun u hu => h.v5 u (by rwa [upd_ne S _ (by decide)] at hu), fun u hu => h.v6 u (by rwa [upd_ne S _ (by decide)] at hu), fun u hu => h.v8 u (by rwa [upd_ne S _ (by decide)] at hu), fun u hu => h.v11 u (by rwa [upd_ne S _ (by decide)] at hu), fun u hu => h.v12 u (by rwa [upd_ne S _ (by decide)] at hu), fun u hu => h.v13 u (by rwa [upd_ne S _ (by decide)] at hu), fun u hu => h.v15 u (by rwa [upd_ne S _ (by decide)] at hu), ?_, ?_, ?_, ?_, ?_⟩
  · intro u hu; rw [upd_ne S _ (by decide), n16] at hu; cases hu
  · intro u hu; rw [upd_ne S _ (by decide), n16] at hu; cases hu
  · intro u hu
    rw [upd_same] at hu
    cases hu
    refine ⟨w.heap.size, z, rfl, h.size, Box.new _ _ _, hz, ?_, ?_, ?_, ?_⟩
    · intro x hx; rw [upd_ne S _ (by decide), n7] at hx; cases hx
    · intro x hx; rw [upd_ne S _ (by decide), n10] at hx; cases hx
    · intro x hx; rw [upd_ne S _ (by decide), n14] at hx; cases hx
    · intro x hx e
      rw [upd_ne S _ (by decide)] at hx
      obtain ⟨b, f1, -, f2⟩ := h.mark x hx
      rw [e] at f1
      simp only [Value.slice.injEq, Option.some.injEq, Addr.mk.injEq] at f1
      have := f2.lt
      omega
  · intro u hu; rw [upd_ne S _ (by decide), n7] at hu; cases hu
  · intro u hu; rw [upd_ne S _ (by decide), n10] at hu; cases hu
  · intro u hu; rw [upd_ne S _ (by decide), n14] at hu; cases hu
  · intro u hu
    rw [upd_ne S _ (by decide)] at hu
    obtain ⟨b, f1, f2, f3⟩ := h.mark u hu
    exact ⟨b, f1, f2, f3.alloc _⟩

theorem LentI.marks (h : LentI w0 bt cs T fld A n c tE sz F mk S w) (hS : S 9 = none) :
    LentI w0 bt cs T fld A n c tE sz F mk (upd S 9 (.slice (some ⟨w.heap.size, 0, none⟩) 1 1)) (w.alloc (.cells mk.toArray tE (0, 0))) := by
  have n16 := h.not16 (by decide) hS
  have hsz : (w.alloc (.cells mk.toArray tE (0, 0))).heap.size = w.heap.size + 1 := by show (w.heap.push _).size = _; simp
  refine ⟨h.lt, by rw [hsz]; have := h.size; omega, h.os, h.tape, h.output, fun k hk hb => (Below.heap_alloc w _ k (Nat.lt_of_lt_of_le hk h.size)).trans (h.fr k hk hb), fun _ => (h.tb n16).alloc _, ?_, ?_, fun u hu => h.v0 u (by rwa [upd_ne S _ (by decide)] at hu), fun u hu => h.v1 u (by rwa [upd_ne S _ (by decide)] at hu), fun u hu => h.v2 u (by rwa [upd_ne S _ (by decide)] at hu), fun u hu => h.v3 u (by rwa [upd_ne S _ (by decide)] at hu), fun u hu => h.v5 u (by rwa [upd_ne S _ (by decide)] at hu), fun u hu => h.v6 u (by rwa [upd_ne S _ (by decide)] at hu), fun u hu => h.v8 u (by rwa [upd_ne S _ (by decide)] at hu), fun u hu => h.v11 u (by rwa [upd_ne S _ (by decide)] at hu), fun u hu => h.v12 u (by rwa [upd_ne S _ (by decide)] at hu), fun u hu => h.v13 u (by rwa [upd_ne S _ (by decide)] at hu), fun u hu => h.v15 u (by rwa [upd_ne S _ (by decide)] at hu), ?_, ?_, ?_, ?_, ?_⟩
  · intro u hu; rw [upd_ne S _ (by decide), n16] at hu; cases hu
  · intro u hu; rw [upd_ne S _ (by decide), n16] at hu; cases hu
  · intro u hu
    rw [upd_ne S _ (by decide)] at hu
    obtain ⟨g, cur, e1, e2, e3, e4, e5, e6, e7, e8⟩ := h.own u hu
    refine ⟨g, cur, e1, e2, e3.alloc _, e4, fun x hx => e5 x (by rwa [upd_ne S _ (by decide)] at hx), fun x hx => e6 x (by rwa [upd_ne S _ (by decide)] at hx), fun x hx => e7 x (by rwa [upd_ne S _ (by decide)] at hx), fun x hx e => ?_⟩
    rw [upd_same] at hx
    cases hx
    simp only [Value.slice.injEq, Option.some.injEq, Addr.mk.injEq] at e
    have := e3.lt
    omega
  · intro u hu; rw [upd_ne S _ (by decide)] at hu ⊢; exact h.d7 u hu
  · intro u hu; rw [upd_ne S _ (by decide)] at hu ⊢; exact h.d10 u hu
  · intro u hu; rw [upd_ne S _ (by decide)] at hu ⊢; exact h.d14 u hu
  · intro u hu
    rw [upd_same] at hu
    cases hu
    exact ⟨w.heap.size, rfl, h.size, Box.new _ _ _⟩

theorem box_setRow {w : World} {g : Nat} {cur cur' : Array Value} {T : TypeId} (h : Box w g cur T) : Box (w.setRow g cur') g cur' T := setRow_heap w g cur cur' T (0, 0) h
theorem box_other {w : World} {g b : Nat} {cur cur' : Array Value} {T : TypeId} (h : Box w b cur T) (hne : b ≠ g) : Box (w.setRow g cur') b cur T := (setRow_other w g b cur' hne).trans h

/-- An append within the room: what follows what the block held. -/
theorem LentI.fill (h : LentI w0 bt cs T fld A n c tE sz F mk S w) (hS : S 7 = none) {v : Value} (h4 : S 4 = some v) :
    ∃ g cur, v = .slice (some ⟨g, 0, none⟩) 0 (n + 1) ∧ Box w g cur tE ∧ cur.size = (n + 1) * sz ∧ bt ≠ g ∧
      ∀ cur' : Array Value, cur'.size = (n + 1) * sz → cur'.toList.take (n * sz) = F → LentI w0 bt cs T fld A n c tE sz F mk (upd S 7 (.slice (some ⟨g, 0, none⟩) n (n + 1))) (w.setRow g cur') := by
  have n16 := h.not16 (by decide) hS
  have n10 := h.none10 hS
  have n14 := h.none14 n10
  obtain ⟨g, cur, e1, e2, e3, e4, e5, e6, e7, e8⟩ := h.own v h4
  have hbg : bt ≠ g := by have := h.lt; omega
  refine ⟨g, cur, e1, e3, e4, hbg, fun cur' hc ht => ?_⟩
  refine ⟨h.lt, by rw [size_setRow]; exact h.size, h.os, h.tape, h.output, fun k hk hb => (setRow_other w g k cur' (by omega)).trans (h.fr k hk hb), fun _ => box_other (h.tb n16) hbg, ?_, ?_, fun u hu => h.v0 u (by rwa [upd_ne S _ (by decide)] at hu), fun u hu => h.v1 u (by rwa [upd_ne S _ (by decide)] at hu), fun u hu => h.v2 u (by rwa [upd_ne S _ (by decide)] at hu), fun u hu => h.v3 u (by rwa [upd_ne S _ (by decide)] at hu), fun u hu => h.v5 u (by rwa [upd_ne S _ (by decide)] at hu), fun u hu => h.v6 u (by rwa [upd_ne S _ (by decide)] at hu), fun u hu => h.v8 u (by rwa [upd_ne S _ (by decide)] at hu), fun u hu => h.v11 u (by rwa [upd_ne S _ (by decide)] at hu), fun u hu => h.v12 u (by rwa [upd_ne S _ (by decide)] at hu), fun u hu => h.v13 u (by rwa [upd_ne S _ (by decide)] at hu), fun u hu => h.v15 u (by rwa [upd_ne S _ (by decide)] at hu), ?_, ?_, ?_, ?_, ?_⟩
  · intro u hu; rw [upd_ne S _ (by decide), n16] at hu; cases hu
  · intro u hu; rw [upd_ne S _ (by decide), n16] at hu; cases hu
  · intro u hu
    rw [upd_ne S _ (by decide), h4] at hu
    cases hu
    refine ⟨g, cur', e1, e2, box_setRow e3, hc, ?_, ?_, ?_, fun x hx => e8 x (by rwa [upd_ne S _ (by decide)] at hx)⟩
    · intro x hx; rw [upd_same] at hx; cases hx; exact ⟨rfl, ht⟩
    · intro x hx; rw [upd_ne S _ (by decide), n10] at hx; cases hx
    · intro x hx; rw [upd_ne S _ (by decide), n14] at hx; cases hx
  · intro u hu; rw [upd_ne S _ (by decide)]; exact ⟨_, h4⟩
  · intro u hu; rw [upd_ne S _ (by decide), n10] at hu; cases hu
  · intro u hu; rw [upd_ne S _ (by decide), n14] at hu; cases hu
  · intro u hu
    rw [upd_ne S _ (by decide)] at hu
    obtain ⟨b, f1, f2, f3⟩ := h.mark u hu
    refine ⟨b, f1, f2, box_other f3 (fun e => e8 u hu (by rw [f1, e]))⟩

theorem LentI.close (h : LentI w0 bt cs T fld A n c tE sz F mk S w) (hS : S 10 = none) {v x : Value} (h7 : S 7 = some v) (h9 : S 9 = some x) :
    ∃ g cur b, v = .slice (some ⟨g, 0, none⟩) n (n + 1) ∧ x = .slice (some ⟨b, 0, none⟩) 1 1 ∧ Box w g cur tE ∧ cur.size = (n + 1) * sz ∧ cur.toList.take (n * sz) = F ∧ Box w b mk.toArray tE ∧
      ∀ cur' : Array Value, cur'.size = (n + 1) * sz → cur'.toList.take (n * sz) = F → cur'.toList = F ++ mk → LentI w0 bt cs T fld A n c tE sz F mk (upd S 10 (.slice (some ⟨g, 0, none⟩) (n + 1) (n + 1))) (w.setRow g cur') := by
  have n16 := h.not16 (by decide) hS
  have n14 := h.none14 hS
  obtain ⟨y, h4⟩ := h.d7 v h7
  obtain ⟨g, cur, e1, e2, e3, e4, e5, e6, e7, e8⟩ := h.own y h4
  obtain ⟨b, f1, f2, f3⟩ := h.mark x h9
  have hbg : bt ≠ g := by have := h.lt; omega
  obtain ⟨e5a, e5b⟩ := e5 v h7
  refine ⟨g, cur, b, e5a, f1, e3, e4, e5b, f3, fun cur' hc ht hall => ?_⟩
  refine ⟨h.lt, by rw [size_setRow]; exact h.size, h.os, h.tape, h.output, fun k hk hb => (setRow_other w g k cur' (by omega)).trans (h.fr k hk hb), fun _ => box_other (h.tb n16) hbg, ?_, ?_, fun u hu => h.v0 u (by rwa [upd_ne S _ (by decide)] at hu), fun u hu => h.v1 u (by rwa [upd_ne S _ (by decide)] at hu), fun u hu => h.v2 u (by rwa [upd_ne S _ (by decide)] at hu), fun u hu => h.v3 u (by rwa [upd_ne S _ (by decide)] at hu), fun u hu => h.v5 u (by rwa [upd_ne S _ (by decide)] at hu), fun u hu => h.v6 u (by rwa [upd_ne S _ (by decide)] at hu), fun u hu => h.v8 u (by rwa [upd_ne S _ (by decide)] at hu), fun u hu => h.v11 u (by rwa [upd_ne S _ (by decide)] at hu), fun u hu => h.v12 u (by rwa [upd_ne S _ (by decide)] at hu), fun u hu => h.v13 u (by rwa [upd_ne S _ (by decide)] at hu), fun u hu => h.v15 u (by rwa [upd_ne S _ (by decide)] at hu), ?_, ?_, ?_, ?_, ?_⟩
  · intro u hu; rw [upd_ne S _ (by decide), n16] at hu; cases hu
  · intro u hu; rw [upd_ne S _ (by decide), n16] at hu; cases hu
  · intro u hu
    rw [upd_ne S _ (by decide), h4] at hu
    cases hu
    refine ⟨g, cur', e1, e2, box_setRow e3, hc, ?_, ?_, ?_, fun x hx => e8 x (by rwa [upd_ne S _ (by decide)] at hx)⟩
    · intro x hx; rw [upd_ne S _ (by decide), h7] at hx; cases hx; exact ⟨e5a, ht⟩
    · intro x hx; rw [upd_same] at hx; cases hx; exact ⟨rfl, hall⟩
    · intro x hx; rw [upd_ne S _ (by decide), n14] at hx; cases hx
  · intro u hu; rw [upd_ne S _ (by decide)]; exact ⟨_, h4⟩
  · intro u hu; rw [upd_ne S _ (by decide)]; exact ⟨_, h7⟩
  · intro u hu; rw [upd_ne S _ (by decide), n14] at hu; cases hu
  · intro u hu
    rw [upd_ne S _ (by decide)] at hu
    obtain ⟨b, f1, f2, f3⟩ := h.mark u hu
    refine ⟨b, f1, f2, box_other f3 (fun e => e8 u hu (by rw [f1, e]))⟩

theorem LentI.stored (h : LentI w0 bt cs T fld A n c tE sz F mk S w) (hS : S 16 = none) (hall : ∀ i, i < 16 → ∃ u, S i = some u) {x y : Value} (h14 : S 14 = some x) :
    LentI w0 bt cs T fld A n c tE sz F mk (upd S 16 y) (w.setCell ⟨bt, fld, none⟩ x) := by
  have hf : ∀ {b : Nat} {cur : Array Value} {tE : TypeId}, w0.heap.size ≤ b → Box w b cur tE → Box (w.setCell ⟨bt, fld, none⟩ x) b cur tE := fun hb hx => hx.other _ (by have := h.lt; show _ ≠ bt; omega) _
  refine ⟨h.lt, by rw [show (w.setCell ⟨bt, fld, none⟩ x).heap.size = w.heap.size from by simp [World.setCell]]; exact h.size, h.os, h.tape, h.output, fun k hk hb => (Below.heap_setCell w ⟨bt, fld, none⟩ x k hb).trans (h.fr k hk hb), ?_, ?_, ?_, fun u hu => h.v0 u (by rwa [upd_ne S _ (by decide)] at hu), fun u hu => h.v1 u (by rwa [upd_ne S _ (by decide)] at hu), fun u hu => h.v2 u (by rwa [upd_ne S _ (by decide)] at hu), fun u hu => h.v3 u (by rwa [upd_ne S _ (by decide)] at hu), fun u hu => h.v5 u (by rwa [upd_ne S _ (by decide)] at hu), fun u hu => h.v6 u (by rwa [upd_ne S _ (by decide)] at hu), fun u hu => h.v8 u (by rwa [upd_ne S _ (by decide)] at hu), fun u hu => h.v11 u (by rwa [upd_ne S _ (by decide)] at hu), fun u hu => h.v12 u (by rwa [upd_ne S _ (by decide)] at hu), fun u hu => h.v13 u (by rwa [upd_ne S _ (by decide)] at hu), fun u hu => h.v15 u (by rwa [upd_ne S _ (by decide)] at hu), ?_, ?_, ?_, ?_, ?_⟩
  · intro hu; rw [upd_same] at hu; cases hu
  · intro u hu; exact ⟨x, by rw [upd_ne S _ (by decide)]; exact h14, (h.tb hS).set fld x⟩
  · intro u hu i hi; rw [upd_ne S _ (by omega)]; exact hall i hi
  · intro u hu
    rw [upd_ne S _ (by decide)] at hu
    obtain ⟨g, cur, e1, e2, e3, e4, e5, e6, e7, e8⟩ := h.own u hu
    exact ⟨g, cur, e1, e2, hf e2 e3, e4, fun x hx => e5 x (by rwa [upd_ne S _ (by decide)] at hx), fun x hx => e6 x (by rwa [upd_ne S _ (by decide)] at hx), fun x hx => e7 x (by rwa [upd_ne S _ (by decide)] at hx), fun x hx => e8 x (by rwa [upd_ne S _ (by decide)] at hx)⟩
  · intro u hu; rw [upd_ne S _ (by decide)] at hu ⊢; exact h.d7 u hu
  · intro u hu; rw [upd_ne S _ (by decide)] at hu ⊢; exact h.d10 u hu
  · intro u hu; rw [upd_ne S _ (by decide)] at hu ⊢; exact h.d14 u hu
  · intro u hu
    rw [upd_ne S _ (by decide)] at hu
    obtain ⟨b, f1, f2, f3⟩ := h.mark u hu
    exact ⟨b, f1, f2, hf f2 f3⟩
end
end Go.Proofs.Ytmeogadkbbeglaa

namespace Go
section
variable {P : Program} (w : World)
theorem wp_make_room {o : Oper} {a : Act} {K : Act → World → Prop} {Q : Exit → Act → World → Prop} (c : Operand) (t : TypeId)
    (ho : o.op = .makeSlice t (.const (.int .i64 0)) c) (e : TypeId) (i : TypeInfo) (z : Value) (size bytes n : Nat) (ht : P.underlying t = some (.slice e)) (hi : P.info? e = some i) (hz : i.zero = some z)
    (hsize : i.size = size) (hby : i.bytes = bytes) (hc : a.eval c = .int .i64 ((n : Int) + 1)) (hbytes : bytes * (n + 1) ≤ 281474976710656) (h63 : n + 1 ≤ 9223372036854775807)
    (h : ∀ zs : Array Value, zs.size = (n + 1) * size → K (a.put o.dst (.slice (some ⟨w.heap.size, 0, none⟩) 0 (n + 1))) (w.alloc (.cells zs e))) : o.wp P a w K Q := by
  have hb : (i.bytes : Int) * ((n : Int) + 1) ≤ 281474976710656 := by
    have : ((bytes * (n + 1) : Nat) : Int) ≤ 281474976710656 := by omega
    rw [hby]
    rw [Int.natCast_mul] at this
    simpa using this
  have hr := run_make (P := P) w t e i z ht hi hz .i64 .i64 0 ((n : Int) + 1) (Int.le_refl _) (by omega) hb (by omega)
  rw [show ((n : Int) + 1).toNat = n + 1 by omega, show (0 : Int).toNat = 0 from rfl] at hr
  unfold Oper.wp execOp
  have h0 : a.eval (.const (.int .i64 0)) = .int .i64 0 := rfl
  simp only [ho, Sem.run_bind, Sem.run_pure, Result.andThen_ok, hc, h0, hr]
  exact h (madeCells z.cells ((n + 1) * i.size)) (by rw [size_madeCells, hsize])

theorem run_append_none (t ty e : TypeId) (i : TypeInfo) (ht : P.underlying t = some (.slice e)) (hi : P.info? e = some i) (ad : Addr) (l cp c : Nat) (hr : l ≤ cp) :
    (Builtin.append_ #[t, t] ty #[.slice (some ad) l cp, .slice none 0 c]).run P w = .ok (.slice (some ad) l cp) w := by
  simp [Builtin.append_, run_underlying ht, sizeOf, typeInfo, hi, Builtin.lenOf, hr, run_firstCells_none, storeCells]

theorem wp_append_room' {o : Oper} {a : Act} {K : Act → World → Prop} {Q : Exit → Act → World → Prop} (s x : Operand) (t : TypeId)
    (ho : o.op = .call { callee := .builtin .append, args := #[s, x], argTypes := #[t, t] })
    (e : TypeId) (i : TypeInfo) (size : Nat) (ht : P.underlying t = some (.slice e)) (hi : P.info? e = some i) (hsize : i.size = size)
    (g sLen sCap : Nat) (cur : Array Value) (hg : w.heap[g]? = some (.cells cur e (0, 0))) (hs : a.eval s = .slice (some ⟨g, 0, none⟩) sLen sCap)
    (A : Option Addr) (m c : Nat) (news : List Value) (hx : a.eval x = .slice A m c) (hA : A = none → m = 0) (hl : news.length = m * size)
    (hnews : ∀ ad, A = some ad → ∀ j u, news[j]? = some u → w.cell? (ad.add j) = some u) (h1 : ∀ u ∈ news, u.oneCell' = true)
    (hroom : sLen + m ≤ sCap) (hfit : (sLen + m) * size ≤ cur.size)
    (h : K (a.put o.dst (.slice (some ⟨g, 0, none⟩) (sLen + m) sCap)) (w.setRow g (cur.toList.take (sLen * size) ++ news ++ cur.toList.drop (sLen * size + news.length)).toArray)) : o.wp P a w K Q := by
  subst hsize
  have hr : (Builtin.append_ #[t, t] o.type #[.slice (some ⟨g, 0, none⟩) sLen sCap, .slice A m c]).run P w = .ok (.slice (some ⟨g, 0, none⟩) (sLen + m) sCap) (w.setRow g (cur.toList.take (sLen * i.size) ++ news ++ cur.toList.drop (sLen * i.size + news.length)).toArray) := by
    cases A with
    | none =>
      have hm := hA rfl
      subst hm
      have hn : news = [] := by simpa using hl
      subst hn
      rw [run_append_none w t o.type e i ht hi ⟨g, 0, none⟩ sLen sCap c (by omega)]
      simp only [List.append_nil, List.length_nil, Nat.add_zero, List.take_append_drop, Array.toArray_toList]
      rw [setRow_self w g cur e (0, 0) hg]
    | some ad => exact run_append_room w t o.type e i ht hi g sLen sCap cur hg ad m c news hl (hnews ad rfl) h1 hroom (by rw [hl, ← Nat.add_mul]; exact hfit)
  unfold Oper.wp execOp
  simp only [ho, resolve, invoke, builtin, Sem.run_bind, Sem.run_pure, Result.andThen_ok, List.map_toArray, List.map_cons, List.map_nil, hs, hx, hr]
  exact h
end
end Go
namespace Go.Proofs.Ytmeogadkbbeglaa
open Go.RowKit Go.Rg
theorem iStation : (Try.prog.info? 35).map (fun i => (i.zero, i.size, i.bytes)) = some (some (.agg #[.int .i64 0, .int .i64 0, .int .i64 0]), 3, 24) := by kernel_rfl
theorem iSpan : (Try.prog.info? 39).map (fun i => (i.zero, i.size, i.bytes)) = some (some (.agg #[.int .i64 0, .int .i64 0, .int .i64 0, .int .i64 0, .int .i64 0]), 5, 40) := by kernel_rfl
theorem iBand : (Try.prog.info? 48).map (fun i => (i.zero, i.size, i.bytes)) = some (some (.agg #[.int .i64 0, .int .i64 0]), 2, 16) := by kernel_rfl
theorem flat_cells {α : Type} (vals : α → List Value) (sz : Nat) (hs : ∀ x, (vals x).length = sz) : ∀ (xs : List α) (j : Nat) (u : Value), (xs.flatMap vals)[j]? = some u → ∃ i x k, xs[i]? = some x ∧ (vals x)[k]? = some u ∧ j = i * sz + k
  | [], j, u, h => by simp at h
  | y :: ys, j, u, h => by
    rw [List.flatMap_cons] at h
    by_cases hj : j < sz
    · rw [List.getElem?_append_left (by rw [hs]; exact hj)] at h
      exact ⟨0, y, j, rfl, h, by omega⟩
    · rw [List.getElem?_append_right (by rw [hs]; omega), hs] at h
      obtain ⟨i, x, k, h1, h2, h3⟩ := flat_cells vals sz hs ys (j - sz) u h
      exact ⟨i + 1, x, k, by simpa using h1, h2, by rw [Nat.succ_mul]; omega⟩
theorem flat_len {α : Type} (vals : α → List Value) (sz : Nat) (hs : ∀ x, (vals x).length = sz) (xs : List α) : (xs.flatMap vals).length = xs.length * sz := by
  induction xs with
  | nil => simp
  | cons y ys ih => rw [List.flatMap_cons, List.length_append, ih, hs, List.length_cons, Nat.succ_mul]; omega
theorem SliceAt.none_nil {α : Type} {w : World} {sz : Nat} {vals : α → List Value} {xs : List α} (h : SliceAt w sz vals none xs) : xs.length = 0 := by
  cases xs with
  | nil => rfl
  | cons y ys => obtain ⟨b, off, e, -⟩ := h.2 0 y rfl; cases e
theorem SliceAt.cells {α : Type} {w : World} {sz : Nat} {vals : α → List Value} {A : Option Addr} {xs : List α} (h : SliceAt w sz vals A xs) (hs : ∀ x, (vals x).length = sz) :
    ∀ ad, A = some ad → ∀ j u, (xs.flatMap vals)[j]? = some u → w.cell? (ad.add j) = some u := by
  intro ad hA j u hj
  obtain ⟨i, x, k, h1, h2, h3⟩ := flat_cells vals sz hs xs j u hj
  obtain ⟨b, off, e, hc⟩ := h.2 i x h1
  rw [hA] at e
  cases e
  have := hc k u h2
  rw [← this, h3, Nat.add_assoc]
  have e : (⟨b, off, none⟩ : Addr).add (i * sz + k) = ⟨b, off + (i * sz + k), none⟩ := by
    simp only [Addr.add]
    split <;> first | rfl | simp_all
  rw [e]
theorem addr_zero (b j : Nat) : (⟨b, 0, none⟩ : Addr).add j = ⟨b, j, none⟩ := by
  simp only [Addr.add]
  split <;> first | (simp; done) | (simp_all; done) | (simp; omega)
theorem LentI.below {w0 : World} {bt : Nat} {cs : Array Value} {T : TypeId} {fld : Nat} {A : Option Addr} {n c : Nat} {tE : TypeId} {sz : Nat} {F mk : List Value} {S : Nat → Option Value} {w : World} (h : LentI w0 bt cs T fld A n c tE sz F mk S w) {B : Nat} {v : World} (hb : Below B v w0) (hB : B ≤ bt) : Below B v w :=
  ⟨h.os.trans hb.os, h.tape.trans hb.tape, h.output.trans hb.output, Nat.le_trans hb.size h.size, fun k hk => (h.fr k (by have := h.lt; omega) (by omega)).trans (hb.block k hk)⟩
theorem LentI.done {w0 : World} {bt : Nat} {cs : Array Value} {T : TypeId} {fld : Nat} {A : Option Addr} {n c : Nat} {tE : TypeId} {sz : Nat} {F mk : List Value} {S : Nat → Option Value} {w : World} (h : LentI w0 bt cs T fld A n c tE sz F mk S w) {v : Value} (h16 : S 16 = some v) :
    ∃ g cur, Box w bt (cs.setIfInBounds fld (.slice (some ⟨g, 0, none⟩) n (n + 1))) T ∧ w0.heap.size ≤ g ∧ Box w g cur tE ∧ cur.toList = F ++ mk := by
  obtain ⟨u, h14, hb⟩ := h.te v h16
  obtain ⟨x10, s10⟩ := h.d14 _ h14
  obtain ⟨x7, s7⟩ := h.d10 _ s10
  obtain ⟨x4, s4⟩ := h.d7 _ s7
  obtain ⟨g, cur, -, e2, e3, -, -, e6, e7, -⟩ := h.own _ s4
  obtain rfl := e7 _ h14
  exact ⟨g, cur, hb, e2, e3, (e6 _ s10).2⟩
theorem LentI.other {w0 : World} {bt : Nat} {cs : Array Value} {T : TypeId} {fld : Nat} {A : Option Addr} {n c : Nat} {tE : TypeId} {sz : Nat} {F mk : List Value} {S : Nat → Option Value} {w : World} (h : LentI w0 bt cs T fld A n c tE sz F mk S w) {b : Nat} {cs' : Array Value} {T' : TypeId} (hb : Box w0 b cs' T') (hne : b ≠ bt) : Box w b cs' T' :=
  (h.fr b hb.lt hne).trans hb
theorem eval_at {a : Act} {t : Tmp} {v : Value} (h : a.tmps[t]? = some v) : a.eval (.tmp t) = v := by
  show a.tmps.getD t undef = v
  rw [Array.getD_eq_getD_getElem?, h]; rfl
end Go.Proofs.Ytmeogadkbbeglaa

namespace Go.Proofs.Ytmeogadkbbeglaa
open Go.RowKit
set_option maxHeartbeats 800000

def minusB (b : Nat) : Bool := b / 9223372036854775808 == 1
def powN (b : Nat) : Nat := b / 4503599627370496 % 2048
def partsF (b : Nat) : Bool × Nat × Int × Bool :=
  if powN b = 2047 then (minusB b, b % 4503599627370496, 0, false)
  else if powN b = 0 then (minusB b, b % 4503599627370496, -1074, true)
  else (minusB b, b % 4503599627370496 + 4503599627370496, (powN b : Int) - 1075, true)

theorem parts_calls (b : Nat) (hb : b < 18446744073709551616) (w : World) :
    Calls Try.prog 132 #[.float .f64 b] w fun e w' => e = .returned (.tuple #[.bool (partsF b).1, .int .u64 ((partsF b).2.1 : Int), .int .i64 (partsF b).2.2.1, .bool (partsF b).2.2.2]) ∧ w = w' := by
  have hx := bits_run b
  go_enter Try.func132, Try.ntmps132
  go_wp2_with fail
  all_goals
    have hm : (((b : Int) / 9223372036854775808) == 1) = minusB b := by
      unfold minusB
      rw [Bool.eq_iff_iff]
      simp only [beq_iff_eq]
      omega
    first
    | (have h1 : powN b = 2047 := by unfold powN; simp_all; omega
       have e : partsF b = (minusB b, b % 4503599627370496, 0, false) := by unfold partsF; rw [if_pos h1])
    | (have h1 : powN b ≠ 2047 := by unfold powN; simp_all; omega
       have h2 : powN b = 0 := by unfold powN; simp_all; omega
       have e : partsF b = (minusB b, b % 4503599627370496, -1074, true) := by unfold partsF; rw [if_neg h1, if_pos h2])
    | (have h1 : powN b ≠ 2047 := by unfold powN; simp_all; omega
       have h2 : powN b ≠ 0 := by unfold powN; simp_all; omega
       have e : partsF b = (minusB b, b % 4503599627370496 + 4503599627370496, (powN b : Int) - 1075, true) := by unfold partsF; rw [if_neg h1, if_neg h2])
    rw [e]
    refine bodyPost_ret ?_ rfl ⟨rfl, rfl⟩
    simp [results, Try.results132, go_sem, hm, powN]

def rankF (b : Nat) : Int :=
  if (partsF b).2.2.2 = false then (if (partsF b).2.1 ≠ 0 then 6 else if (partsF b).1 = true then 0 else 5)
  else if (partsF b).2.1 = 0 then (if (partsF b).1 = true then 2 else 3)
  else if (partsF b).1 = true then 1 else 4

theorem rank_calls (b : Nat) (hb : b < 18446744073709551616) (w : World) :
    Calls Try.prog 137 #[.float .f64 b] w fun e w' => e = .returned (.int .i64 (rankF b)) ∧ w = w' := by
  unfold rankF
  obtain ⟨m, n, p, ok⟩ : ∃ q : Bool × Nat × Int × Bool, True := ⟨partsF b, trivial⟩
  have hc := parts_calls b hb w
  generalize partsF b = q at hc ⊢
  obtain ⟨m, n, p, ok⟩ := q
  simp only at hc ⊢
  cases ok <;> cases m <;> by_cases hn : n = 0
  all_goals
    first
    | (subst hn)
    | (have hg : ((n : Int) == 0) = false := by simp; omega
       have hp : decide ((0 : Int) < (n : Int)) = true := by simp; omega)
    go_enter Try.func137, Try.ntmps137
    go_wp2_with (go_at_call 132; (with_reducible refine hc.mono ?_); rintro e w' ⟨rfl, rfl⟩)
    go_ret
    exact ⟨ret_int (by simp_all), rfl⟩

open Ieee in
theorem order_self (b : Nat) : FloatKind.f64.format.order b b = none ∨ FloatKind.f64.format.order b b = some .eq := by
  show (double.read b).order (double.read b) = none ∨ (double.read b).order (double.read b) = some .eq
  cases double.read b <;> simp [Datum.order]

theorem order_same (b : Nat) (hb : b < 18446744073709551616) (w : World) :
    Calls Try.prog 92 #[.float .f64 b, .float .f64 b] w fun e w' => e = .returned (.int .i64 0) ∧ w = w' := by
  have hc := rank_calls b hb w
  generalize rankF b = r at hc
  rcases order_self b with ho | ho <;> by_cases h1 : r = 1 <;> by_cases h4 : r = 4
  all_goals
    try subst h1
    try subst h4
    go_enter Try.func92, Try.ntmps92
    go_wp2_with (go_at_call 137; (with_reducible refine hc.mono ?_); rintro e w' ⟨rfl, rfl⟩)
    all_goals
      go_ret
      exact ⟨rfl, rfl⟩
end Go.Proofs.Ytmeogadkbbeglaa

namespace Go.Proofs.Ytmeogadkbbeglaa
open Go.RowKit
set_option maxHeartbeats 1600000
set_option maxRecDepth 100000

theorem same_calls (t : Tariff) (m n : TMem) (w : World) (h1 : t.At w m) (h2 : t.At w n) :
    Calls Try.prog 38 #[.agg (t.cells m), .agg (t.cells n)] w fun e w' => e = .returned (.bool true) ∧ Below w.heap.size w w' := by
  obtain ⟨p1, r1, p2, r2, p3, r3⟩ := m
  obtain ⟨q1, s1, q2, s2, q3, s3⟩ := n
  have HX := (Box.new w (t.cells ⟨p1, r1, p2, r2, p3, r3⟩) 27).alloc (.cells (t.cells ⟨q1, s1, q2, s2, q3, s3⟩) 27)
  have HY := Box.new' (w := w.alloc (.cells (t.cells ⟨p1, r1, p2, r2, p3, r3⟩) 27)) (b := w.heap.size + 1) (by simp) (t.cells ⟨q1, s1, q2, s2, q3, s3⟩) 27
  have hB := bAlloc (bAlloc (Below.refl w.heap.size w) (.cells (t.cells ⟨p1, r1, p2, r2, p3, r3⟩) 27)) (.cells (t.cells ⟨q1, s1, q2, s2, q3, s3⟩) 27)
  replace h1 := h1.keep hB
  replace h2 := h2.keep hB
  have hst := h1.st.1
  have hsp := h1.sp.1
  have hpk := h1.pk.1
  go_enter Try.func38, Try.ntmps38
  go_wp2_with (go_at_call 92; (with_reducible refine (order_same _ h1.off _).mono ?_); rintro e w' ⟨rfl, rfl⟩)
  generalize (w.alloc (.cells (t.cells ⟨p1, r1, p2, r2, p3, r3⟩) 27)).alloc _ = w2 at *
  go_loopw [5] (fun i wr => ∃ k : Nat, k ≤ t.st.length ∧ i = .int .i64 k ∧ Below w2.heap.size w2 wr) (fun i _ => t.st.length - (intOf i).toNat)
  case atStart => exact ⟨0, by omega, rfl, Below.refl _ _⟩
  case round =>
    obtain ⟨k, hk, rfl, hbr⟩ := hrel
    have HXr := HX.below' hbr
    have HYr := HY.below' hbr
    obtain ⟨t0, t1, t2, t3, t4, t5, t6, t7, t8, t9, t10, t11, t12, t13⟩ := tcells HXr
    obtain ⟨u0, u1, u2, u3, u4, u5, u6, u7, u8, u9, u10, u11, u12, u13⟩ := tcells HYr
    by_cases hlt : k < t.st.length
    · obtain ⟨b, off, e, c0, c1, c2⟩ := elem3 h1.st hbr k hlt
      simp only at e
      subst e
      obtain ⟨d, ofd, e, d0, d1, d2⟩ := elem3 h2.st hbr k hlt
      simp only at e
      subst e
      have lt0 := HXr.lt
      have lt1 := HYr.lt
      have lt2 := World.block_lt_of_cell? _ _ c0
      have lt3 := World.block_lt_of_cell? _ _ d0
      go_wp2_with fail
      (refine wp_region_calm_lit (by kernel_rfl) (by kernel_rfl) ?_; (repeat (go_big_quiet_step (fail))); refine wpQuiet_nil ?_; intro _ hw'; obtain ⟨nq, hw''⟩ := hw'; subst hw'')
      go_wp2_with fail
      go_roundw
      case rel => exact ⟨k + 1, by omega, by go_num, bThen hbr (World.below_ext _ _)⟩
      case measure => simp [intOf]; omega
    · go_wp2_with fail
      clear t0 t1 t2 t3 t4 t5 t6 t7 t8 t9 t10 t11 t12 t13 u0 u1 u2 u3 u4 u5 u6 u7 u8 u9 u10 u11 u12 u13 HXr HYr hlt hk
      generalize wr = wu at *
      go_loopw [6] (fun i wr => ∃ k : Nat, k ≤ t.sp.length ∧ i = .int .i64 k ∧ Below w2.heap.size w2 wr) (fun i _ => t.sp.length - (intOf i).toNat)
      case atStart => exact ⟨0, by omega, rfl, hbr⟩
      case round =>
        obtain ⟨k, hk, rfl, hbr⟩ := hrel
        have HXr := HX.below' hbr
        have HYr := HY.below' hbr
        obtain ⟨t0, t1, t2, t3, t4, t5, t6, t7, t8, t9, t10, t11, t12, t13⟩ := tcells HXr
        obtain ⟨u0, u1, u2, u3, u4, u5, u6, u7, u8, u9, u10, u11, u12, u13⟩ := tcells HYr
        by_cases hlt : k < t.sp.length
        · obtain ⟨b, off, e, c0, c1, c2, c3, c4⟩ := elem5 h1.sp hbr k hlt
          simp only at e
          subst e
          obtain ⟨d, ofd, e, d0, d1, d2, d3, d4⟩ := elem5 h2.sp hbr k hlt
          simp only at e
          subst e
          have lt0 := HXr.lt
          have lt1 := HYr.lt
          have lt2 := World.block_lt_of_cell? _ _ c0
          have lt3 := World.block_lt_of_cell? _ _ d0
          go_wp2_with fail
          (refine wp_region_calm_lit (by kernel_rfl) (by kernel_rfl) ?_; (repeat (go_big_quiet_step (fail))); refine wpQuiet_nil ?_; intro _ hw'; obtain ⟨nq, hw''⟩ := hw'; subst hw'')
          go_wp2_with fail
          go_roundw
          case rel => exact ⟨k + 1, by omega, by go_num, bThen hbr (World.below_ext _ _)⟩
          case measure => simp [intOf]; omega
        · go_wp2_with fail
          clear t0 t1 t2 t3 t4 t5 t6 t7 t8 t9 t10 t11 t12 t13 u0 u1 u2 u3 u4 u5 u6 u7 u8 u9 u10 u11 u12 u13 HXr HYr hlt hk
          generalize wr = wv at *
          go_loopw [7] (fun i wr => ∃ k : Nat, k ≤ t.pk.length ∧ i = .int .i64 k ∧ Below w2.heap.size w2 wr) (fun i _ => t.pk.length - (intOf i).toNat)
          case atStart => exact ⟨0, by omega, rfl, hbr⟩
          case round =>
            obtain ⟨k, hk, rfl, hbr⟩ := hrel
            have HXr := HX.below' hbr
            have HYr := HY.below' hbr
            obtain ⟨t0, t1, t2, t3, t4, t5, t6, t7, t8, t9, t10, t11, t12, t13⟩ := tcells HXr
            obtain ⟨u0, u1, u2, u3, u4, u5, u6, u7, u8, u9, u10, u11, u12, u13⟩ := tcells HYr
            by_cases hlt : k < t.pk.length
            · obtain ⟨b, off, e, c0, c1⟩ := elem2 h1.pk hbr k hlt
              simp only at e
              subst e
              obtain ⟨d, ofd, e, d0, d1⟩ := elem2 h2.pk hbr k hlt
              simp only at e
              subst e
              have lt0 := HXr.lt
              have lt1 := HYr.lt
              have lt2 := World.block_lt_of_cell? _ _ c0
              have lt3 := World.block_lt_of_cell? _ _ d0
              go_wp2_with fail
              (refine wp_region_calm_lit (by kernel_rfl) (by kernel_rfl) ?_; (repeat (go_big_quiet_step (fail))); refine wpQuiet_nil ?_; intro _ hw'; obtain ⟨nq, hw''⟩ := hw'; subst hw'')
              go_wp2_with fail
              go_roundw
              case rel => exact ⟨k + 1, by omega, by go_num, bThen hbr (World.below_ext _ _)⟩
              case measure => simp [intOf]; omega
            · go_wp2_with fail
              go_ret
              exact ⟨rfl, bThen hB hbr⟩
end Go.Proofs.Ytmeogadkbbeglaa
