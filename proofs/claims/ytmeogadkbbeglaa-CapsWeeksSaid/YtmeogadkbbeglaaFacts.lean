/- Facts on the program alone that every row of the seat asks: the head of the print, by its words. -/
import Derived.Test.YtmeogadkbbeglaaRows
import Derived.JoinedOf
import Derived.WalkKit
namespace Go.Proofs.Ytmeogadkbbeglaa
def headSum : List Char := ['f', 'e', 'c', '5', 'a', '7', '8', 'f', '0', '8', 'd', '1', '5', 'e', '1', 'f', '4', '9', 'c', '3', '7', '9', '7', '6', '7', 'a', 'f', '7', 'e', 'f', '8', '6', '9', '7', '6', '7', 'e', 'c', '1', '7', 'b', '1', 'f', 'b', '7', '4', 'f', '8', 'b', '5', 'c', 'e', '6', 'e', '8', '2', '2', '6', '0', '3', '0', 'c', '5', '5']
def headTail : List Char := ['a', 't', ' ', 'f', 'a', 'r', 'e', 'b', 'o', 'x', '/', 'f', 'a', 'r', 'e', 'b', 'o', 'x', 'l', 'a', 'w', '0', '7', '.', 'T', 'a', 'r', 'i', 'f', 'f', 'R', 'i', 'g', 'h', 't', 's', ' ', 'f', 'a', 'r', 'e', 'b', 'o', 'x', '/', 'f', 'a', 'r', 'e', 'b', 'o', 'x', 'l', 'a', 'w', '0', '7', '.', 'T', 'a', 'r', 'i', 'f', 'f', 'A', 's', 'k', 's', ' ', 'f', 'a', 'r', 'e', 'b', 'o', 'x', '/', 'f', 'a', 'r', 'e', 'b', 'o', 'x', 'l', 'a', 'w', '0', '7', '.', 'T', 'a', 'r', 'i', 'f', 'f', 'W', 'i', 'd', 'e', 'r', ' ', 'f', 'a', 'r', 'e', 'b', 'o', 'x', '/', 'f', 'a', 'r', 'e', 'b', 'o', 'x', 'l', 'a', 'w', '0', '7', '.', 'T', 'a', 'r', 'i', 'f', 'f', 'R', 'a', 't', 'e', 's', ' ', 'f', 'a', 'r', 'e', 'b', 'o', 'x', '/', 'f', 'a', 'r', 'e', 'b', 'o', 'x', 'l', 'a', 'w', '0', '7', '.', 'T', 'a', 'r', 'i', 'f', 'f', 'C', 'o', 'p', 'i', 'e', 's', ' ', 'f', 'a', 'r', 'e', 'b', 'o', 'x', '/', 'f', 'a', 'r', 'e', 'b', 'o', 'x', 'l', 'a', 'w', '1', '8', '.', 'F', 'a', 'r', 'e', 'B', 'a', 'c', 'k', ' ', 'f', 'a', 'r', 'e', 'b', 'o', 'x', '/', 'f', 'a', 'r', 'e', 'b', 'o', 'x', 'l', 'a', 'w', '1', '8', '.', 'F', 'a', 'r', 'e', 'O', 'f', 'f', ' ', 'f', 'a', 'r', 'e', 'b', 'o', 'x', '/', 'f', 'a', 'r', 'e', 'b', 'o', 'x', 'l', 'a', 'w', '1', '9', '.', 'C', 'a', 'p', 's', 'D', 'a', 'y', 's', ' ', 'f', 'a', 'r', 'e', 'b', 'o', 'x', '/', 'f', 'a', 'r', 'e', 'b', 'o', 'x', 'l', 'a', 'w', '1', '9', '.', 'C', 'a', 'p', 's', 'W', 'e', 'e', 'k', 's', ' ', 'f', 'a', 'r', 'e', 'b', 'o', 'x', '/', 'f', 'a', 'r', 'e', 'b', 'o', 'x', 'l', 'a', 'w', '1', '9', '.', 'C', 'a', 'p', 's', 'H', 'o', 'l', 'd', ' ', 'f', 'a', 'r', 'e', 'b', 'o', 'x', '/', 'f', 'a', 'r', 'e', 'b', 'o', 'x', 'l', 'a', 'w', '1', '9', '.', 'C', 'a', 'p', 's', 'L', 'e', 's', 's', ' ', 'f', 'a', 'r', 'e', 'b', 'o', 'x', '/', 'f', 'a', 'r', 'e', 'b', 'o', 'x', 'l', 'a', 'w', '1', '9', '.', 'C', 'a', 'p', 's', 'M', 'i', 'x', 'e', 'd', ' ', 'f', 'a', 'r', 'e', 'b', 'o', 'x', '/', 'f', 'a', 'r', 'e', 'b', 'o', 'x', 'l', 'a', 'w', '1', '8', '.', 'F', 'a', 'r', 'e', 'A', 's', 'k', 's', ' ', 'f', 'a', 'r', 'e', 'b', 'o', 'x', '/', 'f', 'a', 'r', 'e', 'b', 'o', 'x', 'l', 'a', 'w', '1', '7', '.', 'J', 'o', 'u', 'r', 'n', 'e', 'y', 'D', 'a', 'y', 's', ' ', 'f', 'a', 'r', 'e', 'b', 'o', 'x', '/', 'f', 'a', 'r', 'e', 'b', 'o', 'x', 'l', 'a', 'w', '1', '7', '.', 'J', 'o', 'u', 'r', 'n', 'e', 'y', 'B', 'u', 'i', 'l', 'd', 's', ' ', 'f', 'a', 'r', 'e', 'b', 'o', 'x', '/', 'f', 'a', 'r', 'e', 'b', 'o', 'x', 'l', 'a', 'w', '1', '7', '.', 'J', 'o', 'u', 'r', 'n', 'e', 'y', 'C', 'o', 'u', 'n', 't', 's', ' ', 'f', 'a', 'r', 'e', 'b', 'o', 'x', '/', 'f', 'a', 'r', 'e', 'b', 'o', 'x', 'l', 'a', 'w', '1', '7', '.', 'J', 'o', 'u', 'r', 'n', 'e', 'y', 'L', 'i', 'e', 's', ' ', 'f', 'a', 'r', 'e', 'b', 'o', 'x', '/', 'f', 'a', 'r', 'e', 'b', 'o', 'x', 'l', 'a', 'w', '1', '7', '.', 'J', 'o', 'u', 'r', 'n', 'e', 'y', 'A', 'l', 'o', 'n', 'e', ' ', 'f', 'a', 'r', 'e', 'b', 'o', 'x', '/', 'f', 'a', 'r', 'e', 'b', 'o', 'x', 'l', 'a', 'w', '1', '7', '.', 'J', 'o', 'u', 'r', 'n', 'e', 'y', 'S', 'p', 'l', 'i', 't', 's', ' ', 'f', 'a', 'r', 'e', 'b', 'o', 'x', '/', 'f', 'a', 'r', 'e', 'b', 'o', 'x', 'l', 'a', 'w', '2', '1', '.', 'C', 'h', 'a', 'r', 'g', 'e', 'R', 'e', 'f', 'u', 'n', 'd', 's', ' ', 'f', 'a', 'r', 'e', 'b', 'o', 'x', '/', 'f', 'a', 'r', 'e', 'b', 'o', 'x', 'l', 'a', 'w', '2', '1', '.', 'C', 'h', 'a', 'r', 'g', 'e', 'C', 'a', 'p', 's', ' ', 'f', 'a', 'r', 'e', 'b', 'o', 'x', '/', 'f', 'a', 'r', 'e', 'b', 'o', 'x', 'l', 'a', 'w', '2', '1', '.', 'C', 'h', 'a', 'r', 'g', 'e', 'A', 'l', 'i', 'k', 'e', ' ', 'f', 'a', 'r', 'e', 'b', 'o', 'x', '/', 'f', 'a', 'r', 'e', 'b', 'o', 'x', 'l', 'a', 'w', '2', '1', '.', 'C', 'h', 'a', 'r', 'g', 'e', 'B', 'u', 's', 'e', 's']
def headChars : List Char := ['h', 'a', 'r', 'n', 'e', 's', 's'] ++ ' ' :: (headSum ++ ' ' :: (['c', 'u', 't'] ++ ' ' :: headTail))
theorem head_is : Try.prog.initOrder = String.ofList headChars := by kernel_rfl
theorem head_list : Try.prog.initOrder.toList = headChars := by rw [head_is, String.toList_ofList]
theorem wordsSigns_word : ∀ (u r : List Char), u.all (fun c => c != ' ') = true → wordsSigns (u ++ ' ' :: r) = u :: wordsSigns r
  | [], r, _ => by rw [List.nil_append, wordsSigns]
  | c :: u, r, h => by
    rw [List.all_cons, Bool.and_eq_true] at h
    have hc : c ≠ ' ' := by simpa using h.1
    rw [List.cons_append, wordsSigns, wordsSigns_word u r h.2]
    exact hc
theorem words_is : behindMainWord (wordsSigns Try.prog.initOrder.toList) = ['c', 'u', 't'] :: wordsSigns headTail := by
  rw [head_list, headChars, wordsSigns_word _ _ (by decide), wordsSigns_word _ _ (by decide +kernel), wordsSigns_word _ _ (by decide)]
  generalize wordsSigns headTail = l
  kernel_rfl
theorem doorRows_is : Try.prog.doorRows = [] := by kernel_rfl
theorem laysLater_is : Try.prog.laysLater = false := by kernel_rfl
theorem bearsReflect_is : Try.prog.bearsReflect = false := by kernel_rfl
theorem mayEnter_of (P : Program) (l : List (List Char)) (h : behindMainWord (wordsSigns P.initOrder.toList) = ['c', 'u', 't'] :: l) (h1 : P.laysLater = false) (h2 : P.bearsReflect = false) (h3 : P.doorRows = []) : P.mayEnter = true := by
  unfold Program.mayEnter Program.doorFits
  rw [h, h1, h2, h3]
  kernel_rfl
theorem lifts_of (P : Program) (l : List (List Char)) (h : behindMainWord (wordsSigns P.initOrder.toList) = ['c', 'u', 't'] :: l) : P.liftsFinal = false := by
  unfold Program.liftsFinal Program.headLifts
  rw [h]
  kernel_rfl
theorem make_of (P : Program) (l : List (List Char)) (h : behindMainWord (wordsSigns P.initOrder.toList) = ['c', 'u', 't'] :: l) : P.make = some .cut := by
  unfold Program.make
  rw [h]
  kernel_rfl
theorem mayEnter_is : Try.prog.mayEnter = true := mayEnter_of _ _ words_is laysLater_is bearsReflect_is doorRows_is
theorem lifts_is : Try.prog.liftsFinal = false := lifts_of _ _ words_is
theorem make_is : Try.prog.make = some .cut := make_of _ _ words_is
theorem fact_laid : laidOutB Try.prog = true := by kernel_rfl
theorem fact_maps : mapsRowed Try.prog = true := by kernel_rfl
theorem fact_keys : Try.prog.plainKeys = true := by kernel_rfl
theorem fact_heard : Try.prog.stopsHeard = true := by kernel_rfl
theorem and_t {a b : Bool} (h : a = true) (g : b = true) : (a && b) = true := by rw [h, g]; rfl
theorem beq_r {α : Type} [BEq α] {c x y : α} (h : x = y) (g : (c == y) = true) : (c == x) = true := by rw [h]; exact g
theorem beq_l {α : Type} [BEq α] {c x y : α} (h : x = y) (g : (y == c) = true) : (x == c) = true := by rw [h]; exact g
theorem joined_of (P : Program) (f : FuncId) (fn : Func) (s : ChangeSpec) (c : OpenClaim)
    (h0 : c.wf (OpenSpec.ofChange s) = true)
    (h1 : laidOutB P = true)
    (h2 : mapsRowed P = true)
    (h3 : (fn.params.all (P.readableRec ·)) = true)
    (h4 : namedTie P c.named s.vars = true)
    (h5 : (c.stops == []) = true)
    (h6 : (P.stops == []) = true)
    (h7 : (c.knobs == []) = true)
    (h8 : (P.stopKnobs == []) = true)
    (h9 : (c.inPlace == P.inPlace f) = true)
    (h10 : (c.unfollowed == P.unfollowed f) = true)
    (h11 : (c.recurses == P.recurses f) = true)
    (h12 : (c.named == P.varsNamed f) = true)
    (h13 : (c.maps == (fn.params.toList ++ s.plain.varTypes P).any (P.mapsRec ·)) = true)
    (h14 : (c.ifaces == (fn.params.toList ++ s.plain.varTypes P).any (P.ifacesRec ·)) = true)
    (h15 : (c.mapsOut == P.mapsAmong fn.resultTypes.toList) = true)
    (h16 : (c.loops == (fn.params.toList ++ s.plain.varTypes P).any (P.loopsFrom ·)) = true)
    (h17 : (c.wideKeys == (fn.params.toList ++ s.plain.varTypes P ++ fn.resultTypes.toList).any (P.wideKeysFrom ·)) = true)
    (h18 : s.vars.all (P.varReadable ·) = true)
    (h19 : fn.resultTypes.all (fun t => P.readableRec t && decide (t < P.types.size)) = true)
    (h20 : (c.ifacesOut == fn.resultTypes.toList.any (P.ifacesRec ·)) = true)
    (h21 : (c.loopsOut == fn.resultTypes.toList.any (P.loopsFrom ·)) = true)
    (h22 : (c.plainKeys == P.plainKeys) = true)
    (h23 : c.shortTexts.isNone = true)
    (h24 : P.stopsHeard = true)
    (h25 : P.mayEnter = true)
    (h26 : (c.lifted == P.liftsFinal) = true)
    (h27 : (P.make == some c.make) = true)
    (h28 : (c.kinds == (if c.domain.isEmpty then [] else fn.params.toList.map fun t => match P.underlying t with | some (.int k) => some k | _ => none)) = true)
    (h29 : (c.pinned == c.pinnedBy) = true)
    (h30 : (c.veiled == (fn.params.toList ++ s.plain.varTypes P ++ fn.resultTypes.toList).any (P.veiledRec ·)) = true)
    (h31 : c.veiledFits P fn.params.toList (fn.params.toList ++ s.plain.varTypes P ++ fn.resultTypes.toList) = true) : joinedFacts P f fn s c = true := by
  unfold joinedFacts
  repeat' (with_reducible refine and_t ?_ ?_)
  all_goals assumption
end Go.Proofs.Ytmeogadkbbeglaa
