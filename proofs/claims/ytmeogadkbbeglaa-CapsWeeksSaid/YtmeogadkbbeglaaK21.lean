/- What the reference's printed functions Station, Span, Scale, Single compute: the same as the plain functions. -/
import Derived.Test.YtmeogadkbbeglaaK16
import Derived.Test.YtmeogadkbbeglaaK3
import Derived.Test.YtmeogadkbbeglaaK8
import Derived.Test.YtmeogadkbbeglaaK20
import Derived.Test.YtmeogadkbbeglaaK14
import Derived.Test.YtmeogadkbbeglaaK13
namespace Go.Proofs.Ytmeogadkbbeglaa
open Go.RowKit Go.Proofs.YtmeogadkbbeglaaQ Go.Proofs.YtmeogadkbbeglaaW.PrintWords Go.Proofs.YtmeogadkbbeglaaW.PrintLast Go.Proofs.YtmeogadkbbeglaaW.PrintMore
set_option linter.unusedVariables false
set_option linter.unusedSimpArgs false
theorem refsp_l (t : Tariff) (h : Tariff.fits t) (a b : Int) : ∀ (d i : Nat), i + d = t.sp.length → Ev (fun k => fareboxref07_Span.l0 k a b i ((t).st.map ofSt) ((t).sp.map ofSp) ((t).pk.map ofBd) (t).off (t).bus (t).busDaily (t).busWeekly (t).hopper (t).most (t).longest (t).change (t).passback (t).delay (t).threshold) (spOut (spFind (t.sp.drop i) a b))
  | 0, i, hd => by
    refine Ev.step (f := fun _ => some (0, 0, 0, 0, 0, false)) (fun k => ?_) ?_
    · simp only [fareboxref07_Span.l0, List.length_map]
      rw [if_neg (by omega)]
    · rw [List.drop_of_length_le (by omega)]; exact Ev.now _
  | d + 1, i, hd => by
    have hi : i < t.sp.length := by omega
    have hl := h.2.1
    have em : Go.Proofs.YtmeogadkbbeglaaW.PrintWords.mn a b = Go.Proofs.Ytmeogadkbbeglaa.mn a b := by unfold Go.Proofs.YtmeogadkbbeglaaW.PrintWords.mn Go.Proofs.Ytmeogadkbbeglaa.mn; split <;> split <;> omega
    have ex : Go.Proofs.YtmeogadkbbeglaaW.PrintWords.mx a b = Go.Proofs.Ytmeogadkbbeglaa.mx a b := rfl
    rw [drop_cons hi]
    by_cases he : t.sp[i].frm = Go.Proofs.Ytmeogadkbbeglaa.mn a b ∧ t.sp[i].to = Go.Proofs.Ytmeogadkbbeglaa.mx a b
    · have e : spFind (t.sp[i] :: t.sp.drop (i + 1)) a b = some t.sp[i] := by unfold spFind; rw [List.find?_cons_of_pos]; simpa using he
      rw [e]
      refine Ev.step (f := fun _ => some _) (fun k => ?_) (Ev.now _)
      simp only [fareboxref07_Span.l0, List.length_map, rd_sp t.sp i hi, ofSp, em, ex]
      rw [if_pos (by omega), if_pos (by omega), if_pos he.1, if_pos he.2]
      rfl
    · have e : spFind (t.sp[i] :: t.sp.drop (i + 1)) a b = spFind (t.sp.drop (i + 1)) a b := by
        unfold spFind
        rw [List.find?_cons_of_neg]
        simpa using he
      rw [e]
      refine Ev.step (f := fun k => fareboxref07_Span.l0 k a b ((i + 1 : Nat) : Int) ((t).st.map ofSt) ((t).sp.map ofSp) ((t).pk.map ofBd) (t).off (t).bus (t).busDaily (t).busWeekly (t).hopper (t).most (t).longest (t).change (t).passback (t).delay (t).threshold) (fun k => ?_) (refsp_l t h a b d (i + 1) (by omega))
      simp only [fareboxref07_Span.l0, List.length_map, rd_sp t.sp i hi, ofSp, em, ex, wrap_up (i := i) (by omega)]
      rw [if_pos (by omega), if_pos (by omega)]
      refine ite_out (fun h1 => ite_out (fun h2 => absurd ⟨h1, h2⟩ he) (fun _ => rfl)) (fun _ => rfl)
theorem refsp_ev (t : Tariff) (h : Tariff.fits t) (a b : Int) : Ev (fun k => fareboxref07_Span.f k ((t).st.map ofSt) ((t).sp.map ofSp) ((t).pk.map ofBd) (t).off (t).bus (t).busDaily (t).busWeekly (t).hopper (t).most (t).longest (t).change (t).passback (t).delay (t).threshold a b) (spOut (spFind t.sp a b)) := by
  have := refsp_l t h a b t.sp.length 0 (by omega)
  rw [List.drop_zero] at this
  exact this
end Go.Proofs.Ytmeogadkbbeglaa
