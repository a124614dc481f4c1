/- SirfReads: the message that the program reads out of any payload of at most 1100 bytes, or that it is none, is the document's. -/
import Derived.Test.YtoeompemgpaccaaPureB
namespace Go.Proofs.Ytoeompemgpaccaa.Pure
open Go.RowKit Go.Proofs.Ytoeompemgpaccaa.QSirf Go.Proofs.YtoeompemgpaccaaW.PrintWords Go.Proofs.YtoeompemgpaccaaW.PrintLast
theorem SirfReads : remontoirelaw13_SirfReads.Pure := by
  intro l _ _ hl
  have hb := bytes_wf hl
  refine ⟨200, ?_⟩
  unfold remontoirelaw13_SirfReads.f
  by_cases h6 : (l.length : Int) > 1100
  · rw [if_pos h6, known_true 200 (by omega)]; rfl
  · rw [if_neg h6]
    have hlen := decV_len hb
    simp only [Option.bind_some, List.nil_append]
    rw [if_pos (by simp; omega), dec_eq hb (by omega) 200 (by omega), rdec_eq hb (by omega) 200 (by omega)]
    simp only [Option.bind_some]
    rw [sameS_self (by omega) 200 (by omega)]
    simp only [Option.bind_some, if_true]
    rw [known_true 200 (by omega)]; rfl
end Go.Proofs.Ytoeompemgpaccaa.Pure
