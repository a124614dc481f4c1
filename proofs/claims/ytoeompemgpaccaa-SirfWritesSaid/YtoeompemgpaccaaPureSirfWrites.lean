/- SirfWrites: the payload and the frame that the program writes of any message of at most 40 values, or that it is none, are the document's. -/
import Derived.Test.YtoeompemgpaccaaPureDr
import Derived.Test.YtoeompemgpaccaaQSirfx20
namespace Go.Proofs.Ytoeompemgpaccaa.Pure
open Go.RowKit Go.Proofs.Ytoeompemgpaccaa.QSirf Go.Proofs.YtoeompemgpaccaaW.PrintWords Go.Proofs.YtoeompemgpaccaaW.PrintLast
theorem SirfWrites (c : Int) (l : List Int) (hc : (Lit.int .u8 c).wf = true) (_ : l.length ≤ maxLen) (_ : ∀ x ∈ l, (Lit.int .i64 x).wf = true) : ∃ k, remontoirelaw13_SirfWrites.f k c l = some true := by
  obtain ⟨hc0, hc1⟩ := byte_wf hc
  unfold remontoirelaw13_SirfWrites.f
  by_cases h6 : (l.length : Int) > 40
  · exact ⟨200, by rw [if_pos h6, known_true 200 (by omega)]; rfl⟩
  · obtain ⟨K, hK⟩ := rpay_eq hc0 hc1 (V := l) (by omega)
    obtain ⟨K', hK'⟩ := renc_eq hc0 hc1 (V := l) (by omega)
    refine ⟨K + K' + 200, ?_⟩
    rw [if_neg h6]
    simp only [Option.bind_some, List.nil_append]
    rw [if_pos (by simp; omega), pay_eq hc0 hc1 l _ (by omega), hK _ (by omega), enc_eq hc0 hc1 l _ (by omega), hK' _ (by omega)]
    simp only [Option.bind_some, if_true]
    rw [sameS_self (by omega) _ (by omega)]
    simp only [Option.bind_some, if_true]
    rw [known_true _ (by omega)]; rfl
end Go.Proofs.Ytoeompemgpaccaa.Pure
