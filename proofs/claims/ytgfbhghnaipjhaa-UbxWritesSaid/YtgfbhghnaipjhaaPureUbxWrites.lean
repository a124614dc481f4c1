/- UbxWrites: the payload and the frame that the program writes of any message of at most 40 values, or that it is none, are the document's. -/
import Derived.Test.YtgfbhghnaipjhaaPureD
import Derived.Test.YtgfbhghnaipjhaaPureUbxReads
import Derived.Test.YtgfbhghnaipjhaaQUbxx17
namespace Go.Proofs.Ytgfbhghnaipjhaa.Pure
open Go.RowKit Go.Proofs.Ytgfbhghnaipjhaa.QUbx Go.Proofs.YtgfbhghnaipjhaaW.PrintWords Go.Proofs.YtgfbhghnaipjhaaW.PrintLast
theorem i64s_wf {l : List Int} (h : ∀ x ∈ l, (Lit.int .i64 x).wf = true) : I64s l := by
  intro x hx
  have := h x hx
  simp [Lit.wf, IntKind.min, IntKind.max, IntKind.signed, IntKind.bits] at this
  omega
theorem UbxWrites (c i : Int) (l : List Int) (hc : (Lit.int .u8 c).wf = true) (hi : (Lit.int .u8 i).wf = true) (_ : l.length ≤ maxLen) (hw : ∀ x ∈ l, (Lit.int .i64 x).wf = true) : ∃ k, remontoirelaw12_UbxWrites.f k c i l = some true := by
  obtain ⟨hc0, hc1⟩ := byte_wf hc
  obtain ⟨hi0, hi1⟩ := byte_wf hi
  have hV := i64s_wf hw
  unfold remontoirelaw12_UbxWrites.f
  by_cases h6 : (l.length : Int) > 40
  · exact ⟨200, by rw [if_pos h6, known_true 200 (by omega)]; rfl⟩
  · obtain ⟨K, hK⟩ := rpay_eq hc0 hc1 hi0 hi1 (V := l) (by omega) hV
    obtain ⟨K', hK'⟩ := renc_eq hc0 hc1 hi0 hi1 (V := l) (by omega) hV
    refine ⟨K + K' + 200, ?_⟩
    rw [if_neg h6]
    simp only [Option.bind_some, List.nil_append]
    rw [if_pos (by simp; omega), pay_eq hc0 hc1 hi0 hi1 l _ (by omega), hK _ (by omega), enc_eq hc0 hc1 hi0 hi1 l _ (by omega), hK' _ (by omega)]
    simp only [Option.bind_some, if_true]
    rw [same_self (by omega) _ (by omega)]
    simp only [Option.bind_some, if_true]
    rw [known_true _ (by omega)]; rfl
end Go.Proofs.Ytgfbhghnaipjhaa.Pure
