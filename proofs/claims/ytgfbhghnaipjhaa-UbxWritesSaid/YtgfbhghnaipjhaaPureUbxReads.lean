/- UbxReads: the message that the program reads out of any payload of at most 600 bytes, or that it is none, is the document's. -/
import Derived.Test.YtgfbhghnaipjhaaPureB
namespace Go.Proofs.Ytgfbhghnaipjhaa.Pure
open Go.RowKit Go.Proofs.Ytgfbhghnaipjhaa.QUbx Go.Proofs.YtgfbhghnaipjhaaW.PrintWords Go.Proofs.YtgfbhghnaipjhaaW.PrintLast
theorem byte_wf {a : Int} (h : (Lit.int .u8 a).wf = true) : 0 ≤ a ∧ a < 256 := by
  simp [Lit.wf, IntKind.min, IntKind.max, IntKind.signed, IntKind.bits] at h
  omega
theorem UbxReads : remontoirelaw12_UbxReads.Pure := by
  intro c i l hc hi _ _ hl
  obtain ⟨hc0, hc1⟩ := byte_wf hc
  obtain ⟨hi0, hi1⟩ := byte_wf hi
  have hb := bytes_wf hl
  refine ⟨200, ?_⟩
  unfold remontoirelaw12_UbxReads.f
  by_cases h6 : (l.length : Int) > 600
  · rw [if_pos h6, known_true 200 (by omega)]; rfl
  · rw [if_neg h6]
    have hlen := decV_len hc0 hc1 hi0 hi1 l
    simp only [Option.bind_some, List.nil_append]
    rw [if_pos (by simp; omega), dec_eq hc0 hc1 hi0 hi1 hb (by omega) 200 (by omega), rdec_eq hc0 hc1 hi0 hi1 hb (by omega) 200 (by omega)]
    simp only [Option.bind_some]
    rw [same_self (by omega) 200 (by omega)]
    simp only [Option.bind_some, if_true]
    rw [known_true 200 (by omega)]; rfl
end Go.Proofs.Ytgfbhghnaipjhaa.Pure
