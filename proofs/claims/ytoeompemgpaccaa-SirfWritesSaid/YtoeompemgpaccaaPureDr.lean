/- Plain laws behind the SiRF statements: the document's sum and frame. -/
import Derived.Test.YtoeompemgpaccaaPureD
import Derived.Test.YtoeompemgpaccaaPureCr
import Derived.Test.YtoeompemgpaccaaQSirfx18
import Derived.Test.YtoeompemgpaccaaQSirfx19
namespace Go.Proofs.Ytoeompemgpaccaa.Pure
open Go.RowKit Go.Proofs.Ytoeompemgpaccaa.QSirf Go.Proofs.YtoeompemgpaccaaW.PrintWords Go.Proofs.YtoeompemgpaccaaW.PrintLast Go.Proofs.YtoeompemgpaccaaW.PrintMore
theorem fif_loop {l : List Int} (hb : Bytes l) (hl : l.length ≤ 1000000) (r : List Int) : ∀ (j : Nat) (s t : Int) (k : Nat), l.drop j = r → j + r.length = l.length → 0 ≤ s ∧ s ≤ 256 * j → t = s % 32768 → r.length + 1 ≤ k →
    remontoireref07_Fifteen.l0 k l s (j : Int) = some (r.foldl fifStep t) := by
  induction r with
  | nil =>
    intro j s t k hd hj hs h hk
    obtain ⟨k, rfl⟩ : ∃ m, k = m + 1 := ⟨k - 1, by omega⟩
    unfold remontoireref07_Fifteen.l0
    simp only [List.length_nil] at hj
    rw [if_neg (by omega)]
    simp only [List.foldl_nil]
    rw [Int.tmod_eq_emod_of_nonneg hs.1, ← h, u16w (by omega) (by omega)]
  | cons x r ih =>
    intro j s t k hd hj hs h hk
    obtain ⟨k, rfl⟩ : ∃ m, k = m + 1 := ⟨k - 1, by simp at hk; omega⟩
    simp only [List.length_cons] at hj hk
    have hjl : j < l.length := by omega
    have hx : l[j] = x ∧ l.drop (j + 1) = r := by
      rw [List.drop_eq_getElem_cons hjl] at hd
      exact List.cons.inj hd
    have hr : rd l (j : Int) = x := by rw [← hx.1]; simp [rd, List.getD_eq_getElem?_getD, hjl]
    have hxb := hb x (by rw [← hx.1]; exact List.getElem_mem hjl)
    unfold remontoireref07_Fifteen.l0
    rw [if_pos (by omega), if_pos (by omega), hr, w64 (x := x) (by omega) (by omega), w64 (x := s + x) (by omega) (by omega), w64 (x := (j : Int) + 1) (by omega) (by omega), List.foldl_cons, fif_step (by omega) hxb]
    exact ih (j + 1) (s + x) _ k hx.2 (by omega) (by omega) (by omega) (by omega)
theorem fif_eq {l : List Int} (hb : Bytes l) (hl : l.length ≤ 1000000) (k : Nat) (hk : l.length + 1 ≤ k) : remontoireref07_Fifteen.f k l = some (fifSum l) := by
  unfold remontoireref07_Fifteen.f
  exact fif_loop hb hl l 0 0 0 k rfl (by simp) (by omega) (by omega) hk
theorem renc_eq {c : Int} (hc0 : 0 ≤ c) (hc : c < 256) {V : List Int} (hV : V.length ≤ 1000000) : ∃ K, ∀ k, K ≤ k → remontoireref13_Encode.f k c V = some (encV c V) := by
  obtain ⟨K, hK⟩ := rpay_eq hc0 hc hV
  obtain ⟨hpb, hp⟩ := payV_bytes hc0 hc V
  have hr := fif_range hpb 0 (by omega)
  refine ⟨K + 300, fun k hk => ?_⟩
  unfold remontoireref13_Encode.f encV
  rw [hK k (by omega)]
  simp only [Option.bind_some]
  by_cases e : (payV c V).2 = 0
  · rw [if_pos e, if_pos e, fif_eq hpb (by omega) k (by omega)]
    simp only [Option.bind_some]
    have h0 : 0 ≤ fifSum (payV c V).1 ∧ fifSum (payV c V).1 < 32768 := hr
    rw [if_pos (by simp; omega), if_pos (by simp; omega), w64 (x := ((payV c V).1.length : Int) / 256) (by omega) (by omega), w64 (x := fifSum (payV c V).1) (by omega) (by omega),
      Int.tdiv_eq_ediv_of_nonneg h0.1, Int.tmod_eq_emod_of_nonneg h0.1, w64 (x := fifSum (payV c V).1 / 256) (by omega) (by omega), Int.emod_emod]
  · rw [if_neg e, if_neg e]
end Go.Proofs.Ytoeompemgpaccaa.Pure
