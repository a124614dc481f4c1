/- Plain laws behind the SiRF statements: the two sums, and the two writings of a frame, are one. -/
import Derived.Test.YtoeompemgpaccaaPureC
import Derived.Test.YtoeompemgpaccaaQSirfx6
namespace Go.Proofs.Ytoeompemgpaccaa.Pure
open Go.RowKit Go.Proofs.Ytoeompemgpaccaa.QSirf Go.Proofs.YtoeompemgpaccaaW.PrintWords Go.Proofs.YtoeompemgpaccaaW.PrintLast Go.Proofs.YtoeompemgpaccaaW.PrintMore

theorem u16w {x : Int} (h0 : 0 ≤ x) (h1 : x < 65536) : IntKind.u16.wrap x = x := by
  unfold IntKind.wrap
  simp only [IntKind.signed, IntKind.bits, Bool.false_and, Bool.false_eq_true, if_false]
  omega
theorem fif_step {s x : Int} (hs : 0 ≤ s ∧ s < 32768) (hx : 0 ≤ x ∧ x < 256) : fifStep s x = (s + x) % 32768 := by
  unfold fifStep
  rw [u16w (x := x) (by omega) (by omega), u16w (by omega) (by omega), u16_and _ _ (by omega) (by omega) (by omega) (by omega)]
  rw [show (32767 : Int).toNat = 2 ^ 15 - 1 by decide, Nat.and_two_pow_sub_one_eq_mod]
  omega
theorem fif_range {l : List Int} (hb : Bytes l) : ∀ t : Int, 0 ≤ t ∧ t < 32768 → 0 ≤ l.foldl fifStep t ∧ l.foldl fifStep t < 32768 := by
  induction l with
  | nil => intro t h; exact h
  | cons x l ih =>
    intro t h
    rw [List.foldl_cons]
    refine ih (fun y hy => hb y (List.mem_cons_of_mem _ hy)) _ ?_
    rw [fif_step h (hb x List.mem_cons_self)]
    omega
theorem payGo_bytes (fs : List S47) : ∀ (b V : List Int), Bytes b → Bytes (payGo b fs V).1 ∧ ((payGo b fs V).2 = 0 → (payGo b fs V).1.length = b.length) ∧ (payGo b fs V).1.length ≤ b.length := by
  induction fs with
  | nil => intro b V hb; simp [payGo]; exact hb
  | cons f fs ih =>
    intro b V hb
    cases V with
    | nil => simp [payGo]; exact hb
    | cons v V =>
      simp only [payGo]
      split
      · have := ih (putB b f.f0 (wid f) v) V (putB_bytes hb _ _ _)
        rw [putB_len] at this
        exact this
      · refine ⟨fun x hx => by simp at hx, by simp, by simp⟩
theorem payV_bytes {c : Int} (hc0 : 0 ≤ c) (hc : c < 256) (V : List Int) : Bytes (payV c V).1 ∧ (payV c V).1.length ≤ 200 := by
  unfold payV
  rcases look_cases hc0 hc with ⟨n, fs, h1, h2, h3, h4, h5, h6⟩ | ⟨h1, h2⟩
  · rw [h1 0]
    simp only
    split
    · have := payGo_bytes fs ((List.replicate (n : Int).toNat 0).set 0 c) V (zeros_bytes _ hc0 hc)
      refine ⟨this.1, ?_⟩
      have h := this.2.2
      simp at h ⊢
      omega
    · exact ⟨fun x hx => by simp at hx, by simp⟩
  · rw [h1 0]
    exact ⟨fun x hx => by simp at hx, by simp⟩
/-- The frame of a message. -/
def encV (c : Int) (V : List Int) : List Int × Int :=
  let p := payV c V
  if p.2 = 0 then ([160, 162, (p.1.length : Int) / 256 % 256, (p.1.length : Int) % 256] ++ p.1 ++ [fifSum p.1 / 256 % 256, fifSum p.1 % 256, 176, 179], 0)
  else ([], p.2)
theorem enc_eq {c : Int} (hc0 : 0 ≤ c) (hc : c < 256) (V : List Int) (k : Nat) (hk : 50 ≤ k) : sirf_Encode.f k c V = some (encV c V) := by
  unfold sirf_Encode.f encV
  have hp := (payV_bytes hc0 hc V).2
  rw [pay_eq hc0 hc V k hk]
  simp only [Option.bind_some]
  by_cases e : (payV c V).2 = 0
  · rw [if_pos e, if_pos e]
    simp only [sums_Fifteen.f, Option.bind_some]
    rw [if_pos (by simp; omega), if_pos (by simp; omega)]
  · rw [if_neg e, if_neg e]
end Go.Proofs.Ytoeompemgpaccaa.Pure
