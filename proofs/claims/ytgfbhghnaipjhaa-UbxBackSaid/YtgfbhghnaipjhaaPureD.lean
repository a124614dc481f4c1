/- Plain laws behind the UBX statements: the two sums, and the two writings of a frame, are one. -/
import Derived.Test.YtgfbhghnaipjhaaPureC
import Derived.Test.YtgfbhghnaipjhaaQUbxx5
namespace Go.Proofs.Ytgfbhghnaipjhaa.Pure
open Go.RowKit Go.Proofs.Ytgfbhghnaipjhaa.QUbx Go.Proofs.YtgfbhghnaipjhaaW.PrintWords Go.Proofs.YtgfbhghnaipjhaaW.PrintLast Go.Proofs.YtgfbhghnaipjhaaW.PrintMore

theorem payGo_bytes (fs : List S49) : ∀ (b V : List Int), Bytes b → Bytes (payGo b fs V).1 ∧ ((payGo b fs V).2 = 0 → (payGo b fs V).1.length = b.length) ∧ (payGo b fs V).1.length ≤ b.length := by
  induction fs with
  | nil => intro b V hb; simp [payGo]; exact hb
  | cons f fs ih =>
    intro b V hb
    cases V with
    | nil => simp [payGo]; exact hb
    | cons v V =>
      simp only [payGo]
      split
      · have := ih (putB b f.f0 f.f1 v) V (putB_bytes hb _ _ _)
        rw [putB_len] at this
        exact this
      · refine ⟨fun x hx => by simp at hx, by simp, by simp⟩
theorem payV_bytes {c i : Int} (hc0 : 0 ≤ c) (hc : c < 256) (hi0 : 0 ≤ i) (hi : i < 256) (V : List Int) : Bytes (payV c i V).1 ∧ (payV c i V).1.length ≤ 200 := by
  unfold payV
  rcases look_cases hc0 hc hi0 hi with ⟨n, fs, h1, h2, h3, h4, h5, h6⟩ | ⟨h1, h2⟩
  · rw [h1 0]
    simp only
    split
    · have := payGo_bytes fs (List.replicate (n : Int).toNat 0) V (zeros_bytes _)
      refine ⟨this.1, ?_⟩
      have h := this.2.2
      simp at h ⊢
      omega
    · exact ⟨fun x hx => by simp at hx, by simp⟩
  · rw [h1 0]
    exact ⟨fun x hx => by simp at hx, by simp⟩
/-- The frame of a message. -/
def encV (c i : Int) (V : List Int) : List Int × Int :=
  let p := payV c i V
  if p.2 = 0 then
    let h := [c, i, (p.1.length : Int) % 256, (p.1.length : Int) / 256 % 256] ++ p.1
    (181 :: 98 :: h ++ [(flSum h).1, (flSum h).2], 0)
  else ([], p.2)
theorem enc_eq {c i : Int} (hc0 : 0 ≤ c) (hc : c < 256) (hi0 : 0 ≤ i) (hi : i < 256) (V : List Int) (k : Nat) (hk : 40 ≤ k) : ubx_Encode.f k c i V = some (encV c i V) := by
  unfold ubx_Encode.f encV
  have hp := (payV_bytes hc0 hc hi0 hi V).2
  rw [pay_eq hc0 hc hi0 hi V k hk]
  simp only [Option.bind_some]
  by_cases e : (payV c i V).2 = 0
  · rw [if_pos e, if_pos e, if_pos (by simp; omega), if_pos (by simp; omega)]
    simp only [sums_Fletcher.f, Option.bind_some]
    rw [if_pos (by simp; omega)]
    rfl
  · rw [if_neg e, if_neg e]
end Go.Proofs.Ytgfbhghnaipjhaa.Pure
