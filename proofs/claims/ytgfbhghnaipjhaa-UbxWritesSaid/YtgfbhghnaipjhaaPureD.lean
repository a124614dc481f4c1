/- Plain laws behind the UBX statements: the two sums, and the two writings of a frame, are one. -/
import Derived.Test.YtgfbhghnaipjhaaPureC
import Derived.Test.YtgfbhghnaipjhaaQUbxx15
import Derived.Test.YtgfbhghnaipjhaaQUbxx16
import Derived.Test.YtgfbhghnaipjhaaQUbxx5
namespace Go.Proofs.Ytgfbhghnaipjhaa.Pure
open Go.RowKit Go.Proofs.Ytgfbhghnaipjhaa.QUbx Go.Proofs.YtgfbhghnaipjhaaW.PrintWords Go.Proofs.YtgfbhghnaipjhaaW.PrintLast Go.Proofs.YtgfbhghnaipjhaaW.PrintMore

theorem fl_arith {q q' m p x a : Int} (h : q = q' + m * p + 256 * a) : ∃ b, (q + x * (m % 256)) % 256 = (q' + (p + x)) % 256 + (m - 1) * ((p + x) % 256) + 256 * b := by
  obtain ⟨c, hc⟩ : ∃ c, (q + x * (m % 256)) % 256 = q + x * (m % 256) + 256 * c := ⟨-((q + x * (m % 256)) / 256), by omega⟩
  obtain ⟨d, hd⟩ : ∃ d, (q' + (p + x)) % 256 = q' + (p + x) + 256 * d := ⟨-((q' + (p + x)) / 256), by omega⟩
  obtain ⟨e, he⟩ : ∃ e, (p + x) % 256 = (p + x) + 256 * e := ⟨-((p + x) / 256), by omega⟩
  obtain ⟨f, hf⟩ : ∃ f, m % 256 = m + 256 * f := ⟨-(m / 256), by omega⟩
  rw [hc, hd, he, hf, h]
  exact ⟨a + x * f + c - d - (m - 1) * e, by grind⟩
theorem fl_loop {l : List Int} (hb : Bytes l) (hl : l.length ≤ 1000000) (r : List Int) : ∀ (j : Nat) (p q q' a : Int) (k : Nat), l.drop j = r → j + r.length = l.length → 0 ≤ p ∧ p < 256 → 0 ≤ q ∧ q < 256 → 0 ≤ q' ∧ q' < 256 → q = q' + (r.length : Int) * p + 256 * a → r.length + 1 ≤ k →
    remontoireref07_Fletcher.l0 k l p q (j : Int) = some (r.foldl flStep (p, q')) := by
  induction r with
  | nil =>
    intro j p q q' a k hd hj hp hq hq' h hk
    obtain ⟨k, rfl⟩ : ∃ m, k = m + 1 := ⟨k - 1, by omega⟩
    unfold remontoireref07_Fletcher.l0
    simp only [List.length_nil] at h hj
    rw [if_neg (by omega)]
    simp only [List.foldl_nil]
    have : q = q' := by omega
    subst this
    rw [show p % 256 = p by omega, show q % 256 = q by omega]
  | cons x r ih =>
    intro j p q q' a k hd hj hp hq hq' h hk
    obtain ⟨k, rfl⟩ : ∃ m, k = m + 1 := ⟨k - 1, by simp at hk; omega⟩
    simp only [List.length_cons] at hj hk h
    have hjl : j < l.length := by omega
    have hx : l[j] = x ∧ l.drop (j + 1) = r := by
      rw [List.drop_eq_getElem_cons hjl] at hd
      exact List.cons.inj hd
    have hr : rd l (j : Int) = x := by rw [← hx.1]; simp [rd, List.getD_eq_getElem?_getD, hjl]
    have hxb := hb x (by rw [← hx.1]; exact List.getElem_mem hjl)
    unfold remontoireref07_Fletcher.l0
    rw [if_pos (by omega), if_pos (by omega), hr, w64 (x := x) (by omega) (by omega), w64 (x := (l.length : Int) - j) (by omega) (by omega), Int.tmod_eq_emod_of_nonneg (a := (l.length : Int) - j) (by omega)]
    have hm : (l.length : Int) - j = ((r.length + 1 : Nat) : Int) := by omega
    rw [hm]
    have hm0 : 0 ≤ ((r.length + 1 : Nat) : Int) % 256 := by omega
    have hm1 : ((r.length + 1 : Nat) : Int) % 256 < 256 := by omega
    have hxm0 : 0 ≤ x * (((r.length + 1 : Nat) : Int) % 256) := Int.mul_nonneg hxb.1 hm0
    have hxm1 : x * (((r.length + 1 : Nat) : Int) % 256) ≤ 256 * 256 := Int.mul_le_mul (by omega) (by omega) hm0 (by omega)
    rw [w64 (x := p + x) (by omega) (by omega), w64 (x := x * (((r.length + 1 : Nat) : Int) % 256)) (by omega) (by omega), w64 (x := q + x * (((r.length + 1 : Nat) : Int) % 256)) (by omega) (by omega), w64 (x := (j : Int) + 1) (by omega) (by omega),
      Int.tmod_eq_emod_of_nonneg (by omega), Int.tmod_eq_emod_of_nonneg (by omega)]
    obtain ⟨b, hb'⟩ := fl_arith (x := x) h
    rw [List.foldl_cons]
    have := ih (j + 1) ((p + x) % 256) ((q + x * (((r.length + 1 : Nat) : Int) % 256)) % 256) ((q' + (p + x)) % 256) b k hx.2 (by omega) (by omega) (by omega) (by omega) (by rw [hb']; simp) (by omega)
    exact this
theorem fl_eq {l : List Int} (hb : Bytes l) (hl : l.length ≤ 1000000) (k : Nat) (hk : l.length + 1 ≤ k) : remontoireref07_Fletcher.f k l = some (flSum l) := by
  unfold remontoireref07_Fletcher.f
  exact fl_loop hb hl l 0 0 0 0 0 k rfl (by simp) (by omega) (by omega) (by omega) (by simp) hk

theorem payGo_bytes (fs : List S49) : ∀ (b V : List Int), Bytes b → Bytes (payGo b fs V).1 ∧ ((payGo b fs V).2 = 0 → (payGo b fs V).1.length = b.length) ∧ (payGo b fs V).1.length ≤ b.length := by
  induction fs with
  | nil => intro b V hb; simp [payGo]; exact hb
  | cons f fs ih =>
    intro b V hb
    cases V with
    | nil => simp [payGo]; exact hb
    | cons v V =>
      simp only [payGo]
      split
      · have := ih (putB b f.f0 f.f1 v) V (putB_bytes hb _ _ _)
        rw [putB_len] at this
        exact this
      · refine ⟨fun x hx => by simp at hx, by simp, by simp⟩
theorem payV_bytes {c i : Int} (hc0 : 0 ≤ c) (hc : c < 256) (hi0 : 0 ≤ i) (hi : i < 256) (V : List Int) : Bytes (payV c i V).1 ∧ (payV c i V).1.length ≤ 200 := by
  unfold payV
  rcases look_cases hc0 hc hi0 hi with ⟨n, fs, h1, h2, h3, h4, h5, h6⟩ | ⟨h1, h2⟩
  · rw [h1 0]
    simp only
    split
    · have := payGo_bytes fs (List.replicate (n : Int).toNat 0) V (zeros_bytes _)
      refine ⟨this.1, ?_⟩
      have h := this.2.2
      simp at h ⊢
      omega
    · exact ⟨fun x hx => by simp at hx, by simp⟩
  · rw [h1 0]
    exact ⟨fun x hx => by simp at hx, by simp⟩
/-- The frame of a message. -/
def encV (c i : Int) (V : List Int) : List Int × Int :=
  let p := payV c i V
  if p.2 = 0 then
    let h := [c, i, (p.1.length : Int) % 256, (p.1.length : Int) / 256 % 256] ++ p.1
    (181 :: 98 :: h ++ [(flSum h).1, (flSum h).2], 0)
  else ([], p.2)
theorem enc_eq {c i : Int} (hc0 : 0 ≤ c) (hc : c < 256) (hi0 : 0 ≤ i) (hi : i < 256) (V : List Int) (k : Nat) (hk : 40 ≤ k) : ubx_Encode.f k c i V = some (encV c i V) := by
  unfold ubx_Encode.f encV
  have hp := (payV_bytes hc0 hc hi0 hi V).2
  rw [pay_eq hc0 hc hi0 hi V k hk]
  simp only [Option.bind_some]
  by_cases e : (payV c i V).2 = 0
  · rw [if_pos e, if_pos e, if_pos (by simp; omega), if_pos (by simp; omega)]
    simp only [sums_Fletcher.f, Option.bind_some]
    rw [if_pos (by simp; omega)]
    rfl
  · rw [if_neg e, if_neg e]
theorem renc_eq {c i : Int} (hc0 : 0 ≤ c) (hc : c < 256) (hi0 : 0 ≤ i) (hi : i < 256) {V : List Int} (hV : V.length ≤ 1000000) (hVi : I64s V) : ∃ K, ∀ k, K ≤ k → remontoireref12_Encode.f k c i V = some (encV c i V) := by
  obtain ⟨K, hK⟩ := rpay_eq hc0 hc hi0 hi hV hVi
  obtain ⟨hpb, hp⟩ := payV_bytes hc0 hc hi0 hi V
  refine ⟨K + 300, fun k hk => ?_⟩
  unfold remontoireref12_Encode.f encV
  rw [hK k (by omega)]
  simp only [Option.bind_some]
  by_cases e : (payV c i V).2 = 0
  · rw [if_pos e, if_pos e, if_pos (by simp; omega), w64 (by omega) (by omega), fl_eq ?_ (by simp; omega) k (by simp; omega)]
    · simp only [Option.bind_some]
      rw [if_pos (by simp; omega), if_pos (by simp; omega)]
      rfl
    · intro x hx
      simp only [List.cons_append, List.nil_append, List.mem_cons] at hx
      rcases hx with rfl | rfl | rfl | rfl | hx
      · omega
      · omega
      · omega
      · omega
      · exact hpb x hx
  · rw [if_neg e, if_neg e]
end Go.Proofs.Ytgfbhghnaipjhaa.Pure
