/- Plain laws behind the SiRF statements: what the document reads of a field. -/
import Derived.Test.YtoeompemgpaccaaPureA
import Derived.Test.YtoeompemgpaccaaQSirfx10
import Derived.Test.YtoeompemgpaccaaQSirfx11
namespace Go.Proofs.Ytoeompemgpaccaa.Pure
open Go.RowKit Go.Proofs.Ytoeompemgpaccaa.QSirf Go.Proofs.YtoeompemgpaccaaW.PrintWords Go.Proofs.YtoeompemgpaccaaW.PrintLast Go.Proofs.YtoeompemgpaccaaW.PrintMore
theorem pow0 (k : Nat) : remontoireref12_power.f (k + 6) 0 = some 1 := by kernel_rfl
theorem pow1 (k : Nat) : remontoireref12_power.f (k + 6) 1 = some 256 := by kernel_rfl
theorem pow2 (k : Nat) : remontoireref12_power.f (k + 6) 2 = some 65536 := by kernel_rfl
theorem pow3 (k : Nat) : remontoireref12_power.f (k + 6) 3 = some 16777216 := by kernel_rfl
theorem pow4 (k : Nat) : remontoireref12_power.f (k + 6) 4 = some 4294967296 := by kernel_rfl
theorem rget_step {k : Nat} {l : List Int} {p s m v i P : Int} (hb : Bytes l) (hl : l.length ≤ 1000000) (hp : 0 ≤ p) (hi : 0 ≤ i) (him : i < m) (_hm : m ≤ 4) (hlen : p + i < l.length) (hP : remontoireref12_power.f k i = some P) (hP1 : 0 ≤ P) (hP2 : P ≤ 16777216) (hv : 0 ≤ v) (hv2 : v < 4294967296) :
    remontoireref12_Get.l0 (k + 1) l p s m v i = remontoireref12_Get.l0 k l p s m (v + rd l (p + i) * P) (i + 1) := by
  have hb1 := hb.rd (p + i)
  have hx : 0 ≤ rd l (p + i) * P := Int.mul_nonneg hb1.1 hP1
  have hy : rd l (p + i) * P ≤ 255 * 16777216 := Int.mul_le_mul (by omega) hP2 hP1 (by omega)
  conv => lhs; unfold remontoireref12_Get.l0
  rw [if_pos him, w64 (x := p + i) (by omega) (by omega), if_pos (by omega), if_pos hlen, hP, Option.bind_some]
  rw [w64 (x := rd l (p + i)) (by omega) (by omega), w64 (x := rd l (p + i) * P) (by omega) (by omega), w64 (x := v + rd l (p + i) * P) (by omega) (by omega), w64 (x := i + 1) (by omega) (by omega)]
theorem rget_end {k : Nat} {l : List Int} {p m v P : Int} {sg : Bool} (hP : remontoireref12_power.f k m = some P) (hm : 0 < m) (hP1 : 0 < P) (hP2 : P ≤ 4294967296) (hv : 0 ≤ v) (hv2 : v < 4294967296) :
    remontoireref12_Get.l0 (k + 1) l p (if sg = true then -m else m) m v m = some (if sg = true ∧ v ≥ P / 2 then v - P else v) := by
  unfold remontoireref12_Get.l0
  rw [if_neg (by omega)]
  cases sg with
  | false => simp; omega
  | true =>
    simp only [if_true, true_and]
    rw [if_pos (by omega), hP, Option.bind_some]
    have e : P.tdiv 2 = P / 2 := Int.tdiv_eq_ediv_of_nonneg (by omega)
    rw [e, w64 (x := P / 2) (by omega) (by omega), w64 (x := v - P) (by omega) (by omega)]
    split <;> rfl
theorem rget_eq {l : List Int} {p sz : Int} {sg : Bool} (hb : Bytes l) (hl : l.length ≤ 1000000) (h : FOk p sz l.length) (k : Nat) (hk : 14 ≤ k) : remontoireref12_Get.f k l p (if sg = true then -sz else sz) = some (gv p sz sg l) := by
  obtain ⟨k, rfl⟩ : ∃ m, k = m + 14 := ⟨k - 14, by omega⟩
  obtain ⟨hp, hs, hlen⟩ := h
  have b0 := hb.rd (p + 0)
  have bp := hb.rd p
  have b1 := hb.rd (p + 1)
  have b2 := hb.rd (p + 2)
  have b3 := hb.rd (p + 3)
  have hf : remontoireref12_Get.f (k + 14) l p (if sg = true then -sz else sz) = remontoireref12_Get.l0 (k + 13) l p (if sg = true then -sz else sz) sz 0 0 := by
    unfold remontoireref12_Get.f
    cases sg with
    | false => simp only [Bool.false_eq_true, if_false]; rw [if_neg (by omega)]; rfl
    | true => simp only [if_true]; rw [if_pos (by omega), w64 (x := -(-sz)) (by omega) (by omega), Int.neg_neg]; rfl
  rw [hf]
  rcases hs with rfl | rfl | rfl
  · rw [rget_step (P := 1) hb hl hp (by omega) (by omega) (by omega) (by omega) (pow0 (k + 6)) (by omega) (by omega) (by omega) (by omega), show (0 : Int) + 1 = 1 by decide,
      rget_end (P := 256) (pow1 (k + 5)) (by omega) (by omega) (by omega) (by omega) (by omega)]
    simp [gv]
  · rw [rget_step (P := 1) hb hl hp (by omega) (by omega) (by omega) (by omega) (pow0 (k + 6)) (by omega) (by omega) (by omega) (by omega), show (0 : Int) + 1 = 1 by decide,
      rget_step (P := 256) hb hl hp (by omega) (by omega) (by omega) (by omega) (pow1 (k + 5)) (by omega) (by omega) (by omega) (by omega), show (1 : Int) + 1 = 2 by decide,
      rget_end (P := 65536) (pow2 (k + 4)) (by omega) (by omega) (by omega) (by omega) (by omega)]
    have e : 0 + rd l (p + 0) * 1 + rd l (p + 1) * 256 = rd l p + 256 * rd l (p + 1) := by rw [Int.add_zero]; omega
    rw [e]
    simp [gv]
  · rw [rget_step (P := 1) hb hl hp (by omega) (by omega) (by omega) (by omega) (pow0 (k + 6)) (by omega) (by omega) (by omega) (by omega), show (0 : Int) + 1 = 1 by decide,
      rget_step (P := 256) hb hl hp (by omega) (by omega) (by omega) (by omega) (pow1 (k + 5)) (by omega) (by omega) (by omega) (by omega), show (1 : Int) + 1 = 2 by decide,
      rget_step (P := 65536) hb hl hp (by omega) (by omega) (by omega) (by omega) (pow2 (k + 4)) (by omega) (by omega) (by omega) (by omega), show (2 : Int) + 1 = 3 by decide,
      rget_step (P := 16777216) hb hl hp (by omega) (by omega) (by omega) (by omega) (pow3 (k + 3)) (by omega) (by omega) (by omega) (by omega), show (3 : Int) + 1 = 4 by decide,
      rget_end (P := 4294967296) (pow4 (k + 2)) (by omega) (by omega) (by omega) (by omega) (by omega)]
    have e : 0 + rd l (p + 0) * 1 + rd l (p + 1) * 256 + rd l (p + 2) * 65536 + rd l (p + 3) * 16777216 = rd l p + 256 * rd l (p + 1) + 65536 * rd l (p + 2) + 16777216 * rd l (p + 3) := by rw [Int.add_zero]; omega
    rw [e]
    simp [gv]
theorem turn_step {k : Nat} {l t : List Int} {p j : Int} (hl : l.length ≤ 1000000) (hp : 0 ≤ p) (hj : 0 ≤ j) (hj2 : p + j < l.length) (ht : t.length ≤ 10) :
    remontoireref13_turned.l0 (k + 1) l p t j = remontoireref13_turned.l0 k l p (t ++ [rd l (p + j)]) (j - 1) := by
  conv => lhs; unfold remontoireref13_turned.l0
  rw [if_pos hj, w64 (x := p + j) (by omega) (by omega), if_pos (by omega), if_pos hj2, if_pos (by omega), w64 (x := j - 1) (by omega) (by omega)]
theorem turn_end {k : Nat} {l t : List Int} {p : Int} : remontoireref13_turned.l0 (k + 1) l p t (-1) = some t := by
  unfold remontoireref13_turned.l0
  rw [if_neg (by omega)]
def turnedL (p sz : Int) (l : List Int) : List Int :=
  if sz = 1 then [rd l p] else if sz = 2 then [rd l (p + 1), rd l p] else [rd l (p + 3), rd l (p + 2), rd l (p + 1), rd l p]
theorem turn_eq {l : List Int} {p sz : Int} {sg : Bool} (hl : l.length ≤ 1000000) (h : FOk p sz l.length) (k : Nat) (hk : 8 ≤ k) : remontoireref13_turned.f k l p (if sg = true then -sz else sz) = some (turnedL p sz l) := by
  obtain ⟨k, rfl⟩ : ∃ m, k = m + 8 := ⟨k - 8, by omega⟩
  obtain ⟨hp, hs, hlen⟩ := h
  have hf : remontoireref13_turned.f (k + 8) l p (if sg = true then -sz else sz) = remontoireref13_turned.l0 (k + 7) l p [] (sz - 1) := by
    unfold remontoireref13_turned.f
    cases sg with
    | false => simp only [Bool.false_eq_true, if_false]; rw [if_neg (by omega)]; simp only [remontoireref13_turned.j0]; rw [w64 (by omega) (by omega)]
    | true => simp only [if_true]; rw [if_pos (by omega), w64 (x := -(-sz)) (by omega) (by omega), Int.neg_neg]; simp only [remontoireref13_turned.j0]; rw [w64 (by omega) (by omega)]
  rw [hf]
  rcases hs with rfl | rfl | rfl
  · rw [show (1 : Int) - 1 = 0 by decide, turn_step hl hp (by omega) (by omega) (by simp), show (0 : Int) - 1 = -1 by decide, turn_end]
    simp [turnedL]
  · rw [show (2 : Int) - 1 = 1 by decide, turn_step hl hp (by omega) (by omega) (by simp), show (1 : Int) - 1 = 0 by decide, turn_step hl hp (by omega) (by omega) (by simp), show (0 : Int) - 1 = -1 by decide, turn_end]
    simp [turnedL]
  · rw [show (4 : Int) - 1 = 3 by decide, turn_step hl hp (by omega) (by omega) (by simp), show (3 : Int) - 1 = 2 by decide, turn_step hl hp (by omega) (by omega) (by simp), show (2 : Int) - 1 = 1 by decide,
      turn_step hl hp (by omega) (by omega) (by simp), show (1 : Int) - 1 = 0 by decide, turn_step hl hp (by omega) (by omega) (by simp), show (0 : Int) - 1 = -1 by decide, turn_end]
    simp [turnedL]
theorem turned_bytes {l : List Int} {p sz : Int} (hb : Bytes l) : Bytes (turnedL p sz l) := by
  intro x hx
  unfold turnedL at hx
  split at hx
  · simp only [List.mem_singleton] at hx; subst hx; exact hb.rd _
  · split at hx
    · simp only [List.mem_cons, List.not_mem_nil, or_false] at hx; rcases hx with rfl | rfl <;> exact hb.rd _
    · simp only [List.mem_cons, List.not_mem_nil, or_false] at hx; rcases hx with rfl | rfl | rfl | rfl <;> exact hb.rd _
theorem rgetT_eq {l : List Int} {p sz : Int} {sg : Bool} (hb : Bytes l) (h : FOk p sz l.length) (k : Nat) (hk : 14 ≤ k) :
    remontoireref12_Get.f k (turnedL p sz l) 0 (if sg = true then -sz else sz) = some (gvB p sz sg l) := by
  have hs := h.2.1
  have hok : FOk 0 sz (turnedL p sz l).length := ⟨by omega, hs, by rcases hs with rfl | rfl | rfl <;> simp [turnedL]⟩
  rw [rget_eq (turned_bytes hb) (by rcases hs with rfl | rfl | rfl <;> simp [turnedL]) hok k hk]
  congr 1
  rcases hs with rfl | rfl | rfl
  · simp [gv, gvB, turnedL, rd]
  · have e : rd l (p + 1) + 256 * rd l p = rd l p * 256 + rd l (p + 1) := by omega
    simp only [gv, gvB, turnedL]
    simp [rd] at e ⊢
    rw [e]
  · have e : rd l (p + 3) + 256 * rd l (p + 2) + 65536 * rd l (p + 1) + 16777216 * rd l p = ((rd l p * 256 + rd l (p + 1)) * 256 + rd l (p + 2)) * 256 + rd l (p + 3) := by omega
    simp only [gv, gvB, turnedL]
    simp [rd] at e ⊢
    rw [e]
end Go.Proofs.Ytoeompemgpaccaa.Pure
