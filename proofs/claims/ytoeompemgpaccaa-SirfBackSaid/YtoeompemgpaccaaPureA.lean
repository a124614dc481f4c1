/- Plain laws behind the SiRF statements: a field's value read by shifts is the document's; a look-up in the table is the document's layout. -/
import Derived.Test.YtoeompemgpaccaaQSirfx14
import Derived.Test.YtoeompemgpaccaaQSirfx2
import Derived.Test.YtoeompemgpaccaaQSirfx3
import Derived.Test.YtoeompemgpaccaaQSirfx7
import Derived.Test.YtoeompemgpaccaaQSirfx8
import Derived.Laws.BitsAllLaws
namespace Go.Proofs.Ytoeompemgpaccaa.Pure
open Go.RowKit Go.Proofs.Ytoeompemgpaccaa.QSirf Go.Proofs.YtoeompemgpaccaaW.PrintWords Go.Proofs.YtoeompemgpaccaaW.PrintLast Go.Proofs.YtoeompemgpaccaaW.PrintMore

theorem w64 {x : Int} (h0 : -9223372036854775808 ≤ x) (h1 : x < 9223372036854775808) : wrap64 x = x := by unfold wrap64; omega
theorem u64w {x : Int} (h0 : 0 ≤ x) (h1 : x < 18446744073709551616) : IntKind.u64.wrap x = x := by
  unfold IntKind.wrap
  simp only [IntKind.signed, IntKind.bits, Bool.false_and, Bool.false_eq_true, if_false]
  omega
theorem i64w {x : Int} (h0 : -9223372036854775808 ≤ x) (h1 : x < 9223372036854775808) : IntKind.i64.wrap x = x := (i64_w x).trans (w64 h0 h1)
theorem or256 {a b : Int} (h0 : 0 ≤ a) (h1 : a < 72057594037927936) (h2 : 0 ≤ b) (h3 : b < 256) : Go.bits .or .u64 (IntKind.u64.wrap (a * 256)) (IntKind.u64.wrap b) = a * 256 + b := by
  rw [u64w (by omega) (by omega), u64w (by omega) (by omega), u64_or _ _ (by omega) (by omega) (by omega) (by omega)]
  obtain ⟨n, rfl⟩ := Int.eq_ofNat_of_zero_le h0
  obtain ⟨m, rfl⟩ := Int.eq_ofNat_of_zero_le h2
  have e1 : ((n : Int) * 256).toNat = 2 ^ 8 * n := by omega
  rw [e1, Int.toNat_natCast, ← Nat.two_pow_add_eq_or_of_lt (i := 8) (by omega)]
  omega

/-- A list of bytes. -/
def Bytes (l : List Int) : Prop := ∀ x ∈ l, 0 ≤ x ∧ x < 256
theorem Bytes.rd {l : List Int} (h : Bytes l) (i : Int) : 0 ≤ rd l i ∧ rd l i < 256 := by
  show 0 ≤ l.getD i.toNat 0 ∧ l.getD i.toNat 0 < 256
  rw [List.getD_eq_getElem?_getD]
  cases hi : l[i.toNat]? with
  | none => simp
  | some x => simpa using h x (List.mem_of_getElem? hi)
theorem bytes_wf {l : List Int} (h : ∀ x ∈ l, (Lit.int .u8 x).wf = true) : Bytes l := by
  intro x hx
  have := h x hx
  simp [Lit.wf, IntKind.min, IntKind.max, IntKind.signed, IntKind.bits] at this
  omega

theorem byte_wf {a : Int} (h : (Lit.int .u8 a).wf = true) : 0 ≤ a ∧ a < 256 := by
  simp [Lit.wf, IntKind.min, IntKind.max, IntKind.signed, IntKind.bits] at h
  omega
/-- What a field says: its bytes, the least one first; signed or not. -/
def gv (p sz : Int) (sg : Bool) (l : List Int) : Int :=
  let n := if sz = 1 then rd l p else if sz = 2 then rd l p + 256 * rd l (p + 1) else rd l p + 256 * rd l (p + 1) + 65536 * rd l (p + 2) + 16777216 * rd l (p + 3)
  let m := if sz = 1 then 256 else if sz = 2 then 65536 else 4294967296
  if sg = true ∧ n ≥ m / 2 then n - m else n
def FOk (p sz : Int) (len : Nat) : Prop := 0 ≤ p ∧ (sz = 1 ∨ sz = 2 ∨ sz = 4) ∧ p + sz ≤ len

theorem mx_abs {s : Int} (h : s = 1 ∨ s = 2 ∨ s = 4) (sg : Bool) : mx (if sg = true then -s else s) (wrap64 (-(if sg = true then -s else s))) = s := by
  rcases h with rfl | rfl | rfl <;> cases sg <;> decide +kernel
/-- The bytes turned round. -/
def gvB (p sz : Int) (sg : Bool) (l : List Int) : Int :=
  let n := if sz = 1 then rd l p else if sz = 2 then rd l p * 256 + rd l (p + 1) else ((rd l p * 256 + rd l (p + 1)) * 256 + rd l (p + 2)) * 256 + rd l (p + 3)
  let m := if sz = 1 then 256 else if sz = 2 then 65536 else 4294967296
  if sg = true ∧ n ≥ m / 2 then n - m else n
theorem get_step {k : Nat} {l : List Int} {v n j p s : Int} (hb : Bytes l) (hl : l.length ≤ 1000000) (hp : 0 ≤ p) (hj : 0 ≤ j) (hn : j < n) (_hn4 : n ≤ 4) (hj2 : p + j < l.length) (hv : 0 ≤ v) (hv2 : v < 72057594037927936) :
    sirf_field_get.l0 (k + 1) l v n j p s = sirf_field_get.l0 k l (v * 256 + rd l (p + j)) n (j + 1) p s := by
  have hb1 := hb.rd (p + j)
  conv => lhs; unfold sirf_field_get.l0
  rw [if_pos hn, w64 (x := p + j) (by omega) (by omega), if_pos (by omega), if_pos hj2, or256 hv hv2 hb1.1 hb1.2, w64 (x := j + 1) (by omega) (by omega)]
theorem get_end {k : Nat} {l : List Int} {v p sz : Int} {sg : Bool} (hs : sz = 1 ∨ sz = 2 ∨ sz = 4) (hv : 0 ≤ v) (hv2 : v < 4294967296) (hv3 : v < 256 ^ sz.toNat) :
    sirf_field_get.l0 (k + 1) l v sz sz p (if sg = true then -sz else sz) = some (if sg = true ∧ v ≥ (256 : Int) ^ sz.toNat / 2 then v - 256 ^ sz.toNat else v) := by
  unfold sirf_field_get.l0
  rw [if_neg (by omega)]
  simp only [sirf_field_many.f, mx_abs hs, Option.bind_some]
  cases sg with
  | false =>
    simp only [Bool.false_eq_true, if_false, false_and]
    rw [if_neg (by omega), w64 (by omega) (by omega)]
  | true =>
    simp only [if_true, true_and]
    rw [if_pos (by omega)]
    rcases hs with rfl | rfl | rfl
    · have e : IntKind.u64.wrap (wrap64 (64 - wrap64 (8 * 1))) = 56 := by decide +kernel
      rw [e]
      simp [shl, shr, IntKind.bits] at hv3 ⊢
      unfold wrap64
      rw [u64w (by omega) (by omega)]
      split <;> omega
    · have e : IntKind.u64.wrap (wrap64 (64 - wrap64 (8 * 2))) = 48 := by decide +kernel
      rw [e]
      simp [shl, shr, IntKind.bits] at hv3 ⊢
      unfold wrap64
      rw [u64w (by omega) (by omega)]
      split <;> omega
    · have e : IntKind.u64.wrap (wrap64 (64 - wrap64 (8 * 4))) = 32 := by decide +kernel
      rw [e]
      simp [shl, shr, IntKind.bits] at hv3 ⊢
      unfold wrap64
      rw [u64w (by omega) (by omega)]
      split <;> omega
theorem get_eq {l : List Int} {p sz : Int} {sg : Bool} (hb : Bytes l) (hl : l.length ≤ 1000000) (h : FOk p sz l.length) (k : Nat) (hk : 6 ≤ k) : sirf_field_get.f k p (if sg = true then -sz else sz) l = some (gvB p sz sg l) := by
  obtain ⟨k, rfl⟩ : ∃ m, k = m + 6 := ⟨k - 6, by omega⟩
  obtain ⟨hp, hs, hlen⟩ := h
  have b0 := hb.rd (p + 0)
  have bp := hb.rd p
  have b1 := hb.rd (p + 1)
  have b2 := hb.rd (p + 2)
  have b3 := hb.rd (p + 3)
  unfold sirf_field_get.f
  simp only [sirf_field_many.f, mx_abs hs, Option.bind_some]
  rcases hs with rfl | rfl | rfl
  · rw [get_step hb hl hp (by omega) (by omega) (by omega) (by omega) (by omega) (by omega), show (0 : Int) + 1 = 1 by decide, get_end (by simp) (by omega) (by omega) (by simp; omega)]
    simp [gvB]
  · rw [get_step hb hl hp (by omega) (by omega) (by omega) (by omega) (by omega) (by omega), show (0 : Int) + 1 = 1 by decide,
      get_step hb hl hp (by omega) (by omega) (by omega) (by omega) (by omega) (by omega), show (1 : Int) + 1 = 2 by decide, get_end (by simp) (by omega) (by omega) (by simp; omega)]
    simp [gvB]
  · rw [get_step hb hl hp (by omega) (by omega) (by omega) (by omega) (by omega) (by omega), show (0 : Int) + 1 = 1 by decide,
      get_step hb hl hp (by omega) (by omega) (by omega) (by omega) (by omega) (by omega), show (1 : Int) + 1 = 2 by decide,
      get_step hb hl hp (by omega) (by omega) (by omega) (by omega) (by omega) (by omega), show (2 : Int) + 1 = 3 by decide,
      get_step hb hl hp (by omega) (by omega) (by omega) (by omega) (by omega) (by omega), show (3 : Int) + 1 = 4 by decide, get_end (by simp) (by omega) (by omega) (by simp; omega)]
    simp [gvB]

end Go.Proofs.Ytoeompemgpaccaa.Pure
