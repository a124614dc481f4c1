/- Plain laws behind the SiRF statements: the document's payload. -/
import Derived.Test.YtoeompemgpaccaaPureC
import Derived.Test.YtoeompemgpaccaaPureAr
import Derived.Test.YtoeompemgpaccaaQSirfx16
import Derived.Test.YtoeompemgpaccaaQSirfx17
namespace Go.Proofs.Ytoeompemgpaccaa.Pure
open Go.RowKit Go.Proofs.Ytoeompemgpaccaa.QSirf Go.Proofs.YtoeompemgpaccaaW.PrintWords Go.Proofs.YtoeompemgpaccaaW.PrintLast Go.Proofs.YtoeompemgpaccaaW.PrintMore
theorem fits_eq {sz v : Int} {sg : Bool} (hs : sz = 1 ∨ sz = 2 ∨ sz = 4) (k : Nat) (hk : 6 ≤ k) :
    remontoireref12_Fits.f k v (if sg = true then -sz else sz) = some (fits sz sg v) := by
  obtain ⟨k, rfl⟩ : ∃ m, k = m + 6 := ⟨k - 6, by omega⟩
  unfold remontoireref12_Fits.f fits
  rcases hs with rfl | rfl | rfl
  · cases sg with
    | false =>
      simp only [Bool.false_eq_true, if_false]
      rw [if_neg (by omega), pow1]
      by_cases h : v ≥ 0 <;> simp [h] <;> omega
    | true =>
      simp only [if_true]
      rw [if_pos (by omega), show wrap64 (-(-1)) = 1 by decide +kernel, pow1]
      simp only [Option.bind_some]
      rw [show wrap64 (Int.tdiv (wrap64 (-256)) 2) = -128 by decide +kernel, show wrap64 (Int.tdiv 256 2) = 128 by decide +kernel]
      by_cases h : v ≥ -128 <;> simp [h] <;> omega
  · cases sg with
    | false =>
      simp only [Bool.false_eq_true, if_false]
      rw [if_neg (by omega), pow2]
      by_cases h : v ≥ 0 <;> simp [h] <;> omega
    | true =>
      simp only [if_true]
      rw [if_pos (by omega), show wrap64 (-(-2)) = 2 by decide +kernel, pow2]
      simp only [Option.bind_some]
      rw [show wrap64 (Int.tdiv (wrap64 (-65536)) 2) = -32768 by decide +kernel, show wrap64 (Int.tdiv 65536 2) = 32768 by decide +kernel]
      by_cases h : v ≥ -32768 <;> simp [h] <;> omega
  · cases sg with
    | false =>
      simp only [Bool.false_eq_true, if_false]
      rw [if_neg (by omega), pow4]
      by_cases h : v ≥ 0 <;> simp [h] <;> omega
    | true =>
      simp only [if_true]
      rw [if_pos (by omega), show wrap64 (-(-4)) = 4 by decide +kernel, pow4]
      simp only [Option.bind_some]
      rw [show wrap64 (Int.tdiv (wrap64 (-4294967296)) 2) = -2147483648 by decide +kernel, show wrap64 (Int.tdiv 4294967296 2) = 2147483648 by decide +kernel]
      by_cases h : v ≥ -2147483648 <;> simp [h] <;> omega
section
variable {fs : List S47} {V : List Int} {c : Int} {j : Nat}
theorem l1_step {k : Nat} {b : List Int} {x t : Int} (hfl : fs.length ≤ 100) (hjl : j < fs.length) (hl : b.length ≤ 1000000) (hp : 0 ≤ fs[j].f0) (ht : 0 ≤ t) (ht4 : t ≤ 4) (hlen : fs[j].f0 + t < b.length) (hx : -4294967296 ≤ x) (hx2 : x < 4294967296) :
    remontoireref13_Payload.l1 (k + 1) (fs.flatMap pr) b (j : Int) x t c V = remontoireref13_Payload.l1 k (fs.flatMap pr) (b.set (fs[j].f0 + t).toNat (x % 256)) (j : Int) (x / 256) (t - 1) c V := by
  have hpl := prs_len fs
  obtain ⟨e1, _⟩ := rd_prs hjl
  have hw : wrap64 (2 * (j : Int)) = ((2 * j : Nat) : Int) := by rw [w64] <;> omega
  have htm : Int.tmod x 256 = x % 256 ∨ (Int.tmod x 256 = x % 256 - 256 ∧ x % 256 ≠ 0) := by
    have h := Int.tmod_eq_emod (a := x) (b := 256)
    split at h
    · left; simp at h; omega
    · right; simp at h; omega
  have e3 : Int.tdiv (x - x % 256) 256 = x / 256 := by
    rw [show x - x % 256 = 256 * (x / 256) by omega]
    exact Int.mul_tdiv_cancel_left _ (by omega)
  conv => lhs; unfold remontoireref13_Payload.l1
  rw [if_pos (show t ≥ 0 by omega)]
  rcases htm with h | ⟨h, h0⟩
  · rw [if_neg (show ¬ Int.tmod x 256 < 0 by omega), hw, if_pos (by omega), if_pos (by omega), e1, w64 (x := fs[j].f0 + t) (by omega) (by omega), if_pos (by omega), if_pos hlen, w64 (x := t - 1) (by omega) (by omega),
      h, w64 (x := x - x % 256) (by omega) (by omega), e3, w64 (x := x / 256) (by omega) (by omega), Int.emod_emod]
  · rw [if_pos (show Int.tmod x 256 < 0 by omega), hw, if_pos (by omega), if_pos (by omega), e1, w64 (x := fs[j].f0 + t) (by omega) (by omega), if_pos (by omega), if_pos hlen, w64 (x := t - 1) (by omega) (by omega),
      h, show x % 256 - 256 + 256 = x % 256 by omega, w64 (x := x % 256) (by omega) (by omega), w64 (x := x - x % 256) (by omega) (by omega), e3, w64 (x := x / 256) (by omega) (by omega), Int.emod_emod]
theorem l1_end {k : Nat} {b : List Int} {x : Int} (hj : j ≤ 100) : remontoireref13_Payload.l1 (k + 1) (fs.flatMap pr) b (j : Int) x (-1) c V = remontoireref13_Payload.l0 k (fs.flatMap pr) b ((j + 1 : Nat) : Int) c V := by
  conv => lhs; unfold remontoireref13_Payload.l1
  rw [if_neg (by omega), w64 (x := (j : Int) + 1) (by omega) (by omega)]
  rfl
theorem l1_all {b : List Int} {x : Int} (hfl : fs.length ≤ 100) (hjl : j < fs.length) (hl : b.length ≤ 1000000) (hok : FOk fs[j].f0 (wid fs[j]) b.length) (hx : -4294967296 ≤ x) (hx2 : x < 4294967296) :
    ∃ r, r ≤ 5 ∧ 0 < r ∧ ∀ k, remontoireref13_Payload.l1 (k + r) (fs.flatMap pr) b (j : Int) x (wid fs[j] - 1) c V = remontoireref13_Payload.l0 k (fs.flatMap pr) (putB b fs[j].f0 (wid fs[j]) x) ((j + 1 : Nat) : Int) c V := by
  obtain ⟨hp, hs, hlen⟩ := hok
  unfold putB
  rcases hs with h | h | h
  · refine ⟨2, by omega, by omega, fun k => ?_⟩
    rw [h] at hlen ⊢
    rw [show k + 2 = (k + 1) + 1 by omega, show (1 : Int) - 1 = 0 by decide, l1_step hfl hjl hl hp (by omega) (by omega) (by omega) hx hx2, show (0 : Int) - 1 = -1 by decide, l1_end (by omega), if_pos rfl, Int.add_zero]
  · refine ⟨3, by omega, by omega, fun k => ?_⟩
    rw [h] at hlen ⊢
    rw [show k + 3 = (k + 2) + 1 by omega, show (2 : Int) - 1 = 1 by decide, l1_step hfl hjl hl hp (by omega) (by omega) (by omega) hx hx2, show (1 : Int) - 1 = 0 by decide, show k + 2 = (k + 1) + 1 by omega,
      l1_step hfl hjl (by simpa using hl) hp (by omega) (by omega) (by simp; omega) (by omega) (by omega), show (0 : Int) - 1 = -1 by decide, l1_end (by omega), if_neg (by omega), if_pos rfl, Int.add_zero, List.set_comm _ _ (by omega)]
  · refine ⟨5, by omega, by omega, fun k => ?_⟩
    rw [h] at hlen ⊢
    rw [show k + 5 = (k + 4) + 1 by omega, show (4 : Int) - 1 = 3 by decide, l1_step hfl hjl hl hp (by omega) (by omega) (by omega) hx hx2, show (3 : Int) - 1 = 2 by decide, show k + 4 = (k + 3) + 1 by omega,
      l1_step hfl hjl (by simpa using hl) hp (by omega) (by omega) (by simp; omega) (by omega) (by omega), show (2 : Int) - 1 = 1 by decide, show k + 3 = (k + 2) + 1 by omega,
      l1_step hfl hjl (by simpa using hl) hp (by omega) (by omega) (by simp; omega) (by omega) (by omega), show (1 : Int) - 1 = 0 by decide, show k + 2 = (k + 1) + 1 by omega,
      l1_step hfl hjl (by simpa using hl) hp (by omega) (by omega) (by simp; omega) (by omega) (by omega), show (0 : Int) - 1 = -1 by decide, l1_end (by omega), if_neg (by omega), if_neg (by omega), Int.add_zero]
    have e2 : x / 256 / 256 = x / 65536 := by omega
    have e3 : x / 65536 / 256 = x / 16777216 := by omega
    rw [e2, e3]
    congr 1
    apply List.ext_getElem?
    intro m
    simp only [List.getElem?_set, List.length_set]
    repeat' split
    all_goals first | rfl | omega
end
def I64s (V : List Int) : Prop := ∀ x ∈ V, -9223372036854775808 ≤ x ∧ x < 9223372036854775808
theorem rpay_loop {n : Nat} {fs : List S47} (hn : n ≤ 1000000) (hfs : FsOk fs n) (hfl : fs.length ≤ 100) {V : List Int} (hV : V.length = fs.length) (c : Int) (d : Nat) : ∀ (j : Nat) (b : List Int), j + d = fs.length → b.length = n →
    ∃ K, ∀ k, K ≤ k → remontoireref13_Payload.l0 k (fs.flatMap pr) b (j : Int) c V = some (payGo b (fs.drop j) (V.drop j)) := by
  have hpl := prs_len fs
  induction d with
  | zero =>
    intro j b hj hb
    refine ⟨1, fun k hk => ?_⟩
    obtain ⟨k, rfl⟩ : ∃ m, k = m + 1 := ⟨k - 1, by omega⟩
    unfold remontoireref13_Payload.l0
    rw [if_neg (by omega), List.drop_of_length_le (by omega)]
    simp [payGo]
  | succ d ih =>
    intro j b hj hb
    have hjl : j < fs.length := by omega
    have hjv : j < V.length := by omega
    have hok : FOk fs[j].f0 (wid fs[j]) b.length := by rw [hb]; exact hfs _ (List.getElem_mem hjl)
    have hrv : rd V (j : Int) = V[j] := by simp [rd, List.getD_eq_getElem?_getD, hjv]
    have hlen := putB_len b fs[j].f0 (wid fs[j]) V[j]
    obtain ⟨e1, e2⟩ := rd_prs hjl
    obtain ⟨K, hK⟩ := ih (j + 1) (putB b fs[j].f0 (wid fs[j]) V[j]) (by omega) (by omega)
    refine ⟨K + 20, fun k hk => ?_⟩
    obtain ⟨k, rfl⟩ : ∃ m, k = m + 1 := ⟨k - 1, by omega⟩
    have hw : wrap64 (wrap64 (2 * (j : Int)) + 1) = ((2 * j + 1 : Nat) : Int) := by rw [w64 (x := 2 * (j : Int)) (by omega) (by omega), w64 (by omega) (by omega)]; omega
    have hft : remontoireref12_Fits.f k V[j] fs[j].f1 = some (fits (wid fs[j]) (sgn fs[j]) V[j]) := by
      rw [f1_eq fs[j]]
      exact fits_eq hok.2.1 k (by omega)
    rw [List.drop_eq_getElem_cons hjl, List.drop_eq_getElem_cons hjv]
    simp only [payGo]
    unfold remontoireref13_Payload.l0
    rw [if_pos (by omega), hw, if_pos (by omega), if_pos (by omega), if_pos (by omega), e2, hrv, hft, Option.bind_some]
    by_cases hf : fits (wid fs[j]) (sgn fs[j]) V[j] = true
    · rw [if_pos hf, if_pos hf]
      have hs := hok.2.1
      have hj1 : (if fs[j].f1 < 0 then remontoireref13_Payload.j1 k (fs.flatMap pr) b (j : Int) (wrap64 (-fs[j].f1)) c V else remontoireref13_Payload.j1 k (fs.flatMap pr) b (j : Int) fs[j].f1 c V) = remontoireref13_Payload.j1 k (fs.flatMap pr) b (j : Int) (wid fs[j]) c V := by
        unfold wid at hs ⊢
        by_cases h : fs[j].f1 < 0
        · rw [if_pos h] at hs
          rw [if_pos h, if_pos h, w64 (by omega) (by omega)]
        · rw [if_neg h, if_neg h]
      rw [hj1]
      obtain ⟨k, rfl⟩ : ∃ m, k = m + 6 := ⟨k - 6, by omega⟩
      simp only [remontoireref13_Payload.j1]
      rw [if_pos (by omega), if_pos (by omega), hrv, w64 (x := wid fs[j] - 1) (by omega) (by omega)]
      have hx : -4294967296 ≤ V[j] ∧ V[j] < 4294967296 := by
        rcases hs with h | h | h <;> rw [h] at hf <;> cases hq : sgn fs[j] <;> rw [hq] at hf <;> simp [fits] at hf <;> omega
      obtain ⟨r, hr, hr0, h⟩ := l1_all (c := c) (V := V) (b := b) (x := V[j]) hfl hjl (by omega) hok hx.1 hx.2
      replace h := h (k + 5 - r)
      rw [show k + 5 - r + r = k + 5 by omega] at h
      rw [h]
      exact hK _ (by omega)
    · rw [if_neg hf, if_neg hf]
theorem rpay_eq {c : Int} (hc0 : 0 ≤ c) (hc : c < 256) {V : List Int} (hV : V.length ≤ 1000000) : ∃ K, ∀ k, K ≤ k → remontoireref13_Payload.f k c V = some (payV c V) := by
  unfold remontoireref13_Payload.f payV
  rcases look_cases hc0 hc with ⟨n, fs, h1, h2, h3, h4, h5, h6⟩ | ⟨h1, h2⟩
  · rw [h1 0, h2]
    simp only [Option.bind_some]
    have hpl := prs_len fs
    have hn0 : ¬ (n : Int) = 0 := by omega
    simp only [if_neg hn0]
    rw [w64 (x := (V.length : Int) * 2) (by omega) (by omega), hpl]
    by_cases e : (V.length : Int) = fs.length
    · obtain ⟨K, hK⟩ := rpay_loop (n := n) (c := c) (V := V) (by omega) h6 (by omega) (by omega) fs.length 0 ((List.replicate n 0).set 0 c) (by omega) (by simp)
      refine ⟨K, fun k hk => ?_⟩
      rw [if_pos e, if_pos (by omega), if_pos (by omega), if_pos (by omega), Int.toNat_natCast, if_pos (by simp; omega)]
      simpa using hK k hk
    · exact ⟨0, fun k _ => by rw [if_neg e, if_neg (by omega)]⟩
  · rw [h1 0, h2]
    exact ⟨0, fun k _ => by simp⟩
end Go.Proofs.Ytoeompemgpaccaa.Pure
