/- Plain laws behind the SiRF statements: the two writings of a payload are one. -/
import Derived.Test.YtoeompemgpaccaaPureB
import Derived.Test.YtoeompemgpaccaaQSirfx4
import Derived.Test.YtoeompemgpaccaaQSirfx5
namespace Go.Proofs.Ytoeompemgpaccaa.Pure
open Go.RowKit Go.Proofs.Ytoeompemgpaccaa.QSirf Go.Proofs.YtoeompemgpaccaaW.PrintWords Go.Proofs.YtoeompemgpaccaaW.PrintLast Go.Proofs.YtoeompemgpaccaaW.PrintMore

theorem rd_set {b : List Int} {i j x : Int} (hi : 0 ≤ i) (hil : i < b.length) (hj : 0 ≤ j) : rd (b.set i.toNat x) j = if i = j then x else rd b j := by
  show (b.set i.toNat x).getD j.toNat 0 = if i = j then x else b.getD j.toNat 0
  simp only [List.getD_eq_getElem?_getD, List.getElem?_set]
  by_cases h : i = j
  · subst h
    rw [if_pos rfl, if_pos rfl, if_pos (by omega)]
    rfl
  · rw [if_neg h, if_neg (by omega)]
/-- What a field's bytes become. -/
def putB (b : List Int) (p sz v : Int) : List Int :=
  if sz = 1 then b.set p.toNat (v % 256)
  else if sz = 2 then (b.set p.toNat (v / 256 % 256)).set (p + 1).toNat (v % 256)
  else (((b.set p.toNat (v / 16777216 % 256)).set (p + 1).toNat (v / 65536 % 256)).set (p + 2).toNat (v / 256 % 256)).set (p + 3).toNat (v % 256)
theorem putB_len (b : List Int) (p sz v : Int) : (putB b p sz v).length = b.length := by
  unfold putB
  split
  · simp
  · split <;> simp
theorem Bytes.set {b : List Int} (hb : Bytes b) (i : Nat) {x : Int} (h : 0 ≤ x ∧ x < 256) : Bytes (b.set i x) := by
  intro y hy
  rcases List.mem_or_eq_of_mem_set hy with h1 | rfl
  · exact hb y h1
  · exact h
theorem putB_bytes {b : List Int} (hb : Bytes b) (p sz v : Int) : Bytes (putB b p sz v) := by
  have h (x : Int) : 0 ≤ x % 256 ∧ x % 256 < 256 := by omega
  unfold putB
  split
  · exact hb.set _ (h _)
  · split
    · exact (hb.set _ (h _)).set _ (h _)
    · exact (((hb.set _ (h _)).set _ (h _)).set _ (h _)).set _ (h _)
theorem shr0 (v : Int) : shr .i64 v (wrap64 (8 * 0)) = v := by
  rw [show wrap64 (8 * 0) = 0 by decide +kernel]
  simp [shr]
theorem shr1 (v : Int) : shr .i64 v (wrap64 (8 * 1)) = v / 256 := by
  rw [show wrap64 (8 * 1) = 8 by decide +kernel]
  rfl
theorem shr2 (v : Int) : shr .i64 v (wrap64 (8 * 2)) = v / 65536 := by
  rw [show wrap64 (8 * 2) = 16 by decide +kernel]
  rfl
theorem shr3 (v : Int) : shr .i64 v (wrap64 (8 * 3)) = v / 16777216 := by
  rw [show wrap64 (8 * 3) = 24 by decide +kernel]
  rfl
theorem put_step {k : Nat} {b : List Int} {v i p sz : Int} {sg : Bool} (hs : sz = 1 ∨ sz = 2 ∨ sz = 4) (hl : b.length ≤ 1000000) (hp : 0 ≤ p) (hi : 0 ≤ i) (hin : i < sz) (hlen : p + i < b.length) :
    sirf_field_put.l0 (k + 1) b v sz i p (if sg = true then -sz else sz) = sirf_field_put.l0 k (b.set (p + i).toNat (shr .i64 v (wrap64 (8 * (sz - 1 - i))) % 256)) v sz (i + 1) p (if sg = true then -sz else sz) := by
  conv => lhs; unfold sirf_field_put.l0
  simp only [sirf_field_many.f, mx_abs hs, Option.bind_some]
  rw [if_pos hin, w64 (x := sz - 1) (by omega) (by omega), w64 (x := sz - 1 - i) (by omega) (by omega), if_pos (by rw [w64] <;> omega), w64 (x := p + i) (by omega) (by omega), if_pos (by omega), if_pos hlen, w64 (x := i + 1) (by omega) (by omega)]
theorem put_end {k : Nat} {b : List Int} {v p sz : Int} {sg : Bool} (hb : Bytes b) (hl : b.length ≤ 1000000) (h : FOk p sz b.length) (hk : 6 ≤ k) :
    sirf_field_put.l0 (k + 1) b v sz sz p (if sg = true then -sz else sz) = some (decide (gvB p sz sg b = v), b) := by
  unfold sirf_field_put.l0
  rw [if_neg (by omega), get_eq hb hl h k hk]
  rfl
theorem put_eq' {b : List Int} {p sz v : Int} {sg : Bool} (hb : Bytes b) (hl : b.length ≤ 1000000) (h : FOk p sz b.length) (k : Nat) (hk : 16 ≤ k) :
    sirf_field_put.f k p (if sg = true then -sz else sz) b v = some (decide (gvB p sz sg (putB b p sz v) = v), putB b p sz v) := by
  have hB := putB_bytes hb p sz v
  have hL := putB_len b p sz v
  have hE (k : Nat) (hk : 6 ≤ k) := put_end (k := k) (v := v) (sg := sg) hB (by omega) (by rw [hL]; exact h) hk
  obtain ⟨k, rfl⟩ : ∃ m, k = m + 16 := ⟨k - 16, by omega⟩
  obtain ⟨hp, hs, hlen⟩ := h
  unfold sirf_field_put.f
  simp only [sirf_field_many.f, mx_abs hs, Option.bind_some]
  rcases hs with rfl | rfl | rfl
  · rw [put_step (by simp) hl hp (by omega) (by omega) (by omega), show (0 : Int) + 1 = 1 by decide, show (1 : Int) - 1 - 0 = 0 by decide, shr0, Int.add_zero]
    exact hE _ (by omega)
  · rw [put_step (by simp) hl hp (by omega) (by omega) (by omega), show (0 : Int) + 1 = 1 by decide, show (2 : Int) - 1 - 0 = 1 by decide,
      put_step (by simp) (by simpa using hl) hp (by omega) (by omega) (by simp; omega), show (1 : Int) + 1 = 2 by decide, show (2 : Int) - 1 - 1 = 0 by decide, shr0, shr1, Int.add_zero]
    exact hE _ (by omega)
  · rw [put_step (by simp) hl hp (by omega) (by omega) (by omega), show (0 : Int) + 1 = 1 by decide, show (4 : Int) - 1 - 0 = 3 by decide,
      put_step (by simp) (by simpa using hl) hp (by omega) (by omega) (by simp; omega), show (1 : Int) + 1 = 2 by decide, show (4 : Int) - 1 - 1 = 2 by decide,
      put_step (by simp) (by simpa using hl) hp (by omega) (by omega) (by simp; omega), show (2 : Int) + 1 = 3 by decide, show (4 : Int) - 1 - 2 = 1 by decide,
      put_step (by simp) (by simpa using hl) hp (by omega) (by omega) (by simp; omega), show (3 : Int) + 1 = 4 by decide, show (4 : Int) - 1 - 3 = 0 by decide, shr0, shr1, shr2, shr3, Int.add_zero]
    exact hE _ (by omega)
/-- Does a value fit a field? -/
def fits (sz : Int) (sg : Bool) (v : Int) : Bool :=
  let m : Int := if sz = 1 then 256 else if sz = 2 then 65536 else 4294967296
  if sg = true then decide (-(m / 2) ≤ v ∧ v < m / 2) else decide (0 ≤ v ∧ v < m)
theorem get_put {b : List Int} {p sz v : Int} {sg : Bool} (h : FOk p sz b.length) : (gvB p sz sg (putB b p sz v) = v) ↔ fits sz sg v = true := by
  obtain ⟨hp, hs, hlen⟩ := h
  rcases hs with rfl | rfl | rfl
  · have e : rd (putB b p 1 v) p = v % 256 := by
      unfold putB
      rw [if_pos rfl, rd_set hp (by omega) hp, if_pos rfl]
    simp only [gvB, fits, if_true, e]
    cases sg <;> simp <;> (try split) <;> omega
  · have e0 : rd (putB b p 2 v) p = v / 256 % 256 := by
      unfold putB
      rw [if_neg (by omega), if_pos rfl, rd_set (by omega) (by simp; omega) hp, if_neg (by omega), rd_set hp (by omega) hp, if_pos rfl]
    have e1 : rd (putB b p 2 v) (p + 1) = v % 256 := by
      unfold putB
      rw [if_neg (by omega), if_pos rfl, rd_set (by omega) (by simp; omega) (by omega), if_pos rfl]
    simp only [gvB, fits, e0, e1, show ¬ (2 : Int) = 1 by omega, if_true, if_false]
    cases sg <;> simp <;> (try split) <;> omega
  · have e0 : rd (putB b p 4 v) p = v / 16777216 % 256 := by
      unfold putB
      rw [if_neg (by omega), if_neg (by omega), rd_set (by omega) (by simp; omega) hp, if_neg (by omega), rd_set (by omega) (by simp; omega) hp, if_neg (by omega), rd_set (by omega) (by simp; omega) hp, if_neg (by omega), rd_set hp (by omega) hp, if_pos rfl]
    have e1 : rd (putB b p 4 v) (p + 1) = v / 65536 % 256 := by
      unfold putB
      rw [if_neg (by omega), if_neg (by omega), rd_set (by omega) (by simp; omega) (by omega), if_neg (by omega), rd_set (by omega) (by simp; omega) (by omega), if_neg (by omega), rd_set (by omega) (by simp; omega) (by omega), if_pos rfl]
    have e2 : rd (putB b p 4 v) (p + 2) = v / 256 % 256 := by
      unfold putB
      rw [if_neg (by omega), if_neg (by omega), rd_set (by omega) (by simp; omega) (by omega), if_neg (by omega), rd_set (by omega) (by simp; omega) (by omega), if_pos rfl]
    have e3 : rd (putB b p 4 v) (p + 3) = v % 256 := by
      unfold putB
      rw [if_neg (by omega), if_neg (by omega), rd_set (by omega) (by simp; omega) (by omega), if_pos rfl]
    simp only [gvB, fits, e0, e1, e2, e3, show ¬ (4 : Int) = 1 by omega, show ¬ (4 : Int) = 2 by omega, if_false]
    cases sg <;> simp <;> (try split) <;> omega
theorem put_eq {b : List Int} {p sz v : Int} {sg : Bool} (hb : Bytes b) (hl : b.length ≤ 1000000) (h : FOk p sz b.length) (k : Nat) (hk : 16 ≤ k) :
    sirf_field_put.f k p (if sg = true then -sz else sz) b v = some (fits sz sg v, putB b p sz v) := by
  rw [put_eq' hb hl h k hk]
  have e : decide (gvB p sz sg (putB b p sz v) = v) = fits sz sg v := by
    cases hf : fits sz sg v with
    | true => exact decide_eq_true ((get_put h).2 hf)
    | false => exact decide_eq_false (fun e => by rw [(get_put h).1 e] at hf; cases hf)
  rw [e]

/-- The payload: fields laid one behind the other, or that a value does not fit. -/
def payGo : List Int → List S47 → List Int → List Int × Int
  | b, f :: fs, v :: vs => if fits (wid f) (sgn f) v = true then payGo (putB b f.f0 (wid f) v) fs vs else ([], 2)
  | b, _, _ => (b, 0)
theorem pay_loop {n : Nat} {fs : List S47} (hn : n ≤ 1000000) (hfs : FsOk fs n) (hfl : fs.length ≤ 100) {V : List Int} (hV : V.length = fs.length) (c : Int) (d : Nat) : ∀ (j : Nat) (b : List Int) (k : Nat), j + d = fs.length → b.length = n → Bytes b → d + 20 ≤ k →
    sirf_Payload.l0 k b fs (fs.length : Int) (j : Int) c V = some (payGo b (fs.drop j) (V.drop j)) := by
  induction d with
  | zero =>
    intro j b k hj hb hbb hk
    obtain ⟨k, rfl⟩ : ∃ m, k = m + 1 := ⟨k - 1, by omega⟩
    unfold sirf_Payload.l0
    rw [if_neg (by omega), List.drop_of_length_le (by omega)]
    simp [payGo]
  | succ d ih =>
    intro j b k hj hb hbb hk
    obtain ⟨k, rfl⟩ : ∃ m, k = m + 1 := ⟨k - 1, by omega⟩
    have hjl : j < fs.length := by omega
    have hjv : j < V.length := by omega
    have hok : FOk fs[j].f0 (wid fs[j]) b.length := by rw [hb]; exact hfs _ (List.getElem_mem hjl)
    have hrv : rd V (j : Int) = V[j] := by simp [rd, List.getD_eq_getElem?_getD, hjv]
    have hlen := putB_len b fs[j].f0 (wid fs[j]) V[j]
    have hp : sirf_field_put.f k fs[j].f0 fs[j].f1 b V[j] = some (fits (wid fs[j]) (sgn fs[j]) V[j], putB b fs[j].f0 (wid fs[j]) V[j]) := by
      rw [f1_eq fs[j]]
      exact put_eq hbb (by omega) hok k (by omega)
    unfold sirf_Payload.l0
    rw [if_pos (by omega), if_pos (by omega), if_pos (by omega), if_pos (by omega), rd_T hjl, hrv, hp, Option.bind_some, List.drop_eq_getElem_cons hjl, List.drop_eq_getElem_cons hjv]
    simp only [payGo]
    by_cases hf : fits (wid fs[j]) (sgn fs[j]) V[j] = true
    · rw [if_pos hf, if_pos hf, w64 (x := (j : Int) + 1) (by omega) (by omega)]
      exact ih (j + 1) _ k (by omega) (by omega) (putB_bytes hbb _ _ _) (by omega)
    · rw [if_neg hf, if_neg hf]

/-- The payload of a message. -/
def payV (c : Int) (V : List Int) : List Int × Int :=
  match sirf_look.f 0 c with
  | some (n, fs, true) => if (V.length : Int) = fs.length then payGo ((List.replicate n.toNat 0).set 0 c) fs V else ([], 2)
  | _ => ([], 7)
theorem zeros_bytes (n : Nat) {c : Int} (hc0 : 0 ≤ c) (hc : c < 256) : Bytes ((List.replicate n 0).set 0 c) := by
  refine Bytes.set (fun x hx => ?_) 0 ⟨hc0, hc⟩
  rw [List.mem_replicate] at hx
  omega
theorem pay_eq {c : Int} (hc0 : 0 ≤ c) (hc : c < 256) (V : List Int) (k : Nat) (hk : 50 ≤ k) : sirf_Payload.f k c V = some (payV c V) := by
  unfold sirf_Payload.f payV
  simp only [sirf_layouts.f, Option.bind_some]
  rcases look_cases hc0 hc with ⟨n, fs, h1, h2, h3, h4, h5, h6⟩ | ⟨h1, h2⟩
  · rw [h1 0]
    simp only [Option.bind_some, if_true]
    by_cases e : (V.length : Int) = fs.length
    · rw [if_pos e, if_pos e, if_pos (by omega), if_pos (by omega), Int.toNat_natCast, if_pos (by simp; omega)]
      have := pay_loop (n := n) (c := c) (V := V) (by omega) h6 (by omega) (by omega) fs.length 0 ((List.replicate n 0).set 0 c) k (by omega) (by simp) (zeros_bytes n hc0 hc) (by omega)
      simpa using this
    · rw [if_neg e, if_neg e]
  · rw [h1 0]
    simp
end Go.Proofs.Ytoeompemgpaccaa.Pure
