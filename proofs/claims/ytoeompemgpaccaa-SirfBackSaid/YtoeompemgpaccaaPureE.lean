/- Plain laws behind the SiRF statements: what is read is written again; which byte a message hangs on. -/
import Derived.Test.YtoeompemgpaccaaPureD
namespace Go.Proofs.Ytoeompemgpaccaa.Pure
open Go.RowKit Go.Proofs.Ytoeompemgpaccaa.QSirf Go.Proofs.YtoeompemgpaccaaW.PrintWords Go.Proofs.YtoeompemgpaccaaW.PrintLast Go.Proofs.YtoeompemgpaccaaW.PrintMore

theorem fits_gv {l : List Int} (hb : Bytes l) {p sz : Int} {sg : Bool} (hs : sz = 1 ∨ sz = 2 ∨ sz = 4) : fits sz sg (gvB p sz sg l) = true := by
  have b0 := hb.rd p
  have b1 := hb.rd (p + 1)
  have b2 := hb.rd (p + 2)
  have b3 := hb.rd (p + 3)
  rcases hs with rfl | rfl | rfl
  · simp only [fits, gvB, if_true]
    cases sg <;> simp <;> (try split) <;> omega
  · simp only [fits, gvB, show ¬ (2 : Int) = 1 by omega, if_true, if_false]
    cases sg <;> simp <;> (try split) <;> omega
  · simp only [fits, gvB, show ¬ (4 : Int) = 1 by omega, show ¬ (4 : Int) = 2 by omega, if_false]
    cases sg <;> simp <;> (try split) <;> omega
/-- A value's bytes, put: the bytes it was read of. -/
theorem put_gvB {l b : List Int} (hb : Bytes l) {p sz : Int} {sg : Bool} (h : FOk p sz b.length) {t : Int} (ht : 0 ≤ t) : rd (putB b p sz (gvB p sz sg l)) t = if p ≤ t ∧ t < p + sz then rd l t else rd b t := by
  have b0 := hb.rd p
  have b1 := hb.rd (p + 1)
  have b2 := hb.rd (p + 2)
  have b3 := hb.rd (p + 3)
  obtain ⟨hp, hs, hlen⟩ := h
  rcases hs with rfl | rfl | rfl
  · have e : gvB p 1 sg l % 256 = rd l p := by
      simp only [gvB, if_true]
      split <;> omega
    unfold putB
    rw [if_pos rfl, e, rd_set hp (by omega) ht]
    by_cases h0 : p = t
    · subst h0; rw [if_pos rfl, if_pos (by omega)]
    · rw [if_neg h0, if_neg (by omega)]
  · have e : gvB p 2 sg l / 256 % 256 = rd l p ∧ gvB p 2 sg l % 256 = rd l (p + 1) := by
      simp only [gvB, show ¬ (2 : Int) = 1 by omega, if_true, if_false]
      split <;> omega
    unfold putB
    rw [if_neg (by omega), if_pos rfl, e.1, e.2, rd_set (by omega) (by simp; omega) ht, rd_set hp (by omega) ht]
    by_cases h0 : p + 1 = t
    · subst h0; rw [if_pos rfl, if_pos (by omega)]
    · rw [if_neg h0]
      by_cases h1 : p = t
      · subst h1; rw [if_pos rfl, if_pos (by omega)]
      · rw [if_neg h1, if_neg (by omega)]
  · have e : gvB p 4 sg l / 16777216 % 256 = rd l p ∧ gvB p 4 sg l / 65536 % 256 = rd l (p + 1) ∧ gvB p 4 sg l / 256 % 256 = rd l (p + 2) ∧ gvB p 4 sg l % 256 = rd l (p + 3) := by
      simp only [gvB, show ¬ (4 : Int) = 1 by omega, show ¬ (4 : Int) = 2 by omega, if_false]
      split <;> omega
    unfold putB
    rw [if_neg (by omega), if_neg (by omega), e.1, e.2.1, e.2.2.1, e.2.2.2, rd_set (by omega) (by simp; omega) ht, rd_set (by omega) (by simp; omega) ht, rd_set (by omega) (by simp; omega) ht, rd_set hp (by omega) ht]
    by_cases h0 : p + 3 = t
    · subst h0; rw [if_pos rfl, if_pos (by omega)]
    · rw [if_neg h0]
      by_cases h1 : p + 2 = t
      · subst h1; rw [if_pos rfl, if_pos (by omega)]
      · rw [if_neg h1]
        by_cases h2 : p + 1 = t
        · subst h2; rw [if_pos rfl, if_pos (by omega)]
        · rw [if_neg h2]
          by_cases h3 : p = t
          · subst h3; rw [if_pos rfl, if_pos (by omega)]
          · rw [if_neg h3, if_neg (by omega)]
/-- Does a field hold a place? -/
def inF (t : Int) (f : S47) : Bool := decide (f.f0 ≤ t ∧ t < f.f0 + wid f)
/-- The bytes at a field's places alone tell its value. -/
theorem gv_congr {l o : List Int} {p sz : Int} {sg : Bool} (hs : sz = 1 ∨ sz = 2 ∨ sz = 4) (h : ∀ t, p ≤ t → t < p + sz → rd l t = rd o t) : gvB p sz sg l = gvB p sz sg o := by
  rcases hs with rfl | rfl | rfl
  · simp only [gvB, if_true, h p (by omega) (by omega)]
  · simp only [gvB, show ¬ (2 : Int) = 1 by omega, if_true, if_false, h p (by omega) (by omega), h (p + 1) (by omega) (by omega)]
  · simp only [gvB, show ¬ (4 : Int) = 1 by omega, show ¬ (4 : Int) = 2 by omega, if_false, h p (by omega) (by omega), h (p + 1) (by omega) (by omega), h (p + 2) (by omega) (by omega), h (p + 3) (by omega) (by omega)]
theorem gv_inj {l o : List Int} (hb : Bytes l) (ho : Bytes o) {p sz : Int} {sg : Bool} (hs : sz = 1 ∨ sz = 2 ∨ sz = 4) (h : gvB p sz sg l = gvB p sz sg o) {t : Int} (h0 : p ≤ t) (h1 : t < p + sz) : rd l t = rd o t := by
  have b0 := hb.rd p
  have b1 := hb.rd (p + 1)
  have b2 := hb.rd (p + 2)
  have b3 := hb.rd (p + 3)
  have c0 := ho.rd p
  have c1 := ho.rd (p + 1)
  have c2 := ho.rd (p + 2)
  have c3 := ho.rd (p + 3)
  rcases hs with rfl | rfl | rfl
  · obtain rfl : t = p := by omega
    simp only [gvB, if_true] at h
    split at h <;> split at h <;> omega
  · simp only [gvB, show ¬ (2 : Int) = 1 by omega, if_true, if_false] at h
    have h2 : t = p ∨ t = p + 1 := by omega
    rcases h2 with rfl | rfl <;> split at h <;> split at h <;> omega
  · simp only [gvB, show ¬ (4 : Int) = 1 by omega, show ¬ (4 : Int) = 2 by omega, if_false] at h
    have h2 : t = p ∨ t = p + 1 ∨ t = p + 2 ∨ t = p + 3 := by omega
    rcases h2 with rfl | rfl | rfl | rfl <;> split at h <;> split at h <;> omega
theorem payGo_dec {l : List Int} (hb : Bytes l) (fs : List S47) : ∀ b : List Int, FsOk fs b.length →
    ∃ b', payGo b fs (fs.map (fv l)) = (b', 0) ∧ b'.length = b.length ∧ ∀ t, 0 ≤ t → rd b' t = if fs.any (inF t) = true then rd l t else rd b t := by
  induction fs with
  | nil => intro b _; exact ⟨b, by simp [payGo], rfl, fun t _ => by simp⟩
  | cons f fs ih =>
    intro b hok
    have hf : FOk f.f0 (wid f) b.length := hok f List.mem_cons_self
    have hlen := putB_len b f.f0 (wid f) (fv l f)
    obtain ⟨b', h1, h2, h3⟩ := ih (putB b f.f0 (wid f) (fv l f)) (by rw [hlen]; exact fun g hg => hok g (List.mem_cons_of_mem _ hg))
    refine ⟨b', ?_, by omega, fun t ht => ?_⟩
    · simp only [List.map_cons, payGo]
      rw [if_pos (show fits (wid f) (sgn f) (fv l f) = true from fits_gv hb hf.2.1)]
      exact h1
    · rw [h3 t ht]
      have := put_gvB (sg := sgn f) hb hf ht
      simp only [List.any_cons, Bool.or_eq_true]
      by_cases ha : fs.any (inF t) = true
      · rw [if_pos ha, if_pos (Or.inr ha)]
      · rw [if_neg ha, show fv l f = gvB f.f0 (wid f) (sgn f) l from rfl, this]
        by_cases hi : inF t f = true
        · rw [if_pos (show f.f0 ≤ t ∧ t < f.f0 + wid f from of_decide_eq_true hi), if_pos (Or.inl hi)]
        · rw [if_neg (show ¬ (f.f0 ≤ t ∧ t < f.f0 + wid f) from fun h => hi (decide_eq_true h)), if_neg (fun h => h.elim hi ha)]
theorem inF_of {t : Int} {f : S47} (h0 : f.f0 ≤ t) (h1 : t < f.f0 + wid f) : inF t f = true := decide_eq_true ⟨h0, h1⟩
/-- What is read, written again. -/
theorem pay_dec {l : List Int} (hb : Bytes l) {n : Nat} {fs : List S47} (hok : FsOk fs n) (hn : 1 ≤ n) (h1f : ∀ f ∈ fs, 1 ≤ f.f0) (c : Int) : ∃ b', payGo ((List.replicate n 0).set 0 c) fs (fs.map (fv l)) = (b', 0) ∧ b'.length = n ∧ rd b' 0 = c ∧ fs.map (fv b') = fs.map (fv l) := by
  obtain ⟨b', h1, h2, h3⟩ := payGo_dec hb fs ((List.replicate n 0).set 0 c) (by simpa using hok)
  refine ⟨b', h1, by simpa using h2, ?_, List.map_congr_left fun f hf => ?_⟩
  · have hno : ¬ fs.any (inF 0) = true := by
      intro h
      obtain ⟨f, hf, hi⟩ := List.any_eq_true.1 h
      have := h1f f hf
      simp only [inF, decide_eq_true_eq] at hi
      omega
    rw [h3 0 (by omega), if_neg hno]
    have := rd_set (b := List.replicate n 0) (i := 0) (j := 0) (x := c) (by omega) (by simp; omega) (by omega)
    simpa using this
  · obtain ⟨hp, hs, _⟩ := hok f hf
    refine gv_congr hs fun t t0 t1 => ?_
    rw [h3 t (by omega), if_pos (List.any_eq_true.2 ⟨f, hf, inF_of t0 t1⟩)]
/-- Another byte. -/
theorem dec_other {l : List Int} (hb : Bytes l) {n : Nat} {fs : List S47} (hn : l.length = n) (hok : FsOk fs n) {a : Int} (ha : 0 ≤ a) (han : a < n) :
    decide (fs.map (fv l) = fs.map (fv (l.set a.toNat ((rd l a + 1) % 256)))) = !fs.any (inF a) := by
  have ho : Bytes (l.set a.toNat ((rd l a + 1) % 256)) := hb.set _ (by omega)
  have hr (t : Int) (ht : 0 ≤ t) := rd_set (b := l) (x := (rd l a + 1) % 256) ha (by omega) ht
  have hba := hb.rd a
  cases h : fs.any (inF a) with
  | true =>
    obtain ⟨f, hf, hi⟩ := List.any_eq_true.1 h
    refine decide_eq_false fun e => ?_
    have e1 : fv l f = fv (l.set a.toNat ((rd l a + 1) % 256)) f := by
      have := List.map_inj_left.1 e
      exact this f hf
    simp only [inF, decide_eq_true_eq] at hi
    have := gv_inj hb ho (hok f hf).2.1 e1 hi.1 hi.2
    rw [hr a ha, if_pos rfl] at this
    omega
  | false =>
    refine decide_eq_true (List.map_congr_left fun f hf => ?_)
    have hi : inF a f = false := by
      rw [List.any_eq_false] at h
      simpa using h f hf
    simp only [inF, decide_eq_false_iff_not] at hi
    refine gv_congr (hok f hf).2.1 fun t t0 t1 => ?_
    have := (hok f hf).1
    rw [hr t (by omega), if_neg (by omega)]
/-- The same messages? -/
theorem same_two {a b : Int} {v u : List Int} (hv : v.length ≤ 1000000) (hu : v.length = u.length) (d : Nat) : ∀ (j k : Nat), j + d = v.length → d + 1 ≤ k → remontoireref12_Same.l0 k (j : Int) a b v a b u = some (decide (v.drop j = u.drop j)) := by
  induction d with
  | zero =>
    intro j k hj hk
    obtain ⟨k, rfl⟩ : ∃ m, k = m + 1 := ⟨k - 1, by omega⟩
    unfold remontoireref12_Same.l0
    rw [if_neg (by omega), List.drop_of_length_le (by omega), List.drop_of_length_le (by omega)]
    simp
  | succ d ih =>
    intro j k hj hk
    obtain ⟨k, rfl⟩ : ∃ m, k = m + 1 := ⟨k - 1, by omega⟩
    have h1 : j < v.length := by omega
    have h2 : j < u.length := by omega
    have e1 : rd v (j : Int) = v[j] := by simp [rd, List.getD_eq_getElem?_getD, h1]
    have e2 : rd u (j : Int) = u[j] := by simp [rd, List.getD_eq_getElem?_getD, h2]
    unfold remontoireref12_Same.l0
    have e3 : v.drop j = v[j] :: v.drop (j + 1) := List.drop_eq_getElem_cons h1
    have e4 : u.drop j = u[j] :: u.drop (j + 1) := List.drop_eq_getElem_cons h2
    have e5 : decide (v.drop j = u.drop j) = (decide (v[j] = u[j]) && decide (v.drop (j + 1) = u.drop (j + 1))) := by
      rw [e3, e4]
      simp only [List.cons.injEq, Bool.decide_and]
    rw [if_pos (by omega), if_pos (by omega), if_pos (by omega), e1, e2, e5]
    by_cases h : v[j] = u[j]
    · rw [if_pos h, w64 (by omega) (by omega)]
      have := ih (j + 1) k (by omega) (by omega)
      rw [show (j : Int) + 1 = ((j + 1 : Nat) : Int) by omega, this]
      simp [h]
    · rw [if_neg h]
      simp [h]
theorem same_dec {a b : Int} {v u : List Int} (hv : v.length ≤ 1000000) (hu : v.length = u.length) (k : Nat) (hk : v.length + 2 ≤ k) : remontoireref12_Same.f k a b v a b u = some (decide (v = u)) := by
  unfold remontoireref12_Same.f
  rw [if_pos rfl, if_pos rfl]
  obtain ⟨k, rfl⟩ : ∃ m, k = m + 1 := ⟨k - 1, by omega⟩
  simp only [remontoireref12_Same.j0]
  rw [if_neg (by simp [hu])]
  simpa using same_two hv hu v.length 0 k (by omega) (by omega)
end Go.Proofs.Ytoeompemgpaccaa.Pure
