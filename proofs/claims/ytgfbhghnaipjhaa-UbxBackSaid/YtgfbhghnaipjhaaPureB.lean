/- Plain laws behind the UBX statements: the two decodings are one. -/
import Derived.Test.YtgfbhghnaipjhaaPureA
namespace Go.Proofs.Ytgfbhghnaipjhaa.Pure
open Go.RowKit Go.Proofs.Ytgfbhghnaipjhaa.QUbx Go.Proofs.YtgfbhghnaipjhaaW.PrintWords Go.Proofs.YtgfbhghnaipjhaaW.PrintLast Go.Proofs.YtgfbhghnaipjhaaW.PrintMore

/-- More rounds tell the same. -/
theorem leo_add {α : Type} {g : Nat → Option α} (h : ∀ k, LeO (g k) (g (k + 1))) {k n : Nat} {r : α} (hk : k ≤ n) (hr : g k = some r) : g n = some r := by
  induction n with
  | zero => obtain rfl : k = 0 := by omega
            exact hr
  | succ n ih =>
    by_cases e : k = n + 1
    · subst e; exact hr
    · exact h n r (ih (by omega))
/-- A field as the document has it: its place, and its bytes (below 0: signed). -/
def pr (f : S49) : List Int := [f.f0, if f.f2 = true then -f.f1 else f.f1]
def fv (l : List Int) (f : S49) : Int := gv f.f0 f.f1 f.f2 l
def FsOk (fs : List S49) (len : Nat) : Prop := ∀ f ∈ fs, FOk f.f0 f.f1 len

theorem rd_T {fs : List S49} {i : Nat} (h : i < fs.length) : rd_T49 fs (i : Int) = fs[i] := by
  unfold rd_T49
  simp [List.getD_eq_getElem?_getD, h]
theorem dec_loop {l : List Int} {fs : List S49} (hb : Bytes l) (hl : l.length ≤ 1000000) (hfs : FsOk fs l.length) (hn : fs.length ≤ 100) (c i : Int) (d : Nat) : ∀ (j : Nat) (acc : List Int) (k : Nat), j + d = fs.length → acc.length ≤ j → d + 10 ≤ k →
    ubx_Decode.l0 k l fs (fs.length : Int) (j : Int) c i acc = some (c, i, acc ++ (fs.drop j).map (fv l), 0) := by
  induction d with
  | zero =>
    intro j acc k hj ha hk
    obtain ⟨k, rfl⟩ : ∃ m, k = m + 1 := ⟨k - 1, by omega⟩
    unfold ubx_Decode.l0
    rw [if_neg (by omega), List.drop_of_length_le (by omega)]
    simp
  | succ d ih =>
    intro j acc k hj ha hk
    obtain ⟨k, rfl⟩ : ∃ m, k = m + 1 := ⟨k - 1, by omega⟩
    have hjl : j < fs.length := by omega
    unfold ubx_Decode.l0
    rw [if_pos (by omega), if_pos (by omega), if_pos (by omega), rd_T hjl, get_eq hb hl (hfs _ (List.getElem_mem hjl)) k (by omega), Option.bind_some, if_pos (by omega), w64 (x := (j : Int) + 1) (by omega) (by omega)]
    have := ih (j + 1) (acc ++ [fv l fs[j]]) k (by omega) (by simp; omega) (by omega)
    rw [show ((j : Int) + 1) = ((j + 1 : Nat) : Int) by omega]
    rw [show gv fs[j].f0 fs[j].f1 fs[j].f2 l = fv l fs[j] from rfl, this, List.append_assoc]
    rw [List.drop_eq_getElem_cons hjl, List.map_cons, List.singleton_append]
theorem prs_len (fs : List S49) : (fs.flatMap pr).length = 2 * fs.length := by
  induction fs with
  | nil => rfl
  | cons f fs ih => rw [List.flatMap_cons, List.length_append, ih]; simp [pr]; omega
theorem rd_prs {fs : List S49} {j : Nat} (h : j < fs.length) : rd (fs.flatMap pr) ((2 * j : Nat) : Int) = fs[j].f0 ∧ rd (fs.flatMap pr) ((2 * j + 1 : Nat) : Int) = (if fs[j].f2 = true then -fs[j].f1 else fs[j].f1) := by
  induction fs generalizing j with
  | nil => simp at h
  | cons f fs ih =>
    cases j with
    | zero => simp [rd, pr]
    | succ j =>
      have := @ih j (by simpa using h)
      simp only [rd, Int.toNat_natCast] at this ⊢
      rw [show 2 * (j + 1) = (2 * j) + 2 by omega, show 2 * j + 2 + 1 = (2 * j + 1) + 2 by omega]
      simpa [pr, List.getD_eq_getElem?_getD] using this
theorem tab_layout : ∀ r ∈ LTab, ∃ c i, r.1 = [c, i] ∧ 0 ≤ c ∧ c < 256 ∧ 0 ≤ i ∧ i < 256 ∧ remontoireref12_Layout.f c i = some (r.2.headD 0, (flds r.2.tail).flatMap pr) ∧ 0 < r.2.headD 0 ∧ r.2.headD 0 ≤ 200 ∧ (flds r.2.tail).length ≤ 20 ∧ FsOk (flds r.2.tail) (r.2.headD 0).toNat := by
  have h : LTab.all (fun r => match r.1 with
    | [c, i] => decide (0 ≤ c ∧ c < 256 ∧ 0 ≤ i ∧ i < 256) && (remontoireref12_Layout.f c i == some (r.2.headD 0, (flds r.2.tail).flatMap pr)) && decide (0 < r.2.headD 0 ∧ r.2.headD 0 ≤ 200 ∧ (flds r.2.tail).length ≤ 20) &&
        (flds r.2.tail).all (fun f => decide (0 ≤ f.f0 ∧ (f.f1 = 1 ∨ f.f1 = 2 ∨ f.f1 = 4) ∧ f.f0 + f.f1 ≤ ((r.2.headD 0).toNat : Int)))
    | _ => false) = true := by kernel_rfl
  intro r hr
  have h1 := List.all_eq_true.1 h r hr
  obtain ⟨k, v⟩ := r
  match k, h1 with
  | [c, i], h1 =>
    simp only [Bool.and_eq_true, decide_eq_true_eq, beq_iff_eq, List.all_eq_true] at h1
    obtain ⟨⟨⟨h2, h3⟩, h4⟩, h5⟩ := h1
    exact ⟨c, i, rfl, h2.1, h2.2.1, h2.2.2.1, h2.2.2.2, h3, h4.1, h4.2.1, h4.2.2, fun f hf => h5 f hf⟩
theorem tab_none {c i : Int} (hc0 : 0 ≤ c) (hc : c < 256) (hi0 : 0 ≤ i) (hi : i < 256) (h : LTab.find? (fun r => r.1 == [c, i]) = none) : remontoireref12_Layout.f c i = some (0, []) := by
  rw [List.find?_eq_none] at h
  have hne : ∀ r ∈ LTab, r.1 ≠ [c, i] := fun r hr he => h r hr (by simpa using he)
  simp only [LTab, List.mem_cons, List.not_mem_nil, or_false, forall_eq_or_imp, forall_eq, ne_eq, List.cons.injEq, and_true, not_and] at hne
  obtain ⟨n1, n2, n3, n4, n5, n6, n7, n8, n9, n10⟩ := hne
  unfold remontoireref12_Layout.f
  have e : wrap64 (wrap64 (wrap64 c * 256) + wrap64 i) = c * 256 + i := by
    rw [w64 (x := c) (by omega) (by omega), w64 (x := i) (by omega) (by omega), w64 (x := c * 256) (by omega) (by omega), w64 (by omega) (by omega)]
  rw [e]
  have f (a b n : Int) (ha : 0 ≤ b) (hb : b < 256) (hn : n = a * 256 + b) (hh : a = c → ¬ b = i) : ¬ c * 256 + i = n := by
    intro hq
    have : a = c := by omega
    exact hh this (by omega)
  rw [if_neg (f 1 7 263 (by omega) (by omega) (by omega) n1), if_neg (f 1 32 288 (by omega) (by omega) (by omega) n2), if_neg (f 1 33 289 (by omega) (by omega) (by omega) n3), if_neg (f 1 38 294 (by omega) (by omega) (by omega) n4), if_neg (f 13 1 3329 (by omega) (by omega) (by omega) n5),
    if_neg (f 5 0 1280 (by omega) (by omega) (by omega) n6), if_neg (f 5 1 1281 (by omega) (by omega) (by omega) n7), if_neg (f 6 1 1537 (by omega) (by omega) (by omega) n8), if_neg (f 6 8 1544 (by omega) (by omega) (by omega) n9), if_neg (f 6 49 1585 (by omega) (by omega) (by omega) n10)]
/-- Of each kind: it has a row, and the document's layout is that row; or it has none, and the document has none. -/
theorem look_cases {c i : Int} (hc0 : 0 ≤ c) (hc : c < 256) (hi0 : 0 ≤ i) (hi : i < 256) :
    (∃ (n : Nat) (fs : List S49), (∀ t, ubx_look.f t c i = some ((n : Int), fs, true)) ∧ remontoireref12_Layout.f c i = some ((n : Int), fs.flatMap pr) ∧ 0 < n ∧ n ≤ 200 ∧ fs.length ≤ 20 ∧ FsOk fs n) ∨
    ((∀ t, ubx_look.f t c i = some (0, [], false)) ∧ remontoireref12_Layout.f c i = some (0, [])) := by
  cases h : LTab.find? (fun r => r.1 == [c, i]) with
  | none =>
    right
    refine ⟨fun t => ?_, tab_none hc0 hc hi0 hi h⟩
    unfold ubx_look.f
    rw [if_pos ⟨hc0, hc, hi0, hi⟩, h]
  | some r =>
    left
    have hr := List.mem_of_find?_eq_some h
    have he := List.find?_some h
    obtain ⟨c', i', e1, _, _, _, _, h3, h4, h5, h6, h7⟩ := tab_layout r hr
    have e2 : r.1 = [c, i] := by simpa using he
    rw [e1] at e2
    injection e2 with e2 e3
    injection e3 with e3 _
    subst e2 e3
    refine ⟨(r.2.headD 0).toNat, flds r.2.tail, fun t => ?_, ?_, by omega, by omega, h6, h7⟩
    · unfold ubx_look.f
      rw [if_pos ⟨hc0, hc, hi0, hi⟩, h, Int.toNat_of_nonneg (by omega)]
    · rw [h3, Int.toNat_of_nonneg (by omega)]

/-- The message of a payload. -/
def decV (c i : Int) (l : List Int) : Int × Int × List Int × Int :=
  match ubx_look.f 0 c i with
  | some (n, fs, true) => if (l.length : Int) = n then (c, i, fs.map (fv l), 0) else (0, 0, [], 5)
  | _ => (0, 0, [], 7)
theorem dec_eq {c i : Int} (hc0 : 0 ≤ c) (hc : c < 256) (hi0 : 0 ≤ i) (hi : i < 256) {l : List Int} (hb : Bytes l) (hl : l.length ≤ 1000000) (k : Nat) (hk : 40 ≤ k) : ubx_Decode.f k c i l = some (decV c i l) := by
  unfold ubx_Decode.f decV
  simp only [ubx_layouts.f, Option.bind_some]
  rcases look_cases hc0 hc hi0 hi with ⟨n, fs, h1, h2, h3, h4, h5, h6⟩ | ⟨h1, h2⟩
  · rw [h1 0]
    simp only [Option.bind_some, if_true]
    by_cases e : (l.length : Int) = n
    · rw [if_pos e, if_pos e]
      have e' : l.length = n := by omega
      have := dec_loop (c := c) (i := i) hb hl (by rw [e']; exact h6) (by omega) fs.length 0 [] k (by omega) (by simp) (by omega)
      simpa using this
    · rw [if_neg e, if_neg e]
  · rw [h1 0]
    simp
theorem same_loop {a b : Int} {v : List Int} (hv : v.length ≤ 1000000) (d : Nat) : ∀ (j k : Nat), j + d = v.length → d + 1 ≤ k → remontoireref12_Same.l0 k (j : Int) a b v a b v = some true := by
  induction d with
  | zero =>
    intro j k hj hk
    obtain ⟨k, rfl⟩ : ∃ m, k = m + 1 := ⟨k - 1, by omega⟩
    unfold remontoireref12_Same.l0
    rw [if_neg (by omega)]
  | succ d ih =>
    intro j k hj hk
    obtain ⟨k, rfl⟩ : ∃ m, k = m + 1 := ⟨k - 1, by omega⟩
    unfold remontoireref12_Same.l0
    rw [if_pos (by omega), if_pos (by omega), if_pos (by omega), if_pos rfl, w64 (by omega) (by omega)]
    exact ih (j + 1) k (by omega) (by omega)
theorem same_self {a b : Int} {v : List Int} (hv : v.length ≤ 1000000) (k : Nat) (hk : v.length + 2 ≤ k) : remontoireref12_Same.f k a b v a b v = some true := by
  unfold remontoireref12_Same.f
  rw [if_pos rfl, if_pos rfl]
  obtain ⟨k, rfl⟩ : ∃ m, k = m + 1 := ⟨k - 1, by omega⟩
  simp only [remontoireref12_Same.j0]
  rw [if_neg (by simp)]
  exact same_loop hv v.length 0 k (by omega) (by omega)
theorem known_100 : remontoirelaw12_known.f 100 = some true := by kernel_rfl
theorem known_true (k : Nat) (hk : 100 ≤ k) : remontoirelaw12_known.f k = some true := leo_add (fun k => remontoirelaw12_known.mono k) hk known_100
theorem decV_len {c i : Int} (hc0 : 0 ≤ c) (hc : c < 256) (hi0 : 0 ≤ i) (hi : i < 256) (l : List Int) : (decV c i l).2.2.1.length ≤ 20 := by
  unfold decV
  rcases look_cases hc0 hc hi0 hi with ⟨n, fs, h1, _, _, _, h5, _⟩ | ⟨h1, _⟩
  · rw [h1 0]
    dsimp only
    split <;> simp
    exact h5
  · rw [h1 0]; simp
end Go.Proofs.Ytgfbhghnaipjhaa.Pure
