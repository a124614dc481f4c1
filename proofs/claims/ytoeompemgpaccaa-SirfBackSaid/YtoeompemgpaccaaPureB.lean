/- Plain laws behind the SiRF statements: the two decodings are one. -/
import Derived.Test.YtoeompemgpaccaaPureA
namespace Go.Proofs.Ytoeompemgpaccaa.Pure
open Go.RowKit Go.Proofs.Ytoeompemgpaccaa.QSirf Go.Proofs.YtoeompemgpaccaaW.PrintWords Go.Proofs.YtoeompemgpaccaaW.PrintLast Go.Proofs.YtoeompemgpaccaaW.PrintMore

/-- More rounds tell the same. -/
theorem leo_add {α : Type} {g : Nat → Option α} (h : ∀ k, LeO (g k) (g (k + 1))) {k n : Nat} {r : α} (hk : k ≤ n) (hr : g k = some r) : g n = some r := by
  induction n with
  | zero => obtain rfl : k = 0 := by omega
            exact hr
  | succ n ih =>
    by_cases e : k = n + 1
    · subst e; exact hr
    · exact h n r (ih (by omega))
/-- A field as the document has it: its place, and its bytes (below 0: signed). -/
def pr (f : S47) : List Int := [f.f0, f.f1]
def sgn (f : S47) : Bool := decide (f.f1 < 0)
def wid (f : S47) : Int := if f.f1 < 0 then -f.f1 else f.f1
theorem f1_eq (f : S47) : f.f1 = if sgn f = true then -wid f else wid f := by
  unfold sgn wid
  by_cases h : f.f1 < 0 <;> simp [h]
def fv (l : List Int) (f : S47) : Int := gvB f.f0 (wid f) (sgn f) l
def FsOk (fs : List S47) (len : Nat) : Prop := ∀ f ∈ fs, FOk f.f0 (wid f) len

theorem rd_T {fs : List S47} {i : Nat} (h : i < fs.length) : rd_T47 fs (i : Int) = fs[i] := by
  unfold rd_T47
  simp [List.getD_eq_getElem?_getD, h]
theorem dec_loop {l : List Int} {fs : List S47} (hb : Bytes l) (hl : l.length ≤ 1000000) (hfs : FsOk fs l.length) (hn : fs.length ≤ 100) (c : Int) (d : Nat) : ∀ (j : Nat) (acc : List Int) (k : Nat), j + d = fs.length → acc.length ≤ j → d + 10 ≤ k →
    sirf_Decode.l0 k l fs (fs.length : Int) (j : Int) c acc = some (c, acc ++ (fs.drop j).map (fv l), 0) := by
  induction d with
  | zero =>
    intro j acc k hj ha hk
    obtain ⟨k, rfl⟩ : ∃ m, k = m + 1 := ⟨k - 1, by omega⟩
    unfold sirf_Decode.l0
    rw [if_neg (by omega), List.drop_of_length_le (by omega)]
    simp
  | succ d ih =>
    intro j acc k hj ha hk
    obtain ⟨k, rfl⟩ : ∃ m, k = m + 1 := ⟨k - 1, by omega⟩
    have hjl : j < fs.length := by omega
    have hg : sirf_field_get.f k fs[j].f0 fs[j].f1 l = some (fv l fs[j]) := by
      rw [f1_eq fs[j]]
      exact get_eq hb hl (hfs _ (List.getElem_mem hjl)) k (by omega)
    unfold sirf_Decode.l0
    rw [if_pos (by omega), if_pos (by omega), if_pos (by omega), rd_T hjl, hg, Option.bind_some, if_pos (by omega), w64 (x := (j : Int) + 1) (by omega) (by omega)]
    have := ih (j + 1) (acc ++ [fv l fs[j]]) k (by omega) (by simp; omega) (by omega)
    rw [show ((j : Int) + 1) = ((j + 1 : Nat) : Int) by omega]
    rw [this, List.append_assoc]
    rw [List.drop_eq_getElem_cons hjl, List.map_cons, List.singleton_append]
theorem prs_len (fs : List S47) : (fs.flatMap pr).length = 2 * fs.length := by
  induction fs with
  | nil => rfl
  | cons f fs ih => rw [List.flatMap_cons, List.length_append, ih]; simp [pr]; omega
theorem rd_prs {fs : List S47} {j : Nat} (h : j < fs.length) : rd (fs.flatMap pr) ((2 * j : Nat) : Int) = fs[j].f0 ∧ rd (fs.flatMap pr) ((2 * j + 1 : Nat) : Int) = fs[j].f1 := by
  induction fs generalizing j with
  | nil => simp at h
  | cons f fs ih =>
    cases j with
    | zero => simp [rd, pr]
    | succ j =>
      have := @ih j (by simpa using h)
      simp only [rd, Int.toNat_natCast] at this ⊢
      rw [show 2 * (j + 1) = (2 * j) + 2 by omega, show 2 * j + 2 + 1 = (2 * j + 1) + 2 by omega]
      simpa [pr, List.getD_eq_getElem?_getD] using this
theorem tab_layout : ∀ r ∈ LTab, ∃ c, r.1 = [c] ∧ 0 ≤ c ∧ c < 256 ∧ remontoireref13_Layout.f c = some (r.2.headD 0, (flds r.2.tail).flatMap pr) ∧ 0 < r.2.headD 0 ∧ r.2.headD 0 ≤ 200 ∧ (flds r.2.tail).length ≤ 20 ∧ FsOk (flds r.2.tail) (r.2.headD 0).toNat := by
  have h : LTab.all (fun r => match r.1 with
    | [c] => decide (0 ≤ c ∧ c < 256) && (remontoireref13_Layout.f c == some (r.2.headD 0, (flds r.2.tail).flatMap pr)) && decide (0 < r.2.headD 0 ∧ r.2.headD 0 ≤ 200 ∧ (flds r.2.tail).length ≤ 20) &&
        (flds r.2.tail).all (fun f => decide (0 ≤ f.f0 ∧ (wid f = 1 ∨ wid f = 2 ∨ wid f = 4) ∧ f.f0 + wid f ≤ ((r.2.headD 0).toNat : Int)))
    | _ => false) = true := by kernel_rfl
  intro r hr
  have h1 := List.all_eq_true.1 h r hr
  obtain ⟨k, v⟩ := r
  match k, h1 with
  | [c], h1 =>
    simp only [Bool.and_eq_true, decide_eq_true_eq, beq_iff_eq, List.all_eq_true] at h1
    obtain ⟨⟨⟨h2, h3⟩, h4⟩, h5⟩ := h1
    exact ⟨c, rfl, h2.1, h2.2, h3, h4.1, h4.2.1, h4.2.2, fun f hf => h5 f hf⟩
theorem tab_none {c : Int} (h : LTab.find? (fun r => r.1 == [c]) = none) : remontoireref13_Layout.f c = some (0, []) := by
  rw [List.find?_eq_none] at h
  have hne : ∀ r ∈ LTab, r.1 ≠ [c] := fun r hr he => h r hr (by simpa using he)
  simp only [LTab, List.mem_cons, List.not_mem_nil, or_false, forall_eq_or_imp, forall_eq, ne_eq, List.cons.injEq, and_true] at hne
  obtain ⟨n1, n2, n3, n4, n5, n6, n7, n8⟩ := hne
  unfold remontoireref13_Layout.f
  rw [if_neg (fun e => n1 e.symm), if_neg (fun e => n2 e.symm), if_neg (fun e => n3 e.symm), if_neg (fun e => n4 e.symm), if_neg (fun e => n5 e.symm), if_neg (fun e => n6 e.symm), if_neg (fun e => n7 e.symm), if_neg (fun e => n8 e.symm)]
/-- Of each kind: it has a row, and the document's layout is that row; or it has none, and the document has none. -/
theorem look_cases {c : Int} (hc0 : 0 ≤ c) (hc : c < 256) :
    (∃ (n : Nat) (fs : List S47), (∀ t, sirf_look.f t c = some ((n : Int), fs, true)) ∧ remontoireref13_Layout.f c = some ((n : Int), fs.flatMap pr) ∧ 0 < n ∧ n ≤ 200 ∧ fs.length ≤ 20 ∧ FsOk fs n) ∨
    ((∀ t, sirf_look.f t c = some (0, [], false)) ∧ remontoireref13_Layout.f c = some (0, [])) := by
  cases h : LTab.find? (fun r => r.1 == [c]) with
  | none =>
    right
    refine ⟨fun t => ?_, tab_none h⟩
    unfold sirf_look.f
    rw [if_pos ⟨hc0, hc⟩, h]
  | some r =>
    left
    have hr := List.mem_of_find?_eq_some h
    have he := List.find?_some h
    obtain ⟨c', e1, _, _, h3, h4, h5, h6, h7⟩ := tab_layout r hr
    have e2 : r.1 = [c] := by simpa using he
    rw [e1] at e2
    injection e2 with e2 _
    subst e2
    refine ⟨(r.2.headD 0).toNat, flds r.2.tail, fun t => ?_, ?_, by omega, by omega, h6, h7⟩
    · unfold sirf_look.f
      rw [if_pos ⟨hc0, hc⟩, h, Int.toNat_of_nonneg (by omega)]
    · rw [h3, Int.toNat_of_nonneg (by omega)]

/-- The message of a payload. -/
def decV (l : List Int) : Int × List Int × Int :=
  if (l.length : Int) = 0 then (0, [], 4) else
  match sirf_look.f 0 (rd l 0) with
  | some (n, fs, true) => if (l.length : Int) = n then (rd l 0, fs.map (fv l), 0) else (0, [], 5)
  | _ => (0, [], 7)
theorem dec_eq {l : List Int} (hb : Bytes l) (hl : l.length ≤ 1000000) (k : Nat) (hk : 40 ≤ k) : sirf_Decode.f k l = some (decV l) := by
  unfold sirf_Decode.f decV
  by_cases h0 : (l.length : Int) = 0
  · rw [if_pos h0, if_pos h0]
  rw [if_neg h0, if_neg h0]
  simp only [sirf_layouts.f, Option.bind_some]
  rw [if_pos (by omega)]
  have hr := hb.rd 0
  rcases look_cases hr.1 hr.2 with ⟨n, fs, h1, h2, h3, h4, h5, h6⟩ | ⟨h1, h2⟩
  · rw [h1 0]
    simp only [Option.bind_some, if_true]
    by_cases e : (l.length : Int) = n
    · rw [if_pos e, if_pos e]
      have e' : l.length = n := by omega
      have := dec_loop (c := rd l 0) hb hl (by rw [e']; exact h6) (by omega) fs.length 0 [] k (by omega) (by simp) (by omega)
      simpa using this
    · rw [if_neg e, if_neg e]
  · rw [h1 0]
    simp
theorem same_loop {a b : Int} {v : List Int} (hv : v.length ≤ 1000000) (d : Nat) : ∀ (j k : Nat), j + d = v.length → d + 1 ≤ k → remontoireref12_Same.l0 k (j : Int) a b v a b v = some true := by
  induction d with
  | zero =>
    intro j k hj hk
    obtain ⟨k, rfl⟩ : ∃ m, k = m + 1 := ⟨k - 1, by omega⟩
    unfold remontoireref12_Same.l0
    rw [if_neg (by omega)]
  | succ d ih =>
    intro j k hj hk
    obtain ⟨k, rfl⟩ : ∃ m, k = m + 1 := ⟨k - 1, by omega⟩
    unfold remontoireref12_Same.l0
    rw [if_pos (by omega), if_pos (by omega), if_pos (by omega), if_pos rfl, w64 (by omega) (by omega)]
    exact ih (j + 1) k (by omega) (by omega)
theorem same_self {a b : Int} {v : List Int} (hv : v.length ≤ 1000000) (k : Nat) (hk : v.length + 2 ≤ k) : remontoireref12_Same.f k a b v a b v = some true := by
  unfold remontoireref12_Same.f
  rw [if_pos rfl, if_pos rfl]
  obtain ⟨k, rfl⟩ : ∃ m, k = m + 1 := ⟨k - 1, by omega⟩
  simp only [remontoireref12_Same.j0]
  rw [if_neg (by simp)]
  exact same_loop hv v.length 0 k (by omega) (by omega)
theorem sameS_self {a : Int} {v : List Int} (hv : v.length ≤ 1000000) (k : Nat) (hk : v.length + 2 ≤ k) : remontoireref13_Same.f k a v a v = some true := by
  unfold remontoireref13_Same.f
  rw [same_self hv k hk]
  rfl
theorem known_100 : remontoirelaw13_known.f 100 = some true := by kernel_rfl
theorem known_true (k : Nat) (hk : 100 ≤ k) : remontoirelaw13_known.f k = some true := leo_add (fun k => remontoirelaw13_known.mono k) hk known_100
theorem decV_len {l : List Int} (hb : Bytes l) : (decV l).2.1.length ≤ 20 := by
  unfold decV
  split
  · simp
  have hr := hb.rd 0
  rcases look_cases hr.1 hr.2 with ⟨n, fs, h1, _, _, _, h5, _⟩ | ⟨h1, _⟩
  · rw [h1 0]
    dsimp only
    split <;> simp
    exact h5
  · rw [h1 0]; simp
end Go.Proofs.Ytoeompemgpaccaa.Pure
