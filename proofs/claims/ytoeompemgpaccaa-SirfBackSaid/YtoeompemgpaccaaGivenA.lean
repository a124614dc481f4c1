/- What sirf.layouts makes: a map whose entries are the eight rows of its text, in whatever order they are laid. -/
import Derived.Test.YtoeompemgpaccaaInvA
import Derived.Test.YtoeompemgpaccaaQSirfx0
import Derived.Maps.Keyed
import Derived.DeepKeys4
namespace Go.Proofs.Ytoeompemgpaccaa.QSirf
open Go.RowKit Go.Proofs.YtoeompemgpaccaaW.PrintWords Go.Proofs.YtoeompemgpaccaaW.PrintLast Go.Proofs.YtoeompemgpaccaaW.PrintMore
open Go.MineInv Go.Maps

noncomputable def RG : Array Oper := opsOf Try.f15 1
/-- Of each operation that makes a value: its slot, and what the value is (0 a key, 1 a field, 2 a row of fields, 3 a layout, 4 the map). -/
def SP : List (Option (Nat × Nat × List Int)) := [some (1, 4, []), some (2, 1, [1, (-4)]), some (3, 1, [5, (-4)]), some (4, 1, [9, (-4)]), some (5, 1, [13, (-2)]), some (6, 1, [15, (-2)]), some (7, 1, [17, (-2)]), some (8, 1, [19, 1]), some (9, 1, [20, 1]), some (10, 1, [21, 1]), some (11, 1, [22, 2]), some (12, 1, [24, 4]), some (13, 1, [28, 1]), some (14, 2, [1, (-4), 5, (-4), 9, (-4), 13, (-2), 15, (-2), 17, (-2), 19, 1, 20, 1, 21, 1, 22, 2, 24, 4, 28, 1]), some (15, 3, [41, 1, (-4), 5, (-4), 9, (-4), 13, (-2), 15, (-2), 17, (-2), 19, 1, 20, 1, 21, 1, 22, 2, 24, 4, 28, 1]), none, some (16, 1, [1, (-2)]), some (17, 1, [3, 4]), some (18, 1, [7, 1]), some (19, 2, [1, (-2), 3, 4, 7, 1]), some (20, 3, [188, 1, (-2), 3, 4, 7, 1]), none, some (21, 1, [1, 2]), some (22, 1, [3, 4]), some (23, 1, [7, 1]), some (24, 1, [8, 4]), some (25, 1, [12, 4]), some (26, 1, [16, 4]), some (27, 2, [1, 2, 3, 4, 7, 1, 8, 4, 12, 4, 16, 4]), some (28, 3, [20, 1, 2, 3, 4, 7, 1, 8, 4, 12, 4, 16, 4]), none, some (29, 1, [1, 2]), some (30, 1, [3, 2]), some (31, 1, [5, 2]), some (32, 1, [7, 4]), some (33, 1, [11, 2]), some (34, 1, [13, 1]), some (35, 1, [14, 1]), some (36, 1, [15, 1]), some (37, 1, [16, 1]), some (38, 1, [17, 2]), some (39, 2, [1, 2, 3, 2, 5, 2, 7, 4, 11, 2, 13, 1, 14, 1, 15, 1, 16, 1, 17, 2]), some (40, 3, [91, 1, 2, 3, 2, 5, 2, 7, 4, 11, 2, 13, 1, 14, 1, 15, 1, 16, 1, 17, 2]), none, some (41, 1, [1, 1]), some (42, 1, [2, 1]), some (43, 1, [3, 1]), some (44, 1, [4, 1]), some (45, 1, [5, 1]), some (46, 1, [6, 2]), some (47, 1, [8, (-2)]), some (48, 1, [10, 4]), some (49, 1, [14, 1]), some (50, 2, [1, 1, 2, 1, 3, 1, 4, 1, 5, 1, 6, 2, 8, (-2), 10, 4, 14, 1]), some (51, 3, [19, 1, 1, 2, 1, 3, 1, 4, 1, 5, 1, 6, 2, 8, (-2), 10, 4, 14, 1]), none, some (52, 1, [1, 1]), some (53, 2, [1, 1]), some (54, 3, [2, 1, 1]), none, some (55, 1, [1, 1]), some (56, 2, [1, 1]), some (57, 3, [2, 1, 1]), none, some (58, 1, [1, 1]), some (59, 1, [2, 1]), some (60, 1, [3, 1]), some (61, 2, [1, 1, 2, 1, 3, 1]), some (62, 3, [8, 1, 1, 2, 1, 3, 1]), none, none, none]
/-- Of each insertion: the key, the layout. -/
def IR : List (Option (List Int × List Int)) := [none, none, none, none, none, none, none, none, none, none, none, none, none, none, none, some ([2], [41, 1, (-4), 5, (-4), 9, (-4), 13, (-2), 15, (-2), 17, (-2), 19, 1, 20, 1, 21, 1, 22, 2, 24, 4, 28, 1]), none, none, none, none, none, some ([4], [188, 1, (-2), 3, 4, 7, 1]), none, none, none, none, none, none, none, none, some ([7], [20, 1, 2, 3, 4, 7, 1, 8, 4, 12, 4, 16, 4]), none, none, none, none, none, none, none, none, none, none, none, none, some ([41], [91, 1, 2, 3, 2, 5, 2, 7, 4, 11, 2, 13, 1, 14, 1, 15, 1, 16, 1, 17, 2]), none, none, none, none, none, none, none, none, none, none, none, some ([52], [19, 1, 1, 2, 1, 3, 1, 4, 1, 5, 1, 6, 2, 8, (-2), 10, 4, 14, 1]), none, none, none, some ([11], [2, 1, 1]), none, none, none, some ([12], [2, 1, 1]), none, none, none, none, none, some ([166], [8, 1, 1, 2, 1, 3, 1]), none, none]
/-- The rows: key, then length and fields. -/
def LTab : List (List Int × List Int) := [([2], [41, 1, (-4), 5, (-4), 9, (-4), 13, (-2), 15, (-2), 17, (-2), 19, 1, 20, 1, 21, 1, 22, 2, 24, 4, 28, 1]), ([4], [188, 1, (-2), 3, 4, 7, 1]), ([7], [20, 1, 2, 3, 4, 7, 1, 8, 4, 12, 4, 16, 4]), ([41], [91, 1, 2, 3, 2, 5, 2, 7, 4, 11, 2, 13, 1, 14, 1, 15, 1, 16, 1, 17, 2]), ([52], [19, 1, 1, 2, 1, 3, 1, 4, 1, 5, 1, 6, 2, 8, (-2), 10, 4, 14, 1]), ([11], [2, 1, 1]), ([12], [2, 1, 1]), ([166], [8, 1, 1, 2, 1, 3, 1])]
/-- The last two operations hand the map on. -/
def FN : List (Nat × Nat) := [(70, 63), (71, 0)]

def flds : List Int → List S47
  | a :: s :: r => ⟨a, s⟩ :: flds r
  | _ => []
def lit (s : Nat × List Int) : Value :=
  match s.1, s.2 with
  | 0, [c] => .int .u8 c
  | 1, [a, b] => .agg #[.int .i64 a, .int .i64 b]
  | _, _ => undef
def AVok (base m : Nat) (W : World) (s : Nat × List Int) (v : Value) : Prop :=
  if s.1 ≤ 1 then v = lit s
  else if s.1 = 2 then Kd.R k47 47 W base (fun _ => True) v (flds s.2)
  else if s.1 = 3 then ∃ u, v = .agg #[.int .i64 (s.2.headD 0), u] ∧ Kd.R k47 47 W base (fun _ => True) u (flds s.2.tail)
  else v = .map (some m)
def EntOk (base : Nat) (W : World) (e : MapEntry) (r : List Int × List Int) : Prop := e.key = lit (0, r.1) ∧ AVok base 0 W (3, r.2) e.val
def MapOk (base m : Nat) (listed : Array Bool) (W : World) : Prop :=
  base ≤ m ∧ ∃ es clock, W.heap[m]? = some (.map es clock) ∧
    (∀ e ∈ es.toList, ∃ (j : Nat) (r : List Int × List Int), listed.getD j false = true ∧ IR[j]? = some (some r) ∧ EntOk base W e r) ∧
    (∀ (j : Nat) (r : List Int × List Int), listed.getD j false = true → IR[j]? = some (some r) → ∃ e ∈ es.toList, EntOk base W e r)
/-- A map that holds the eight rows. -/
def IsLay (base : Nat) (W : World) (m : Nat) : Prop :=
  ∃ es clock, W.heap[m]? = some (.map es clock) ∧ (∀ e ∈ es.toList, ∃ r ∈ LTab, EntOk base W e r) ∧ (∀ r ∈ LTab, ∃ e ∈ es.toList, EntOk base W e r)

structure Inv (w0 : World) (listed : Array Bool) (a : Act) (W : World) : Prop where
  defers : a.defers = []
  size : 64 ≤ a.tmps.size
  below : Below w0.heap.size w0 W
  fin0 : ∀ f ∈ FN, listed.getD f.1 false = true → listed.getD 0 false = true
  ins0 : ∀ (j : Nat) (r : List Int × List Int), IR[j]? = some (some r) → listed.getD j false = true → listed.getD 0 false = true
  rest : ∃ m, (∀ (j t : Nat) (s : Nat × List Int), SP[j]? = some (some (t, s)) → listed.getD j false = true → ∃ v, a.tmps[t]? = some v ∧ AVok w0.heap.size m W s v) ∧
    (listed.getD 0 false = true → MapOk w0.heap.size m listed W) ∧ (∀ f ∈ FN, listed.getD f.1 false = true → a.tmps[f.2]? = some (.map (some m)))

theorem AVok.below {base m : Nat} {W W' : World} {s : Nat × List Int} {v : Value} (h : AVok base m W s v) (hb : Below W.heap.size W W') : AVok base m W' s v := by
  unfold AVok at h ⊢
  split at h
  · rename_i h1; rw [if_pos h1]; exact h
  rename_i h1; rw [if_neg h1]
  split at h
  · rename_i h2; rw [if_pos h2]; exact Kd.R_below h hb
  rename_i h2; rw [if_neg h2]
  split at h
  · rename_i h3; rw [if_pos h3]; obtain ⟨u, hu, hr⟩ := h; exact ⟨u, hu, Kd.R_below hr hb⟩
  rename_i h3; rw [if_neg h3]; exact h
theorem AVok.m0 {base m m' : Nat} {W : World} {s : Nat × List Int} {v : Value} (h : AVok base m W s v) (hs : s.1 ≤ 3) : AVok base m' W s v := by
  unfold AVok at h ⊢
  split at h
  · rename_i h1; rw [if_pos h1]; exact h
  rename_i h1; rw [if_neg h1]
  split at h
  · rename_i h2; rw [if_pos h2]; exact h
  rename_i h2; rw [if_neg h2]
  split at h
  · rename_i h3; rw [if_pos h3]; exact h
  rename_i h3; omega
theorem R_setMap {W : World} {base m : Nat} {v : Value} {xs : List S47} (h : Kd.R k47 47 W base (fun _ => True) v xs) {es : Array MapEntry} {c : Nat} (hm : W.heap[m]? = some (.map es c)) (o : Obj) :
    Kd.R k47 47 { W with heap := W.heap.setIfInBounds m o } base (fun _ => True) v xs := by
  refine Kd.R_mono (Kd.R_move (Kd.R_bound h) (fun k hk => ?_)) (fun _ _ => trivial)
  obtain ⟨_, _, _, q, _, cells, hc⟩ := hk
  show (W.heap.setIfInBounds m o)[k]? = _
  refine Array.getElem?_setIfInBounds_ne ?_
  rintro rfl
  rw [hc] at hm
  simp at hm
theorem AVok.setMap {base m m' : Nat} {W : World} {s : Nat × List Int} {v : Value} (h : AVok base m' W s v) {es : Array MapEntry} {c : Nat} (hm : W.heap[m]? = some (.map es c)) (o : Obj) :
    AVok base m' { W with heap := W.heap.setIfInBounds m o } s v := by
  unfold AVok at h ⊢
  split at h
  · rename_i h1; rw [if_pos h1]; exact h
  rename_i h1; rw [if_neg h1]
  split at h
  · rename_i h2; rw [if_pos h2]; exact R_setMap h hm o
  rename_i h2; rw [if_neg h2]
  split at h
  · rename_i h3; rw [if_pos h3]; obtain ⟨u, hu, hr⟩ := h; exact ⟨u, hu, R_setMap hr hm o⟩
  rename_i h3; rw [if_neg h3]; exact h

/-! ### tables -/
theorem rg_size : RG.size = 72 := by kernel_rfl
theorem sp_len : SP.length = 72 := by kernel_rfl
theorem ir_len : IR.length = 72 := by kernel_rfl
theorem rg_back : RG.toList.zipIdx.all (fun (o, i) => o.after.all fun e => e.on < i) = true := by kernel_rfl
theorem rg_dst : (RG.toList.zip SP).all (fun (o, s) => match s with | some (t, _) => o.dst == some t && o.guard == none | none => o.guard == none) = true := by kernel_rfl
theorem sp_slots : (SP.zipIdx.all fun (x, i) => SP.zipIdx.all fun (y, j) => i == j || (match x, y with | some (t, _), some (u, _) => t != u | _, _ => true)) = true := by kernel_rfl
theorem sp_mp : (SP.zipIdx.all fun (x, i) => match x with | some (_, s) => i == 0 || s.1 ≤ 3 | none => true) = true := by kernel_rfl
theorem sp_bound : (SP.all fun x => match x with | some (t, _) => t < 64 && FN.all (fun f => t != f.2) | none => true) = true := by kernel_rfl
theorem sp_fn : FN.all (fun f => (match SP[f.1]? with | some none => true | _ => false) && (match IR[f.1]? with | some none => true | _ => false) && f.1 != 0 && f.2 < 64) = true := by kernel_rfl
theorem ir_keys : (IR.zipIdx.all fun (x, i) => IR.zipIdx.all fun (y, j) => i == j || (match x, y with | some (k, _), some (l, _) => k != l | _, _ => true)) = true := by kernel_rfl
theorem ir_tab : (IR.all fun x => match x with | some r => LTab.contains r | none => true) = true := by kernel_rfl
theorem tab_ir : LTab.all (fun r => IR.contains (some r)) = true := by kernel_rfl
theorem ir_sp : (IR.zip SP).all (fun (x, s) => match x with | some _ => s == none | none => true) = true := by kernel_rfl


theorem all_zipIdx {α : Type} {l : List α} {p : α × Nat → Bool} (h : l.zipIdx.all p = true) {i : Nat} {x : α} (hx : l[i]? = some x) : p (x, i) = true := by
  rw [List.all_eq_true] at h
  exact h (x, i) (by rw [List.mem_zipIdx_iff_getElem?]; exact hx)
theorem slots_ne {i j t u : Nat} {s s' : Nat × List Int} (hi : SP[i]? = some (some (t, s))) (hj : SP[j]? = some (some (u, s'))) (h : i ≠ j) : t ≠ u := by
  have h1 := all_zipIdx sp_slots hi
  have h2 := all_zipIdx h1 hj
  simp [h] at h2
  exact h2
theorem slot_0 {i t : Nat} {s : Nat × List Int} (hi : SP[i]? = some (some (t, s))) {f : Nat × Nat} (hf : f ∈ FN) : t ≠ f.2 := by
  have h1 := List.all_eq_true.1 sp_bound _ (List.mem_of_getElem? hi)
  simp only [Bool.and_eq_true, List.all_eq_true] at h1
  simpa using h1.2 f hf
theorem fn_ok {f : Nat × Nat} (hf : f ∈ FN) : SP[f.1]? = some none ∧ IR[f.1]? = some none ∧ f.1 ≠ 0 ∧ f.2 < 64 := by
  have h1 := List.all_eq_true.1 sp_fn f hf
  simp only [Bool.and_eq_true] at h1
  obtain ⟨⟨⟨h1, h2⟩, h3⟩, h4⟩ := h1
  refine ⟨?_, ?_, by simpa using h3, by simpa using h4⟩
  · split at h1 <;> simp_all
  · split at h2 <;> simp_all
theorem slot_lt {i t : Nat} {s : Nat × List Int} (hi : SP[i]? = some (some (t, s))) : t < 64 := by
  have h1 := List.all_eq_true.1 sp_bound _ (List.mem_of_getElem? hi)
  simp only [Bool.and_eq_true] at h1
  simpa using h1.1
theorem keys_ne {i j : Nat} {r r' : List Int × List Int} (hi : IR[i]? = some (some r)) (hj : IR[j]? = some (some r')) (h : i ≠ j) : r.1 ≠ r'.1 := by
  have h1 := all_zipIdx ir_keys hi
  have h2 := all_zipIdx h1 hj
  simp [h] at h2
  exact h2
theorem sp_tag {i t : Nat} {s : Nat × List Int} (hi : SP[i]? = some (some (t, s))) (h : i ≠ 0) : s.1 ≤ 3 := by
  have h1 := all_zipIdx sp_mp hi
  simpa [h] using h1
theorem dst_of {i t : Nat} {s : Nat × List Int} {o : Oper} (ho : RG[i]? = some o) (hi : SP[i]? = some (some (t, s))) : o.dst = some t ∧ o.guard = none := by
  have h1 := List.all_eq_true.1 rg_dst (o, some (t, s)) (by
    have : (RG.toList.zip SP)[i]? = some (o, some (t, s)) := by
      rw [List.getElem?_zip_eq_some]
      exact ⟨by simpa using ho, hi⟩
    exact List.mem_of_getElem? this)
  simpa using h1
theorem guard_of {i : Nat} {o : Oper} (ho : RG[i]? = some o) (hi : SP[i]? = some none) : o.guard = none := by
  have h1 := List.all_eq_true.1 rg_dst (o, none) (by
    have : (RG.toList.zip SP)[i]? = some (o, none) := by
      rw [List.getElem?_zip_eq_some]
      exact ⟨by simpa using ho, hi⟩
    exact List.mem_of_getElem? this)
  simpa using h1

/-! ### one operation -/
theorem listed_set {listed : Array Bool} {i j : Nat} (h : (listed.setIfInBounds i true).getD j false = true) (hne : j ≠ i) : listed.getD j false = true := by
  simpa [Array.getD_eq_getD_getElem?, Array.getElem?_setIfInBounds_ne (Ne.symm hne)] using h
theorem listed_keep {listed : Array Bool} {i j : Nat} (h : listed.getD j false = true) : (listed.setIfInBounds i true).getD j false = true := by
  simp only [Array.getD_eq_getD_getElem?, Array.getElem?_setIfInBounds] at h ⊢
  split
  · split
    · rfl
    · rename_i h1 h2
      subst h1
      simp [Array.getElem?_eq_none (Nat.le_of_not_lt h2)] at h
  · exact h
theorem listed_ne {listed : Array Bool} {i j : Nat} (hi : listed.getD i true = false) (hj : listed.getD j false = true) : j ≠ i := by
  rintro rfl
  simp only [Array.getD_eq_getD_getElem?] at hi hj
  cases h : listed[j]? with
  | none => simp [h] at hj
  | some b => simp [h] at hi hj; rw [hi] at hj; simp at hj

section
variable {w0 : World} {listed : Array Bool} {a : Act} {W W' : World} {i t : Nat} {o : Oper} {s : Nat × List Int} {v : Value} {Q : Exit → Act → World → Prop}

theorem wp_value (ho : RG[i]? = some o) (hg : o.guard = none) (hrun : (execOp a.eval o).run Try.prog W = .ok (.value v) W') {K : Act → World → Prop} (hK : K (a.put o.dst v) W') : wpOp Try.prog RG Q i K a W := by
  unfold wpOp
  simp only [ho]
  rw [if_pos (by simp [Region.wanted, hg])]
  left
  unfold Oper.wp
  rw [hrun]
  exact hK
theorem wp_skip (ho : RG[i]? = some o) (hg : o.guard = none) (hrun : (execOp a.eval o).run Try.prog W = .ok .skip W') {K : Act → World → Prop} (hK : K (a.put o.dst undef) W') : wpOp Try.prog RG Q i K a W := by
  unfold wpOp
  simp only [ho]
  rw [if_pos (by simp [Region.wanted, hg])]
  left
  unfold Oper.wp
  rw [hrun]
  exact hK

/-- An operation that makes a value (all but the map). -/
theorem inv_put (hi : i ≠ 0) (hSP : SP[i]? = some (some (t, s)))
    (hb : Below W.heap.size W W') (hv : AVok w0.heap.size 0 W' s v) (hI : Inv w0 listed a W) :
    Inv w0 (listed.setIfInBounds i true) (a.put (some t) v) W' := by
  have hF : ∀ f ∈ FN, f.1 ≠ i := by
    intro f hf e
    have := (fn_ok hf).1
    rw [e, hSP] at this
    simp at this
  obtain ⟨m, h1, h2, h3⟩ := hI.rest
  have hlt := slot_lt hSP
  have hsz := hI.size
  refine ⟨hI.defers, by simpa [Act.put] using hI.size, below_step hI.below hb, fun f hf h => listed_keep (hI.fin0 f hf (listed_set h (hF f hf))), fun j r hj hl => ?_, m, ?_, ?_, ?_⟩
  · by_cases hji : j = i
    · subst hji
      have := List.all_eq_true.1 ir_sp (some r, some (t, s)) (by
        have : (IR.zip SP)[j]? = some (some r, some (t, s)) := by rw [List.getElem?_zip_eq_some]; exact ⟨hj, hSP⟩
        exact List.mem_of_getElem? this)
      simp at this
    · exact listed_keep (hI.ins0 j r hj (listed_set hl hji))
  · intro j u s' hj hl
    by_cases hji : j = i
    · subst hji
      rw [hSP] at hj
      injection hj with hj; injection hj with hj
      injection hj with e1 e2
      subst e1 e2
      refine ⟨v, ?_, hv.m0 (sp_tag hSP hi)⟩
      simp only [Act.put]
      rw [Array.getElem?_setIfInBounds_self_of_lt (by omega)]
    · obtain ⟨v', hv', hok⟩ := h1 j u s' hj (listed_set hl hji)
      refine ⟨v', ?_, hok.below hb⟩
      simp only [Act.put]
      rw [Array.getElem?_setIfInBounds_ne (Ne.symm (slots_ne hj hSP hji))]
      exact hv'
  · intro hl
    obtain ⟨hbm, es, clock, hm, he1, he2⟩ := h2 (listed_set hl (Ne.symm hi))
    have hmlt : m < W.heap.size := by
      rcases Nat.lt_or_ge m W.heap.size with h | h
      · exact h
      · simp [Array.getElem?_eq_none h] at hm
    refine ⟨hbm, es, clock, (hb.block m hmlt).trans hm, fun e hmem => ?_, fun j r hj hr => ?_⟩
    · obtain ⟨j, r, hj, hr, hk, hv'⟩ := he1 e hmem
      exact ⟨j, r, listed_keep hj, hr, hk, hv'.below hb⟩
    · have hji : j ≠ i := by
        rintro rfl
        have := List.all_eq_true.1 ir_sp (some r, some (t, s)) (by
          have : (IR.zip SP)[j]? = some (some r, some (t, s)) := by rw [List.getElem?_zip_eq_some]; exact ⟨hr, hSP⟩
          exact List.mem_of_getElem? this)
        simp at this
      obtain ⟨e, hmem, hk, hv'⟩ := he2 j r (listed_set hj hji) hr
      exact ⟨e, hmem, hk, hv'.below hb⟩
  · intro f hf hl
    have := h3 f hf (listed_set hl (hF f hf))
    simp only [Act.put]
    rw [Array.getElem?_setIfInBounds_ne (slot_0 hSP hf)]
    exact this

theorem step_val (hi : i ≠ 0) (_hnew : listed.getD i true = false) (ho : RG[i]? = some o) (hSP : SP[i]? = some (some (t, s))) (hrun : (execOp a.eval o).run Try.prog W = .ok (.value v) W')
    (hb : Below W.heap.size W W') (hv : AVok w0.heap.size 0 W' s v) (hI : Inv w0 listed a W) :
    wpOp Try.prog RG Q i (Inv w0 (listed.setIfInBounds i true)) a W := by
  obtain ⟨hd, hg⟩ := dst_of ho hSP
  refine wp_value ho hg hrun ?_
  rw [hd]
  exact inv_put hi hSP hb hv hI
/-- A call that makes a value. -/
theorem step_call {f : FuncId} {fn : Func} {xs : Array Operand} {ts : Array TypeId} {args : Array Value} (hi : i ≠ 0) (ho : RG[i]? = some o) (hSP : SP[i]? = some (some (t, s)))
    (hf : Try.prog.funcs[f]? = some fn) (hname : (fn.name == "runtime.NumGoroutine") = false) (hb : fn.body.isSome = true) (hop : o.op = .call { callee := .value (.func f), args := xs, argTypes := ts }) (hargs : xs.map a.eval = args)
    (hc : Calls Try.prog f args W fun e w' => e = .returned v ∧ Below W.heap.size W w') (hv : ∀ w', Below W.heap.size W w' → AVok w0.heap.size 0 w' s v) (hI : Inv w0 listed a W) :
    wpOp Try.prog RG Q i (Inv w0 (listed.setIfInBounds i true)) a W := by
  obtain ⟨hd, hg⟩ := dst_of ho hSP
  unfold wpOp
  simp only [ho]
  have hw : Region.wanted o (yielded RG a.tmps) = true := by simp [Region.wanted, hg]
  rw [if_pos hw]
  left
  have := goes_ (ops := RG) (Q := Q) (K := Inv w0 (listed.setIfInBounds i true)) hf hname hb args hw hd hop hargs (hc.mono fun e w' ⟨he, hbl⟩ => ⟨v, he, inv_put hi hSP hbl (hv w' hbl) hI⟩)
  rwa [if_pos hw] at this
/-- The map is made. -/
theorem step_make (hnew : listed.getD 0 true = false) (ho : RG[0]? = some o) (hrun : (execOp a.eval o).run Try.prog W = .ok (.value (.map (some W.heap.size))) (W.alloc (.map #[] 0)))
    (hI : Inv w0 listed a W) :
    wpOp Try.prog RG Q 0 (Inv w0 (listed.setIfInBounds 0 true)) a W := by
  have hSP : SP[0]? = some (some (1, 4, [])) := rfl
  obtain ⟨hd, hg⟩ := dst_of ho hSP
  refine wp_value ho hg hrun ?_
  obtain ⟨m, h1, h2, h3⟩ := hI.rest
  rw [hd]
  have hlt := slot_lt hSP
  have hsz := hI.size
  have hb : Below W.heap.size W (W.alloc (.map #[] 0)) := below_alloc (Below.refl _ _) _
  have hnf : ∀ {b : Prop}, listed.getD 0 false = true → b := fun h => absurd rfl (listed_ne hnew h)
  refine ⟨hI.defers, by simpa [Act.put] using hI.size, below_step hI.below hb, fun f hf h => ?_, fun j r hj hl => ?_, W.heap.size, ?_, ?_, ?_⟩
  · exact hnf (hI.fin0 f hf (listed_set h (fn_ok hf).2.2.1))
  · have hj0 : j ≠ 0 := by rintro rfl; simp [IR] at hj
    exact hnf (hI.ins0 j r hj (listed_set hl hj0))
  · intro j u s' hj hl
    by_cases hji : j = 0
    · subst hji
      rw [hSP] at hj
      injection hj with hj; injection hj with hj
      injection hj with e1 e2
      subst e1 e2
      refine ⟨.map (some W.heap.size), ?_, ?_⟩
      · simp only [Act.put]
        rw [Array.getElem?_setIfInBounds_self_of_lt (by omega)]
      · unfold AVok; simp
    · obtain ⟨v', hv', hok⟩ := h1 j u s' hj (listed_set hl hji)
      refine ⟨v', ?_, (hok.m0 (sp_tag hj hji)).below hb⟩
      simp only [Act.put]
      rw [Array.getElem?_setIfInBounds_ne (Ne.symm (slots_ne hj hSP hji))]
      exact hv'
  · intro _
    refine ⟨hI.below.size, #[], 0, ?_, fun e he => by simp at he, fun j r hj hr => ?_⟩
    · show (W.heap.push _)[W.heap.size]? = _
      simp
    · have hj0 : j ≠ 0 := by rintro rfl; simp [IR] at hr
      exact hnf (hI.ins0 j r hr (listed_set hj hj0))
  · intro f hf hl
    exact hnf (hI.fin0 f hf (listed_set hl (fn_ok hf).2.2.1))

/-- The end: the map is handed on. -/
theorem step_fin {f : Nat × Nat} (hf : f ∈ FN) (ho : RG[f.1]? = some o) (hd : o.dst = some f.2) (hg : o.guard = none) (h0 : listed.getD 0 false = true)
    (hI : Inv w0 listed a W) (hrun : ∀ m, a.tmps[1]? = some (.map (some m)) → (∀ g ∈ FN, listed.getD g.1 false = true → a.tmps[g.2]? = some (.map (some m))) → (execOp a.eval o).run Try.prog W = .ok (.value (.map (some m))) W) :
    wpOp Try.prog RG Q f.1 (Inv w0 (listed.setIfInBounds f.1 true)) a W := by
  obtain ⟨m, h1, h2, h3⟩ := hI.rest
  obtain ⟨v, hv, hok⟩ := h1 0 1 (4, []) rfl h0
  have hvm : v = .map (some m) := by unfold AVok at hok; simpa using hok
  subst hvm
  refine wp_value ho hg (hrun m hv h3) ?_
  rw [hd]
  have hsz := hI.size
  obtain ⟨hs, hi, hne, hlt⟩ := fn_ok hf
  refine ⟨hI.defers, by simpa [Act.put] using hI.size, hI.below, fun _ _ _ => listed_keep h0, fun _ _ _ _ => listed_keep h0, m, ?_, ?_, ?_⟩
  · intro j u s' hj hl
    have hji : j ≠ f.1 := by rintro rfl; rw [hs] at hj; simp at hj
    obtain ⟨v', hv', hok⟩ := h1 j u s' hj (listed_set hl hji)
    refine ⟨v', ?_, hok⟩
    simp only [Act.put]
    rw [Array.getElem?_setIfInBounds_ne (Ne.symm (slot_0 hj hf))]
    exact hv'
  · intro _
    obtain ⟨hbm, es, clock, hm, he1, he2⟩ := h2 h0
    refine ⟨hbm, es, clock, hm, fun e hmem => ?_, fun j r hj hr => ?_⟩
    · obtain ⟨j, r, hj, hr, h⟩ := he1 e hmem
      exact ⟨j, r, listed_keep hj, hr, h⟩
    · have hji : j ≠ f.1 := by rintro rfl; rw [hi] at hr; simp at hr
      exact he2 j r (listed_set hj hji) hr
  · intro g hgm hl
    simp only [Act.put]
    by_cases he : g.2 = f.2
    · rw [he, Array.getElem?_setIfInBounds_self_of_lt (by omega)]
    · rw [Array.getElem?_setIfInBounds_ne (Ne.symm he)]
      refine h3 g hgm (listed_set hl ?_)
      rintro h
      apply he
      simp only [FN, List.mem_cons, List.not_mem_nil, or_false] at hf hgm
      rcases hf with rfl | rfl <;> rcases hgm with rfl | rfl <;> simp_all

/-! ### keys -/
theorem Lay.keyed : Keyed Try.prog 5 := int_keyed Try.underlying5
theorem key_num (c : Int) (h0 : 0 ≤ c) (h1 : c < 256) : (Lit.int .u8 c).wf = true := by
  simp [Lit.wf, IntKind.min, IntKind.max, IntKind.signed, IntKind.bits]; omega
theorem key_of (c : Int) (h0 : 0 ≤ c) (h1 : c < 256) : ∃ l, keyOf Try.prog 5 (.int .u8 c) = some l := by
  refine ⟨.int .u8 c, ?_⟩
  simp [keyOf, mapKey, Try.underlying5, key_num c h0 h1]
theorem run_insert {W : World} {m clock : Nat} {es : Array MapEntry} {k u : Value} (hm : W.heap[m]? = some (.map es clock)) (hk : ∃ l, keyOf Try.prog 5 k = some l)
    (hes : ∀ e ∈ es.toList, ∃ l, keyOf Try.prog 5 e.key = some l) (hne : ∀ e ∈ es.toList, e.key ≠ k) :
    (Instr.mapUpdate 44 (.map (some m)) k u).run Try.prog W = .ok () { W with heap := W.heap.setIfInBounds m (.map (es.push { key := k, val := u, born := clock }) (clock + 1)) } := by
  obtain ⟨l, hl⟩ := hk
  have hc := Lay.keyed.check W false hl
  rcases Lay.keyed.find W hl es.toList hes with ⟨hf, _⟩ | ⟨j, e, hf, he, hke⟩
  · unfold Instr.mapUpdate
    simp [run_underlying Try.underlying44, getObj, setObj, Sem.run, hm, hc, hf]
  · exact absurd hke (hne e (List.mem_of_getElem? he))
theorem run_look {W : World} {m clock : Nat} {es : Array MapEntry} {k : Value} (hm : W.heap[m]? = some (.map es clock)) (hk : ∃ l, keyOf Try.prog 5 k = some l)
    (hes : ∀ e ∈ es.toList, ∃ l, keyOf Try.prog 5 e.key = some l) :
    ((Instr.lookup 44 (.map (some m)) k true).run Try.prog W = .ok (.tuple #[.agg #[.int .i64 0, .slice none 0 0], .bool false]) W ∧ ∀ e ∈ es.toList, e.key ≠ k) ∨
    ∃ e ∈ es.toList, (Instr.lookup 44 (.map (some m)) k true).run Try.prog W = .ok (.tuple #[e.val, .bool true]) W ∧ e.key = k := by
  obtain ⟨l, hl⟩ := hk
  have hc := Lay.keyed.check W es.isEmpty hl
  rcases Lay.keyed.find W hl es.toList hes with ⟨hf, hne⟩ | ⟨j, e, hf, he, hke⟩
  · left
    refine ⟨?_, hne⟩
    have hz : (zeroValue 42).run Try.prog W = .ok (.agg #[.int .i64 0, .slice none 0 0]) W := by kernel_rfl
    unfold Instr.lookup
    simp [run_underlying Try.underlying44, getObj, Sem.run, hm, hc, hf, hz]
  · right
    refine ⟨e, List.mem_of_getElem? he, ?_, hke⟩
    unfold Instr.lookup
    simp [run_underlying Try.underlying44, getObj, Sem.run, hm, hc, hf]

theorem ir_wf : (IR.all fun x => match x with | some ([c], _) => decide (0 ≤ c ∧ c < 256) | some _ => false | none => true) = true := by kernel_rfl
theorem ir_key {i : Nat} {r : List Int × List Int} (hi : IR[i]? = some (some r)) : ∃ c, r.1 = [c] ∧ ∃ l, keyOf Try.prog 5 (lit (0, r.1)) = some l := by
  have h1 := List.all_eq_true.1 ir_wf _ (List.mem_of_getElem? hi)
  obtain ⟨k, v⟩ := r
  match k, h1 with
  | [c], h1 =>
    simp only [decide_eq_true_eq] at h1
    exact ⟨c, rfl, key_of c h1.1 h1.2⟩
theorem lit_inj {k k' : List Int} {c c' : Int} (h : k = [c]) (h' : k' = [c']) (e : lit (0, k) = lit (0, k')) : k = k' := by
  subst h h'
  simp [lit] at e
  simp [e]
theorem below_setObj {B : Nat} {w W : World} (h : Below B w W) {m : Nat} (hm : B ≤ m) (o : Obj) : Below B w { W with heap := W.heap.setIfInBounds m o } := by
  refine h.trans ⟨rfl, rfl, rfl, by simp, fun k hk => ?_⟩
  show (W.heap.setIfInBounds m o)[k]? = _
  exact Array.getElem?_setIfInBounds_ne (by omega)

/-- A row of the map's text is laid. -/
theorem step_ins {l j2 : Nat} {kc : Int} {r : List Int × List Int} (hIR : IR[i]? = some (some r)) (hSPi : SP[i]? = some none) (hnew : listed.getD i true = false) (ho : RG[i]? = some o) (hd : o.dst = none) (hop : o.op = .insert 44 (.tmp 1) (.const (.int .u8 kc)) (.tmp l)) (hr0 : r.1 = [kc])
    (h0 : listed.getD 0 false = true) (hl : SP[j2]? = some (some (l, 3, r.2))) (hl2 : listed.getD j2 false = true)
    (hI : Inv w0 listed a W) : wpOp Try.prog RG Q i (Inv w0 (listed.setIfInBounds i true)) a W := by
  obtain ⟨m, h1, h2, h3⟩ := hI.rest
  obtain ⟨v, hv, hok⟩ := h1 0 1 (4, []) rfl h0
  have hvm : v = .map (some m) := by unfold AVok at hok; simpa using hok
  subst hvm
  have hvk : (Value.int .u8 kc) = lit (0, r.1) := by rw [hr0]; rfl
  obtain ⟨vl, hvl, hokl⟩ := h1 j2 l _ hl hl2
  obtain ⟨hbm, es, clock, hm, he1, he2⟩ := h2 h0
  obtain ⟨c, hr1, hkey⟩ := ir_key hIR
  have hrun : (execOp a.eval o).run Try.prog W = .ok .skip { W with heap := W.heap.setIfInBounds m (.map (es.push { key := lit (0, r.1), val := vl, born := clock }) (clock + 1)) } := by
    unfold execOp
    rw [hop]
    simp only [Act.eval, Array.getD_eq_getD_getElem?, hv, hvl, Option.getD_some]
    rw [hvk]
    have := run_insert (u := vl) hm hkey (fun e he => ?_) (fun e he => ?_)
    · simp only [Sem.run_bind, this]
      rfl
    · obtain ⟨j, r', hj, hr', hk', _⟩ := he1 e he
      rw [hk']
      obtain ⟨_, _, h⟩ := ir_key hr'
      exact h
    · obtain ⟨j, r', hj, hr', hk', _⟩ := he1 e he
      rw [hk']
      obtain ⟨c', hr1', _⟩ := ir_key hr'
      intro hc
      exact keys_ne hr' hIR (listed_ne hnew hj) (lit_inj hr1' hr1 hc)
  refine wp_skip ho (guard_of ho hSPi) hrun ?_
  rw [hd]
  have hmlt : m < W.heap.size := by
    rcases Nat.lt_or_ge m W.heap.size with h | h
    · exact h
    · simp [Array.getElem?_eq_none h] at hm
  have hF : ∀ f ∈ FN, f.1 ≠ i := by
    intro f hf e
    have := (fn_ok hf).2.1
    rw [e, hIR] at this
    simp at this
  refine ⟨hI.defers, hI.size, below_setObj hI.below hbm _, fun _ _ _ => listed_keep h0, fun _ _ _ _ => listed_keep h0, m, ?_, ?_, ?_⟩
  · intro j u s' hj hl'
    have hji : j ≠ i := by rintro rfl; rw [hSPi] at hj; simp at hj
    obtain ⟨v', hv', hok⟩ := h1 j u s' hj (listed_set hl' hji)
    exact ⟨v', hv', hok.setMap hm _⟩
  · intro _
    refine ⟨hbm, es.push { key := lit (0, r.1), val := vl, born := clock }, clock + 1, ?_, fun e he => ?_, fun j r' hj hr' => ?_⟩
    · show (W.heap.setIfInBounds m _)[m]? = _
      exact Array.getElem?_setIfInBounds_self_of_lt hmlt
    · simp only [Array.toList_push, List.mem_append, List.mem_singleton] at he
      rcases he with he | rfl
      · obtain ⟨j, r', hj, hr', hk', hv'⟩ := he1 e he
        exact ⟨j, r', listed_keep hj, hr', hk', hv'.setMap hm _⟩
      · refine ⟨i, r, ?_, hIR, rfl, (hokl.m0 (Nat.le_refl 3)).setMap hm _⟩
        have : i < listed.size := by
          rcases Nat.lt_or_ge i listed.size with h | h
          · exact h
          · simp [Array.getD_eq_getD_getElem?, Array.getElem?_eq_none h] at hnew
        simp [Array.getD_eq_getD_getElem?, Array.getElem?_setIfInBounds_self_of_lt this]
    · by_cases hji : j = i
      · subst hji
        rw [hIR] at hr'
        injection hr' with hr'; injection hr' with hr'
        subst hr'
        exact ⟨{ key := lit (0, r.1), val := vl, born := clock }, by simp, rfl, (hokl.m0 (Nat.le_refl 3)).setMap hm _⟩
      · obtain ⟨e, he, hk', hv'⟩ := he2 j r' (listed_set hj hji) hr'
        exact ⟨e, by simp [he], hk', hv'.setMap hm _⟩
  · intro f hf hl'
    exact h3 f hf (listed_set hl' (hF f hf))

/-! ### each operation -/
noncomputable def OP (i : Nat) : Oper := (RG[i]?).getD default
theorem op_eq (ho : RG[i]? = some o) : OP i = o := by unfold OP; rw [ho]; rfl
theorem dep {j : Nat} (h : (OP i).after.toList.any (fun e => e.on == j && Region.binds .any e) = true) (hl : ∀ e ∈ (OP i).after, Region.binds .any e = true → listed.getD e.on false = true) : listed.getD j false = true := by
  obtain ⟨e, he, h⟩ := List.any_eq_true.1 h
  simp only [Bool.and_eq_true, beq_iff_eq] at h
  have := hl e (Array.mem_toList_iff.1 he) h.2
  rwa [h.1] at this
theorem av_lit {base m : Nat} (h : s.1 ≤ 1) : AVok base m W s (lit s) := by unfold AVok; rw [if_pos h]
/-- What a slot holds, if it is a key or a field. -/
def specAt (t : Nat) : Option (Nat × List Int) := SP.findSome? fun x => match x with | some (u, s) => if u == t then some s else none | none => none
def litAt (t : Nat) : Value := match specAt t with | some s => lit s | none => undef
def rhoL : Operand → Value
  | .tmp t => litAt t
  | .const v => v
  | .global g => .pointer (some ⟨g, 0, none⟩)
  | .func f => .func (.func f) #[] #[]
def rhoS (u : Value) : Operand → Value
  | .tmp _ => u
  | .const v => v
  | .global g => .pointer (some ⟨g, 0, none⟩)
  | .func f => .func (.func f) #[] #[]
def rowReady (o : Oper) : Bool := o.op.operands.all fun x => match x with
  | .tmp t => o.after.toList.any fun e => Region.binds .any e && (match SP[e.on]? with | some (some (u, s)) => u == t && s.1 ≤ 1 && specAt t == some s | _ => false)
  | .const _ => true
  | _ => false
theorem row_eval (hr : rowReady o = true) (hl : ∀ e ∈ o.after, Region.binds .any e = true → listed.getD e.on false = true) (hI : Inv w0 listed a W) : ∀ x ∈ o.op.operands, a.eval x = rhoL x := by
  intro x hx
  have h := Array.all_eq_true_iff_forall_mem.1 hr x hx
  cases x with
  | const v => rfl
  | global g => simp at h
  | func f => simp at h
  | tmp t =>
    obtain ⟨e, he, h⟩ := List.any_eq_true.1 h
    simp only [Bool.and_eq_true] at h
    obtain ⟨hb, h⟩ := h
    have hle := hl e (Array.mem_toList_iff.1 he) hb
    split at h
    · rename_i u s hs
      simp only [Bool.and_eq_true, beq_iff_eq, decide_eq_true_eq] at h
      obtain ⟨⟨rfl, h1⟩, h2⟩ := h
      obtain ⟨m, hm, _⟩ := hI.rest
      obtain ⟨v, hv, hok⟩ := hm e.on u s hs hle
      have : v = lit s := by unfold AVok at hok; rwa [if_pos h1] at hok
      subst this
      simp [Act.eval, Array.getD_eq_getD_getElem?, hv, rhoL, litAt, h2]
    · simp at h

/-- A row of fields: read off its cells. -/
theorem rowCells {base : Nat} {ok : Nat → Prop} (n : Nat) : ∀ l : List S47, l.length = n → Reps (Kd.M k47 W base ok) 2 l (l.flatMap fun x => [.int .i64 x.f0, .int .i64 x.f1]) := by
  induction n with
  | zero =>
    intro l h
    obtain rfl := List.length_eq_zero_iff.1 h
    exact Reps.none _ _
  | succ n ih =>
    intro l h
    rcases List.eq_nil_or_concat l with rfl | ⟨l', x, rfl⟩
    · simp at h
    · rw [List.concat_eq_append] at h ⊢
      rw [List.flatMap_append]
      exact Reps.snoc (ih l' (by simpa using h)) (by simpa using k47_mkM W base ok x) (by simp)
theorem k47_sz : k47.sz = 2 := rfl
theorem av_row {base n : Nat} {xs : List Int} {cs : Array Value} (hb : base ≤ W.heap.size) (hc : cs.toList = (flds xs).flatMap (fun x => [.int .i64 x.f0, .int .i64 x.f1])) (hn : n = (flds xs).length) (hs : cs.size = n * 2) (hx : n ≤ maxLen) :
    AVok base 0 (W.alloc (.cells cs 47)) (2, xs) (.slice (some ⟨W.heap.size, 0, none⟩) n n) := by
  unfold AVok
  rw [if_neg (show ¬ (2 : Nat) ≤ 1 by decide), if_pos rfl]
  subst hn
  refine ⟨fun _ _ => trivial, cs.toList, ⟨by rw [k47_sz]; simpa using hs, .inr ⟨W.heap.size, (flds xs).length, cs, rfl, hb, ?_, Nat.le_refl _, hx, by rw [k47_sz]; exact hs, ?_⟩⟩, ?_⟩
  · show (W.heap.push _)[W.heap.size]? = _
    simp
  · rw [List.take_of_length_le (by simp [hs, k47_sz])]
  · rw [hc]
    exact rowCells _ _ rfl
end

end Go.Proofs.Ytoeompemgpaccaa.QSirf
