/- A region that draws its order, by an invariant: whatever order the edges allow, an invariant of what has been done holds behind each operation. -/
import Derived.Orders
namespace Go.MineInv

theorem count_set (l : List Bool) (i : Nat) (h : l[i]? = some false) : (l.set i true).count false + 1 = l.count false := by
  induction l generalizing i with
  | nil => simp at h
  | cons b l ih =>
    cases i with
    | zero => simp at h; subst h; simp
    | succ i =>
      simp only [List.getElem?_cons_succ] at h
      have := ih i h
      simp only [List.set_cons_succ, List.count_cons]
      omega

theorem ready_mem {md : Region.Mode} {ops : Array Oper} {listed : Array Bool} {i : Nat} (h : i ∈ Region.ready md ops listed) :
    i < ops.size ∧ listed.getD i true = false ∧ ∃ o, ops[i]? = some o ∧ ∀ e ∈ o.after, Region.binds md e = true → listed.getD e.on false = true := by
  simp only [Region.ready, List.mem_filter, List.mem_range, Bool.and_eq_true, Bool.not_eq_true'] at h
  obtain ⟨h1, h2, h3⟩ := h
  refine ⟨h1, h2, ?_⟩
  cases ho : ops[i]? with
  | none => simp [ho] at h3
  | some o =>
    refine ⟨o, rfl, fun e he hb => ?_⟩
    simp only [ho, Option.map_some, Option.getD_some, Array.all_eq_true_iff_forall_mem] at h3
    have := h3 e he
    simpa [hb] using this

theorem ready_nil {md : Region.Mode} {ops : Array Oper} {listed : Array Bool} (hs : listed.size = ops.size)
    (hlt : ∀ i o, ops[i]? = some o → ∀ e ∈ o.after, Region.binds md e = true → e.on < i) (h : Region.ready md ops listed = []) :
    ∀ i, i < ops.size → listed.getD i false = true := by
  intro i
  induction i using Nat.strongRecOn with
  | _ i ih =>
    intro hi
    cases hl : listed.getD i false with
    | true => rfl
    | false =>
      exfalso
      have hi' : i < listed.size := by omega
      have hm : i ∈ Region.ready md ops listed := by
        simp only [Region.ready, List.mem_filter, List.mem_range, Bool.and_eq_true, Bool.not_eq_true']
        refine ⟨hi, ?_, ?_⟩
        · simpa [Array.getD_eq_getD_getElem?, Array.getElem?_eq_getElem hi'] using hl
        · have ho : ops[i]? = some ops[i] := Array.getElem?_eq_getElem hi
          simp only [ho, Option.map_some, Option.getD_some, Array.all_eq_true_iff_forall_mem]
          intro e he
          cases hb : Region.binds md e with
          | false => simp
          | true =>
            have hlt' := hlt i _ ho e he hb
            simpa [hb] using ih e.on hlt' (by omega)
      rw [h] at hm
      simp at hm

section
variable {P : Program} {md : Region.Mode} {ops : Array Oper} {Q : Exit → Act → World → Prop}

theorem wpAny_inv (Inv : Array Bool → Act → World → Prop)
    (hlt : ∀ i o, ops[i]? = some o → ∀ e ∈ o.after, Region.binds md e = true → e.on < i)
    (hstep : ∀ listed a w i o, listed.size = ops.size → i < ops.size → ops[i]? = some o → listed.getD i true = false →
      (∀ e ∈ o.after, Region.binds md e = true → listed.getD e.on false = true) → Inv listed a w → wpOp P ops Q i (Inv (listed.setIfInBounds i true)) a w)
    (hend : ∀ listed a w, listed.size = ops.size → (∀ i, i < ops.size → listed.getD i false = true) → Inv listed a w → Q .normal a w) :
    ∀ fuel listed a w, listed.size = ops.size → listed.toList.count false ≤ fuel → Inv listed a w → wpAny P md ops Q fuel listed a w := by
  intro fuel
  induction fuel with
  | zero =>
    intro listed a w hs hc hI
    have hall : ∀ i, i < ops.size → listed.getD i false = true := by
      intro i hi
      cases hl : listed.getD i false with
      | true => rfl
      | false =>
        exfalso
        have hi' : i < listed.size := by omega
        have hmem : false ∈ listed.toList := by
          have : listed[i] = false := by simpa [Array.getD_eq_getD_getElem?, Array.getElem?_eq_getElem hi'] using hl
          rw [← this]
          exact Array.mem_toList_iff.2 (Array.getElem_mem hi')
        have := List.count_pos_iff.2 hmem
        omega
    refine ⟨?_, hend _ _ _ hs hall hI⟩
    cases hr : Region.ready md ops listed with
    | nil => rfl
    | cons i rest =>
      exfalso
      have hm : i ∈ Region.ready md ops listed := by rw [hr]; simp
      obtain ⟨h1, h2, _⟩ := ready_mem hm
      have := hall i h1
      have hi' : i < listed.size := by omega
      simp [Array.getD_eq_getD_getElem?, Array.getElem?_eq_getElem hi'] at h2 this
      rw [h2] at this
      simp at this
  | succ fuel ih =>
    intro listed a w hs hc hI
    refine ⟨fun hr => hend _ _ _ hs (ready_nil hs hlt hr) hI, fun i hi => ?_⟩
    obtain ⟨h1, h2, o, ho, h3⟩ := ready_mem hi
    refine wpOp_mono (fun a' w' hI' => ih _ _ _ (by simpa using hs) ?_ hI') (hstep listed a w i o hs h1 ho h2 h3 hI)
    have hi' : i < listed.size := by omega
    have := count_set listed.toList i (by
      simp only [Array.getElem?_toList]
      rw [Array.getElem?_eq_getElem hi']
      simpa [Array.getD_eq_getD_getElem?, Array.getElem?_eq_getElem hi'] using h2)
    rw [Array.toList_setIfInBounds]
    omega

theorem wp_region_inv {id : Nat} {a : Act} {w : World} (hm : P.follows .mixedOrders = true) (Inv : Array Bool → Act → World → Prop)
    (hlt : ∀ i o, ops[i]? = some o → ∀ e ∈ o.after, Region.binds .any e = true → e.on < i)
    (hstart : Inv (Array.replicate ops.size false) a { w with drawn := w.drawn + 1 })
    (hstep : ∀ listed a w i o, listed.size = ops.size → i < ops.size → ops[i]? = some o → listed.getD i true = false →
      (∀ e ∈ o.after, Region.binds .any e = true → listed.getD e.on false = true) → Inv listed a w → wpOp P ops Q i (Inv (listed.setIfInBounds i true)) a w)
    (hend : ∀ listed a w, listed.size = ops.size → (∀ i, i < ops.size → listed.getD i false = true) → Inv listed a w → Q .normal a w) :
    (Code.region id ops true).wp P Q a w :=
  wp_region_any hm (wpAny_inv Inv hlt hstep hend _ _ _ _ (by simp) (by simp) hstart)
theorem wpOps_inv (Inv : Array Bool → Act → World → Prop)
    (hlt : ∀ i o, ops[i]? = some o → ∀ e ∈ o.after, Region.binds .any e = true → e.on < i)
    (hstep : ∀ listed a w i o, listed.size = ops.size → i < ops.size → ops[i]? = some o → listed.getD i true = false →
      (∀ e ∈ o.after, Region.binds .any e = true → listed.getD e.on false = true) → Inv listed a w → wpOp P ops Q i (Inv (listed.setIfInBounds i true)) a w)
    (hend : ∀ listed a w, listed.size = ops.size → (∀ i, i < ops.size → listed.getD i false = true) → Inv listed a w → Q .normal a w) :
    ∀ n k listed a w, k + n = ops.size → listed.size = ops.size → (∀ j, j < k → listed.getD j false = true) → (∀ j, k ≤ j → j < ops.size → listed.getD j true = false) →
      Inv listed a w → wpOps P ops Q (List.range' k n) a w := by
  intro n
  induction n with
  | zero =>
    intro k listed a w hk hs h1 h2 hI
    simp only [List.range'_zero, wpOps]
    exact hend listed a w hs (fun i hi => h1 i (by omega)) hI
  | succ n ih =>
    intro k listed a w hk hs h1 h2 hI
    rw [List.range'_succ, wpOps_cons]
    have hkl : k < ops.size := by omega
    have ho : ops[k]? = some ops[k] := Array.getElem?_eq_getElem hkl
    refine wpOp_mono (fun a' w' hI' => ih (k + 1) _ a' w' (by omega) (by simpa using hs) (fun j hj => ?_) (fun j hj hj' => ?_) hI') (hstep listed a w k _ hs hkl ho (h2 k (Nat.le_refl _) hkl) (fun e he hb => h1 _ (hlt k _ ho e he hb)) hI)
    · by_cases hjk : j = k
      · subst hjk
        have : j < listed.size := by omega
        simp [Array.getD_eq_getD_getElem?, Array.getElem?_setIfInBounds_self_of_lt this]
      · have := h1 j (by omega)
        simpa [Array.getD_eq_getD_getElem?, Array.getElem?_setIfInBounds_ne (Ne.symm hjk)] using this
    · have hjk : j ≠ k := by omega
      have := h2 j (by omega) hj'
      simpa [Array.getD_eq_getD_getElem?, Array.getElem?_setIfInBounds_ne (Ne.symm hjk)] using this

theorem wp_region_seq {id : Nat} {a : Act} {w : World} (Inv : Array Bool → Act → World → Prop)
    (hlt : ∀ i o, ops[i]? = some o → ∀ e ∈ o.after, Region.binds .any e = true → e.on < i)
    (hstart : Inv (Array.replicate ops.size false) a w)
    (hstep : ∀ listed a w i o, listed.size = ops.size → i < ops.size → ops[i]? = some o → listed.getD i true = false →
      (∀ e ∈ o.after, Region.binds .any e = true → listed.getD e.on false = true) → Inv listed a w → wpOp P ops Q i (Inv (listed.setIfInBounds i true)) a w)
    (hend : ∀ listed a w, listed.size = ops.size → (∀ i, i < ops.size → listed.getD i false = true) → Inv listed a w → Q .normal a w) :
    (Code.region id ops false).wp P Q a w := by
  refine wp_region ?_
  rw [List.range_eq_range']
  refine wpOps_inv Inv hlt hstep hend ops.size 0 _ a w (by omega) (by simp) (fun j hj => by omega) (fun j _ hj => ?_) hstart
  simp [Array.getD_eq_getD_getElem?, hj]
end
end Go.MineInv
