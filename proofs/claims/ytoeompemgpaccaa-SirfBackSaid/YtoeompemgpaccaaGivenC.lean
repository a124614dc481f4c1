/- What a look-up in sirf.layouts' map tells; and sums.Fifteen, whose closure is handed to 'each'. -/
import Derived.Test.YtoeompemgpaccaaGivenB
import Derived.Laws.EntriesVeiled
namespace Go.Proofs.Ytoeompemgpaccaa.QSirf
open Go.RowKit Go.Proofs.YtoeompemgpaccaaW.PrintWords Go.Proofs.YtoeompemgpaccaaW.PrintLast Go.Proofs.YtoeompemgpaccaaW.PrintMore
open Go.MineInv Go.Maps

/-- The map: no number tells which block it is. -/
def sirf_layouts.f : Option Int := some 0
/-- A kind's row: length, fields, and whether there is one. -/
def sirf_look.f (_t : Int) (c : Int) : Option (Int × List S47 × Bool) :=
  if 0 ≤ c ∧ c < 256 then
    some (match LTab.find? (fun r => r.1 == [c]) with | some r => (r.2.headD 0, flds r.2.tail, true) | none => (0, [], false))
  else none

theorem IsLay.lower {base base' : Nat} {W : World} {m : Nat} (h : IsLay base W m) (hb : base' ≤ base) : IsLay base' W m := by
  obtain ⟨es, clock, hm, h1, h2⟩ := h
  have hE : ∀ e r, EntOk base W e r → EntOk base' W e r := by
    rintro e r ⟨hk, hv⟩
    refine ⟨hk, ?_⟩
    unfold AVok at hv ⊢
    rw [if_neg (show ¬ (3 : Nat) ≤ 1 by decide), if_neg (show ¬ (3 : Nat) = 2 by decide), if_pos rfl] at hv ⊢
    obtain ⟨u, hu, hr⟩ := hv
    exact ⟨u, hu, Kd.R_lower hr hb⟩
  exact ⟨es, clock, hm, fun e he => (h1 e he).imp fun r ⟨hr, h⟩ => ⟨hr, hE e r h⟩, fun r hr => (h2 r hr).imp fun e ⟨he, h⟩ => ⟨he, hE e r h⟩⟩
theorem IsLay.below {base : Nat} {W W' : World} {m : Nat} (h : IsLay base W m) (hb : Below W.heap.size W W') : IsLay base W' m := by
  obtain ⟨es, clock, hm, h1, h2⟩ := h
  have hmlt : m < W.heap.size := by
    rcases Nat.lt_or_ge m W.heap.size with h | h
    · exact h
    · simp [Array.getElem?_eq_none h] at hm
  exact ⟨es, clock, (hb.block m hmlt).trans hm, fun e he => (h1 e he).imp fun r ⟨hr, hk, hv⟩ => ⟨hr, hk, hv.below hb⟩, fun r hr => (h2 r hr).imp fun e ⟨he, hk, hv⟩ => ⟨he, hk, hv.below hb⟩⟩
theorem IsLay.here {base : Nat} {W : World} {m : Nat} (_h : IsLay base W m) : Below W.heap.size W W := Below.refl _ _
theorem tab_wf : (LTab.all fun r => match r.1 with | [c] => decide (0 ≤ c ∧ c < 256) | _ => false) = true := by kernel_rfl
theorem tab_keys : (LTab.zipIdx.all fun (x, i) => LTab.zipIdx.all fun (y, j) => i == j || x.1 != y.1) = true := by kernel_rfl
theorem tab_key {r : List Int × List Int} (hr : r ∈ LTab) : ∃ c, r.1 = [c] ∧ ∃ l, keyOf Try.prog 5 (lit (0, r.1)) = some l := by
  have h1 := List.all_eq_true.1 tab_wf r hr
  obtain ⟨k, v⟩ := r
  match k, h1 with
  | [c], h1 =>
    simp only [decide_eq_true_eq] at h1
    exact ⟨c, rfl, key_of c h1.1 h1.2⟩
theorem tab_find {r : List Int × List Int} (hr : r ∈ LTab) : LTab.find? (fun x => x.1 == r.1) = some r := by
  obtain ⟨i, hi⟩ := List.getElem?_of_mem hr
  cases h : LTab.find? (fun x => x.1 == r.1) with
  | none => exact absurd (List.find?_eq_none.1 h r hr) (by simp)
  | some x =>
    have hx := List.find?_some h
    obtain ⟨j, hj⟩ := List.getElem?_of_mem (List.mem_of_find?_eq_some h)
    have h2 := all_zipIdx (all_zipIdx tab_keys hi) hj
    by_cases hij : i = j
    · subst hij; rw [hi] at hj; exact hj.symm
    · have e : x.1 = r.1 := by simpa using hx
      simp [hij, e] at h2
theorem look_run {base : Nat} {W : World} {m : Nat} {t c n : Int} {fs : List S47} {b : Bool} (h : IsLay base W m) (hf : sirf_look.f t c = some (n, fs, b)) :
    ∃ v, (Instr.lookup 44 (.map (some m)) (.int .u8 c) true).run Try.prog W = .ok (.tuple #[.agg #[.int .i64 n, v], .bool b]) W ∧ Kd.R k47 47 W base (fun _ => True) v fs := by
  unfold sirf_look.f at hf
  split at hf
  case isFalse => simp at hf
  rename_i hr
  obtain ⟨es, clock, hm, h1, h2⟩ := h
  have hk := key_of c hr.1 hr.2
  have hlit : lit (0, [c]) = .int .u8 c := rfl
  rcases run_look hm hk (fun e he => by
    obtain ⟨r, hr, hke, _⟩ := h1 e he
    obtain ⟨_, _, hl⟩ := tab_key hr
    rw [hke]; exact hl) with ⟨hrun, hne⟩ | ⟨e, he, hrun, hke⟩
  · have hnone : LTab.find? (fun r => r.1 == [c]) = none := by
      rw [List.find?_eq_none]
      intro r hr hc
      obtain ⟨e, he, hke, _⟩ := h2 r hr
      refine hne e he ?_
      have : r.1 = [c] := by simpa using hc
      rw [hke, this]
      rfl
    rw [hnone] at hf
    injection hf with hf
    injection hf with e1 e2
    injection e2 with e2 e3
    subst e1 e2 e3
    exact ⟨_, hrun, Kd.R_nil _ _ _ _ _⟩
  · obtain ⟨r, hr, hke', hv⟩ := h1 e he
    obtain ⟨c', hr1, _⟩ := tab_key hr
    have hr2 : r.1 = [c] := lit_inj hr1 rfl (hke'.symm.trans hke)
    have := tab_find hr
    rw [hr2] at this
    rw [this] at hf
    injection hf with hf
    injection hf with e1 e2
    injection e2 with e2 e3
    subst e1 e2 e3
    unfold AVok at hv
    rw [if_neg (show ¬ (3 : Nat) ≤ 1 by decide), if_neg (show ¬ (3 : Nat) = 2 by decide), if_pos rfl] at hv
    obtain ⟨u, hu, hR⟩ := hv
    rw [hu] at hrun
    exact ⟨u, hrun, hR⟩

section
variable {P : Program} {ops : Array Oper} {Q : Exit → Act → World → Prop}
theorem value_L {rest : List Oper} {oi : Oper} {a : Act} {w w1 : World} {v : Value} (hg : oi.guard = none) (hrun : (execOp a.eval oi).run P w = .ok (.value v) w1)
    (h : wpList P ops Q rest (a.put oi.dst v) w1) : wpList P ops Q (oi :: rest) a w :=
  Kd.event_run hg hrun h
end

/-! ### sums.Fifteen -/
def fifStep (s x : Int) : Int := Go.bits .and .u16 (IntKind.u16.wrap (s + IntKind.u16.wrap x)) 32767
def fifSum (l : List Int) : Int := l.foldl fifStep 0
set_option maxHeartbeats 1000000 in
set_option maxRecDepth 100000 in
theorem clos28 (x s : Int) (g2 : Nat) (w : World) (h2 : w.heap[g2]? = some (.cells #[.int .u16 s] 56 (0, 0))) :
    Calls Try.prog 28 #[.int .u8 x, .pointer (some ⟨g2, 0, none⟩)] w fun e w' => e = .returned (.tuple #[]) ∧ w' = w.setCell ⟨g2, 0, none⟩ (.int .u16 (fifStep s x)) := by
  have c2 : w.cell? ⟨g2, 0, none⟩ = some (.int .u16 s) := (blk_cell h2 0).trans rfl
  have f2 := blk_frozen h2 0
  clear h2
  go_enter Try.func28, Try.ntmps28
  go_wp2
  go_end0
  exact ⟨rfl, rfl⟩
/-- The closure's variable, behind so many bytes. -/
structure FifAt (w0 w : World) (g2 : Nat) (s : Int) : Prop where
  a : w.heap[g2]? = some (.cells #[.int .u16 s] 56 (0, 0))
  ge2 : w0.heap.size ≤ g2
  below : Below w0.heap.size w0 w
theorem FifAt.step {w0 w : World} {g2 : Nat} {s : Int} (h : FifAt w0 w g2 s) (x : Int) : FifAt w0 (w.setCell ⟨g2, 0, none⟩ (.int .u16 (fifStep s x))) g2 (fifStep s x) :=
  ⟨by simpa using blk_set h.a 0 (.int .u16 (fifStep s x)), h.ge2, h.below.setCell h.ge2 _⟩
set_option maxHeartbeats 1000000 in
set_option maxRecDepth 100000 in
theorem each_fif (A : Option Addr) (c : Nat) (l : List Int) (g2 : Nat) (s : Int) (w0 w : World) (hC : Kd.C (Kd.int .u8) w0 A l.length l) (hF : FifAt w0 w g2 s) :
    Calls Try.prog 27 #[.slice A l.length c, .func (.func 28) #[] #[.pointer (some ⟨g2, 0, none⟩)]] w fun e w' => e = .returned (.tuple #[]) ∧ FifAt w0 w' g2 (l.foldl fifStep s) := by
  have hlen : l.length ≤ 9223372036854775807 := hC.2.1
  have HC := Aside0.mk hC
  have HF := Aside0.mk hF
  clear hC hF
  go_enter Try.func27, Try.ntmps27
  go_wp2_with fail
  go_loopw [8] (fun v8 wr => ∃ i : Nat, i ≤ l.length ∧ v8 = .int .i64 i ∧ Aside0 (FifAt w0 wr g2 ((l.take i).foldl fifStep s))) (fun v8 _ => l.length - (intOf v8).toNat)
  case atStart => exact ⟨0, Nat.zero_le _, rfl, ⟨by simpa using HF.out⟩⟩
  case round =>
    obtain ⟨i, hi, rfl, HA⟩ := hrel
    clear HF
    by_cases hlt : i < l.length
    · obtain ⟨ad, e, hx⟩ := Kd.at_int HC.out (i : Int) (by omega) (by omega)
      cases e
      replace hx := (HA.out.below.cell (World.block_lt_of_cell? w0 _ hx)).trans hx
      simp only [Int.toNat_natCast] at hx
      have hst := HA.out.step (rd l (i : Int))
      have HS := Aside0.mk (show FifAt w0 _ g2 ((l.take (i + 1)).foldl fifStep s) by
        have e1 : l.take (i + 1) = l.take i ++ [rd l (i : Int)] := by
          rw [List.take_succ_eq_append_getElem hlt]
          simp [rd, List.getD_eq_getElem?_getD, hlt]
        rw [e1, List.foldl_append]
        exact hst)
      clear hst
      go_wp2_with (go_at_call 28; refine (clos28 _ ((l.take i).foldl fifStep s) g2 _ HA.out.a).mono ?_; rintro e w' ⟨rfl, rfl⟩)
      go_roundw
      case rel => exact ⟨i + 1, by omega, by go_num, HS⟩
      case measure => simp [intOf]; omega
    · obtain rfl : i = l.length := by omega
      go_wp2
      go_end0
      exact ⟨rfl, by have := HA.out; rwa [List.take_length] at this⟩
def sums_Fifteen.f (l : List Int) : Option Int := some (fifSum l)
set_option maxHeartbeats 1000000 in
set_option maxRecDepth 100000 in
theorem sums_Fifteen.calls (A0 : Option Addr) (c0 : Nat) (l0 : List Int) (r : Int) (w : World) (hr0 : Kd.C (Kd.int .u8) w A0 l0.length l0) (_hc0 : l0.length ≤ c0) (h : sums_Fifteen.f l0 = some r) :
    Calls Try.prog 22 #[.slice A0 l0.length c0] w fun e w' => e = .returned (.int .u16 r) ∧ Below w.heap.size w w' := by
  have hs : fifSum l0 = r := by simpa [sums_Fifteen.f] using h
  have HS := Aside0.mk hs
  have HR := Aside0.mk hr0
  clear h hs hr0
  have hF : FifAt w (w.alloc (.cells #[.int .u16 0] 56)) w.heap.size 0 :=
    ⟨blk_new w _, Nat.le_refl _, below_alloc (Below.refl _ _) _⟩
  have HF := Aside0.mk hF
  clear hF
  go_enter Try.func22, Try.ntmps22
  go_wp2_with (go_at_call 27; refine (each_fif A0 c0 l0 _ 0 w _ HR.out HF.out).mono ?_; rintro e w' ⟨rfl, hF⟩; have HG := Aside0.mk hF; clear hF; have hG := HG.out; rw [show l0.foldl fifStep 0 = r from HS.out] at hG; have c2 : w'.cell? ⟨w.heap.size, 0, none⟩ = some (.int .u16 r) := (blk_cell hG.a 0).trans rfl; have f2 := blk_frozen hG.a 0; have HG' := Aside0.mk hG; clear hG HG)
  refine bodyPost_ret (v := .int .u16 r) (by simp [results, Try.results22, go_sem, c2]) rfl ⟨rfl, ?_⟩
  exact HG'.out.below.setCell HG'.out.ge2 _
end Go.Proofs.Ytoeompemgpaccaa.QSirf
