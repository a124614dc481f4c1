/- What ubx.layouts makes, operation by operation, and the call's contract. -/
import Derived.Test.YtoeompemgpaccaaGivenA
namespace Go.Proofs.Ytoeompemgpaccaa.QSirf
open Go.RowKit Go.Proofs.YtoeompemgpaccaaW.PrintWords Go.Proofs.YtoeompemgpaccaaW.PrintLast Go.Proofs.YtoeompemgpaccaaW.PrintMore
open Go.MineInv Go.Maps
set_option maxHeartbeats 1000000 in
theorem of_calls (n : Int) (A : Option Addr) (l c : Nat) (w : World) : Calls Try.prog 24 #[.int .i64 n, .slice A l c] w fun e w' => e = .returned (.agg #[.int .i64 n, .slice A l c]) ∧ Below w.heap.size w w' := by
  have hu := Try.underlying42
  go_enter Try.func24, Try.ntmps24
  go_wp2
  refine bodyPost_ret (v := .agg #[.int .i64 n, .slice A l c]) (by simp [results, Try.results24, go_sem]) rfl ⟨rfl, ?_⟩
  repeat (first | exact Below.refl _ _ | refine Below.setCell ?_ (by simp) _ | refine Below.alloc ?_ (by simp) _)
variable {w0 : World} {listed : Array Bool} {a : Act} {W : World} {o : Oper} {Q : Exit → Act → World → Prop}

theorem run0 (a : Act) (W : World) : (execOp a.eval (OP 0)).run Try.prog W = .ok (.value (.map (some W.heap.size))) (W.alloc (.map #[] 0)) := by kernel_rfl
theorem st0 (hn : listed.getD 0 true = false) (ho : RG[0]? = some o) (hI : Inv w0 listed a W) : wpOp Try.prog RG Q 0 (Inv w0 (listed.setIfInBounds 0 true)) a W := by
  obtain rfl := op_eq ho
  exact step_make hn ho (run0 a W) hI
theorem run1 (a : Act) (W : World) : (execOp a.eval (OP 1)).run Try.prog W = .ok (.value (lit (1, [1, (-4)]))) W := by kernel_rfl
theorem st1 (hn : listed.getD 1 true = false) (ho : RG[1]? = some o) (hl : ∀ e ∈ o.after, Region.binds .any e = true → listed.getD e.on false = true) (hI : Inv w0 listed a W) : wpOp Try.prog RG Q 1 (Inv w0 (listed.setIfInBounds 1 true)) a W := by
  obtain rfl := op_eq ho
  exact step_val (by decide) hn ho (s := (1, [1, (-4)])) rfl (run1 a W) (Below.refl _ _) (av_lit (by decide)) hI
theorem run2 (a : Act) (W : World) : (execOp a.eval (OP 2)).run Try.prog W = .ok (.value (lit (1, [5, (-4)]))) W := by kernel_rfl
theorem st2 (hn : listed.getD 2 true = false) (ho : RG[2]? = some o) (hl : ∀ e ∈ o.after, Region.binds .any e = true → listed.getD e.on false = true) (hI : Inv w0 listed a W) : wpOp Try.prog RG Q 2 (Inv w0 (listed.setIfInBounds 2 true)) a W := by
  obtain rfl := op_eq ho
  exact step_val (by decide) hn ho (s := (1, [5, (-4)])) rfl (run2 a W) (Below.refl _ _) (av_lit (by decide)) hI
theorem run3 (a : Act) (W : World) : (execOp a.eval (OP 3)).run Try.prog W = .ok (.value (lit (1, [9, (-4)]))) W := by kernel_rfl
theorem st3 (hn : listed.getD 3 true = false) (ho : RG[3]? = some o) (hl : ∀ e ∈ o.after, Region.binds .any e = true → listed.getD e.on false = true) (hI : Inv w0 listed a W) : wpOp Try.prog RG Q 3 (Inv w0 (listed.setIfInBounds 3 true)) a W := by
  obtain rfl := op_eq ho
  exact step_val (by decide) hn ho (s := (1, [9, (-4)])) rfl (run3 a W) (Below.refl _ _) (av_lit (by decide)) hI
theorem run4 (a : Act) (W : World) : (execOp a.eval (OP 4)).run Try.prog W = .ok (.value (lit (1, [13, (-2)]))) W := by kernel_rfl
theorem st4 (hn : listed.getD 4 true = false) (ho : RG[4]? = some o) (hl : ∀ e ∈ o.after, Region.binds .any e = true → listed.getD e.on false = true) (hI : Inv w0 listed a W) : wpOp Try.prog RG Q 4 (Inv w0 (listed.setIfInBounds 4 true)) a W := by
  obtain rfl := op_eq ho
  exact step_val (by decide) hn ho (s := (1, [13, (-2)])) rfl (run4 a W) (Below.refl _ _) (av_lit (by decide)) hI
theorem run5 (a : Act) (W : World) : (execOp a.eval (OP 5)).run Try.prog W = .ok (.value (lit (1, [15, (-2)]))) W := by kernel_rfl
theorem st5 (hn : listed.getD 5 true = false) (ho : RG[5]? = some o) (hl : ∀ e ∈ o.after, Region.binds .any e = true → listed.getD e.on false = true) (hI : Inv w0 listed a W) : wpOp Try.prog RG Q 5 (Inv w0 (listed.setIfInBounds 5 true)) a W := by
  obtain rfl := op_eq ho
  exact step_val (by decide) hn ho (s := (1, [15, (-2)])) rfl (run5 a W) (Below.refl _ _) (av_lit (by decide)) hI
theorem run6 (a : Act) (W : World) : (execOp a.eval (OP 6)).run Try.prog W = .ok (.value (lit (1, [17, (-2)]))) W := by kernel_rfl
theorem st6 (hn : listed.getD 6 true = false) (ho : RG[6]? = some o) (hl : ∀ e ∈ o.after, Region.binds .any e = true → listed.getD e.on false = true) (hI : Inv w0 listed a W) : wpOp Try.prog RG Q 6 (Inv w0 (listed.setIfInBounds 6 true)) a W := by
  obtain rfl := op_eq ho
  exact step_val (by decide) hn ho (s := (1, [17, (-2)])) rfl (run6 a W) (Below.refl _ _) (av_lit (by decide)) hI
theorem run7 (a : Act) (W : World) : (execOp a.eval (OP 7)).run Try.prog W = .ok (.value (lit (1, [19, 1]))) W := by kernel_rfl
theorem st7 (hn : listed.getD 7 true = false) (ho : RG[7]? = some o) (hl : ∀ e ∈ o.after, Region.binds .any e = true → listed.getD e.on false = true) (hI : Inv w0 listed a W) : wpOp Try.prog RG Q 7 (Inv w0 (listed.setIfInBounds 7 true)) a W := by
  obtain rfl := op_eq ho
  exact step_val (by decide) hn ho (s := (1, [19, 1])) rfl (run7 a W) (Below.refl _ _) (av_lit (by decide)) hI
theorem run8 (a : Act) (W : World) : (execOp a.eval (OP 8)).run Try.prog W = .ok (.value (lit (1, [20, 1]))) W := by kernel_rfl
theorem st8 (hn : listed.getD 8 true = false) (ho : RG[8]? = some o) (hl : ∀ e ∈ o.after, Region.binds .any e = true → listed.getD e.on false = true) (hI : Inv w0 listed a W) : wpOp Try.prog RG Q 8 (Inv w0 (listed.setIfInBounds 8 true)) a W := by
  obtain rfl := op_eq ho
  exact step_val (by decide) hn ho (s := (1, [20, 1])) rfl (run8 a W) (Below.refl _ _) (av_lit (by decide)) hI
theorem run9 (a : Act) (W : World) : (execOp a.eval (OP 9)).run Try.prog W = .ok (.value (lit (1, [21, 1]))) W := by kernel_rfl
theorem st9 (hn : listed.getD 9 true = false) (ho : RG[9]? = some o) (hl : ∀ e ∈ o.after, Region.binds .any e = true → listed.getD e.on false = true) (hI : Inv w0 listed a W) : wpOp Try.prog RG Q 9 (Inv w0 (listed.setIfInBounds 9 true)) a W := by
  obtain rfl := op_eq ho
  exact step_val (by decide) hn ho (s := (1, [21, 1])) rfl (run9 a W) (Below.refl _ _) (av_lit (by decide)) hI
theorem run10 (a : Act) (W : World) : (execOp a.eval (OP 10)).run Try.prog W = .ok (.value (lit (1, [22, 2]))) W := by kernel_rfl
theorem st10 (hn : listed.getD 10 true = false) (ho : RG[10]? = some o) (hl : ∀ e ∈ o.after, Region.binds .any e = true → listed.getD e.on false = true) (hI : Inv w0 listed a W) : wpOp Try.prog RG Q 10 (Inv w0 (listed.setIfInBounds 10 true)) a W := by
  obtain rfl := op_eq ho
  exact step_val (by decide) hn ho (s := (1, [22, 2])) rfl (run10 a W) (Below.refl _ _) (av_lit (by decide)) hI
theorem run11 (a : Act) (W : World) : (execOp a.eval (OP 11)).run Try.prog W = .ok (.value (lit (1, [24, 4]))) W := by kernel_rfl
theorem st11 (hn : listed.getD 11 true = false) (ho : RG[11]? = some o) (hl : ∀ e ∈ o.after, Region.binds .any e = true → listed.getD e.on false = true) (hI : Inv w0 listed a W) : wpOp Try.prog RG Q 11 (Inv w0 (listed.setIfInBounds 11 true)) a W := by
  obtain rfl := op_eq ho
  exact step_val (by decide) hn ho (s := (1, [24, 4])) rfl (run11 a W) (Below.refl _ _) (av_lit (by decide)) hI
theorem run12 (a : Act) (W : World) : (execOp a.eval (OP 12)).run Try.prog W = .ok (.value (lit (1, [28, 1]))) W := by kernel_rfl
theorem st12 (hn : listed.getD 12 true = false) (ho : RG[12]? = some o) (hl : ∀ e ∈ o.after, Region.binds .any e = true → listed.getD e.on false = true) (hI : Inv w0 listed a W) : wpOp Try.prog RG Q 12 (Inv w0 (listed.setIfInBounds 12 true)) a W := by
  obtain rfl := op_eq ho
  exact step_val (by decide) hn ho (s := (1, [28, 1])) rfl (run12 a W) (Below.refl _ _) (av_lit (by decide)) hI
theorem rd13 : rowReady (OP 13) = true := by kernel_rfl
theorem run13 (W : World) : (execOp rhoL (OP 13)).run Try.prog W = .ok (.value (.slice (some ⟨W.heap.size, 0, none⟩) 12 12)) (W.alloc (.cells #[.int .i64 1, .int .i64 (-4), .int .i64 5, .int .i64 (-4), .int .i64 9, .int .i64 (-4), .int .i64 13, .int .i64 (-2), .int .i64 15, .int .i64 (-2), .int .i64 17, .int .i64 (-2), .int .i64 19, .int .i64 1, .int .i64 20, .int .i64 1, .int .i64 21, .int .i64 1, .int .i64 22, .int .i64 2, .int .i64 24, .int .i64 4, .int .i64 28, .int .i64 1] 47)) := by kernel_rfl
theorem ns13 : ∀ cs b, (OP 13).op ≠ .select cs b := by
  intro cs b h
  have e : (match (OP 13).op with | .select _ _ => false | _ => true) = true := by kernel_rfl
  rw [h] at e
  simp at e
theorem st13 (hn : listed.getD 13 true = false) (ho : RG[13]? = some o) (hl : ∀ e ∈ o.after, Region.binds .any e = true → listed.getD e.on false = true) (hI : Inv w0 listed a W) : wpOp Try.prog RG Q 13 (Inv w0 (listed.setIfInBounds 13 true)) a W := by
  obtain rfl := op_eq ho
  have hrun := run13 W
  rw [← execOp_congr (OP 13) ns13 (row_eval rd13 hl hI)] at hrun
  exact step_val (by decide) hn ho (s := (2, [1, (-4), 5, (-4), 9, (-4), 13, (-2), 15, (-2), 17, (-2), 19, 1, 20, 1, 21, 1, 22, 2, 24, 4, 28, 1])) rfl hrun (below_alloc (Below.refl _ _) _) (av_row hI.below.size rfl rfl rfl (by unfold maxLen; decide)) hI
theorem ops14 : (OP 14).op = .call { callee := .value (.func 24), args := #[.const (.int .i64 41), .tmp 14], argTypes := #[3, 40] } := by kernel_rfl
theorem af14 : (OP 14).after.toList.any (fun e => e.on == 13 && Region.binds .any e) = true := by kernel_rfl
theorem st14 (_hn : listed.getD 14 true = false) (ho : RG[14]? = some o) (hl : ∀ e ∈ o.after, Region.binds .any e = true → listed.getD e.on false = true) (hI : Inv w0 listed a W) : wpOp Try.prog RG Q 14 (Inv w0 (listed.setIfInBounds 14 true)) a W := by
  obtain rfl := op_eq ho
  have hd := dep af14 hl
  obtain ⟨m, hm, _⟩ := hI.rest
  obtain ⟨v, hv, hok⟩ := hm 13 14 (2, [1, (-4), 5, (-4), 9, (-4), 13, (-2), 15, (-2), 17, (-2), 19, 1, 20, 1, 21, 1, 22, 2, 24, 4, 28, 1]) rfl hd
  have hR : Kd.R k47 47 W w0.heap.size (fun _ => True) v (flds [1, (-4), 5, (-4), 9, (-4), 13, (-2), 15, (-2), 17, (-2), 19, 1, 20, 1, 21, 1, 22, 2, 24, 4, 28, 1]) := by
    unfold AVok at hok
    rwa [if_neg (show ¬ (2 : Nat) ≤ 1 by decide), if_pos rfl] at hok
  obtain ⟨A, c, rfl⟩ := Kd.R_slice hR
  exact step_call (by decide) ho (s := (3, [41, 1, (-4), 5, (-4), 9, (-4), 13, (-2), 15, (-2), 17, (-2), 19, 1, 20, 1, 21, 1, 22, 2, 24, 4, 28, 1])) rfl Try.func24 (by kernel_rfl) rfl ops14 (args := #[.int .i64 41, .slice A (flds [1, (-4), 5, (-4), 9, (-4), 13, (-2), 15, (-2), 17, (-2), 19, 1, 20, 1, 21, 1, 22, 2, 24, 4, 28, 1]).length c]) (by simp [Act.eval, Array.getD_eq_getD_getElem?, hv])
    (of_calls _ A _ c W) (fun w' hb => by unfold AVok; rw [if_neg (show ¬ (3 : Nat) ≤ 1 by decide), if_neg (show ¬ (3 : Nat) = 2 by decide), if_pos rfl]; exact ⟨_, rfl, Kd.R_below hR hb⟩) hI
theorem ops15 : (OP 15).op = .insert 44 (.tmp 1) (.const (.int .u8 2)) (.tmp 15) := by kernel_rfl
theorem dst15 : (OP 15).dst = none := by kernel_rfl
theorem af15_0 : (OP 15).after.toList.any (fun e => e.on == 0 && Region.binds .any e) = true := by kernel_rfl
theorem af15_14 : (OP 15).after.toList.any (fun e => e.on == 14 && Region.binds .any e) = true := by kernel_rfl
theorem st15 (hn : listed.getD 15 true = false) (ho : RG[15]? = some o) (hl : ∀ e ∈ o.after, Region.binds .any e = true → listed.getD e.on false = true) (hI : Inv w0 listed a W) : wpOp Try.prog RG Q 15 (Inv w0 (listed.setIfInBounds 15 true)) a W := by
  obtain rfl := op_eq ho
  exact step_ins (r := ([2], [41, 1, (-4), 5, (-4), 9, (-4), 13, (-2), 15, (-2), 17, (-2), 19, 1, 20, 1, 21, 1, 22, 2, 24, 4, 28, 1])) (j2 := 14) rfl rfl hn ho dst15 ops15 rfl (dep af15_0 hl) rfl (dep af15_14 hl) hI
theorem run16 (a : Act) (W : World) : (execOp a.eval (OP 16)).run Try.prog W = .ok (.value (lit (1, [1, (-2)]))) W := by kernel_rfl
theorem st16 (hn : listed.getD 16 true = false) (ho : RG[16]? = some o) (hl : ∀ e ∈ o.after, Region.binds .any e = true → listed.getD e.on false = true) (hI : Inv w0 listed a W) : wpOp Try.prog RG Q 16 (Inv w0 (listed.setIfInBounds 16 true)) a W := by
  obtain rfl := op_eq ho
  exact step_val (by decide) hn ho (s := (1, [1, (-2)])) rfl (run16 a W) (Below.refl _ _) (av_lit (by decide)) hI
theorem run17 (a : Act) (W : World) : (execOp a.eval (OP 17)).run Try.prog W = .ok (.value (lit (1, [3, 4]))) W := by kernel_rfl
theorem st17 (hn : listed.getD 17 true = false) (ho : RG[17]? = some o) (hl : ∀ e ∈ o.after, Region.binds .any e = true → listed.getD e.on false = true) (hI : Inv w0 listed a W) : wpOp Try.prog RG Q 17 (Inv w0 (listed.setIfInBounds 17 true)) a W := by
  obtain rfl := op_eq ho
  exact step_val (by decide) hn ho (s := (1, [3, 4])) rfl (run17 a W) (Below.refl _ _) (av_lit (by decide)) hI
theorem run18 (a : Act) (W : World) : (execOp a.eval (OP 18)).run Try.prog W = .ok (.value (lit (1, [7, 1]))) W := by kernel_rfl
theorem st18 (hn : listed.getD 18 true = false) (ho : RG[18]? = some o) (hl : ∀ e ∈ o.after, Region.binds .any e = true → listed.getD e.on false = true) (hI : Inv w0 listed a W) : wpOp Try.prog RG Q 18 (Inv w0 (listed.setIfInBounds 18 true)) a W := by
  obtain rfl := op_eq ho
  exact step_val (by decide) hn ho (s := (1, [7, 1])) rfl (run18 a W) (Below.refl _ _) (av_lit (by decide)) hI
theorem rd19 : rowReady (OP 19) = true := by kernel_rfl
theorem run19 (W : World) : (execOp rhoL (OP 19)).run Try.prog W = .ok (.value (.slice (some ⟨W.heap.size, 0, none⟩) 3 3)) (W.alloc (.cells #[.int .i64 1, .int .i64 (-2), .int .i64 3, .int .i64 4, .int .i64 7, .int .i64 1] 47)) := by kernel_rfl
theorem ns19 : ∀ cs b, (OP 19).op ≠ .select cs b := by
  intro cs b h
  have e : (match (OP 19).op with | .select _ _ => false | _ => true) = true := by kernel_rfl
  rw [h] at e
  simp at e
theorem st19 (hn : listed.getD 19 true = false) (ho : RG[19]? = some o) (hl : ∀ e ∈ o.after, Region.binds .any e = true → listed.getD e.on false = true) (hI : Inv w0 listed a W) : wpOp Try.prog RG Q 19 (Inv w0 (listed.setIfInBounds 19 true)) a W := by
  obtain rfl := op_eq ho
  have hrun := run19 W
  rw [← execOp_congr (OP 19) ns19 (row_eval rd19 hl hI)] at hrun
  exact step_val (by decide) hn ho (s := (2, [1, (-2), 3, 4, 7, 1])) rfl hrun (below_alloc (Below.refl _ _) _) (av_row hI.below.size rfl rfl rfl (by unfold maxLen; decide)) hI
theorem ops20 : (OP 20).op = .call { callee := .value (.func 24), args := #[.const (.int .i64 188), .tmp 19], argTypes := #[3, 40] } := by kernel_rfl
theorem af20 : (OP 20).after.toList.any (fun e => e.on == 19 && Region.binds .any e) = true := by kernel_rfl
theorem st20 (_hn : listed.getD 20 true = false) (ho : RG[20]? = some o) (hl : ∀ e ∈ o.after, Region.binds .any e = true → listed.getD e.on false = true) (hI : Inv w0 listed a W) : wpOp Try.prog RG Q 20 (Inv w0 (listed.setIfInBounds 20 true)) a W := by
  obtain rfl := op_eq ho
  have hd := dep af20 hl
  obtain ⟨m, hm, _⟩ := hI.rest
  obtain ⟨v, hv, hok⟩ := hm 19 19 (2, [1, (-2), 3, 4, 7, 1]) rfl hd
  have hR : Kd.R k47 47 W w0.heap.size (fun _ => True) v (flds [1, (-2), 3, 4, 7, 1]) := by
    unfold AVok at hok
    rwa [if_neg (show ¬ (2 : Nat) ≤ 1 by decide), if_pos rfl] at hok
  obtain ⟨A, c, rfl⟩ := Kd.R_slice hR
  exact step_call (by decide) ho (s := (3, [188, 1, (-2), 3, 4, 7, 1])) rfl Try.func24 (by kernel_rfl) rfl ops20 (args := #[.int .i64 188, .slice A (flds [1, (-2), 3, 4, 7, 1]).length c]) (by simp [Act.eval, Array.getD_eq_getD_getElem?, hv])
    (of_calls _ A _ c W) (fun w' hb => by unfold AVok; rw [if_neg (show ¬ (3 : Nat) ≤ 1 by decide), if_neg (show ¬ (3 : Nat) = 2 by decide), if_pos rfl]; exact ⟨_, rfl, Kd.R_below hR hb⟩) hI
theorem ops21 : (OP 21).op = .insert 44 (.tmp 1) (.const (.int .u8 4)) (.tmp 20) := by kernel_rfl
theorem dst21 : (OP 21).dst = none := by kernel_rfl
theorem af21_0 : (OP 21).after.toList.any (fun e => e.on == 0 && Region.binds .any e) = true := by kernel_rfl
theorem af21_20 : (OP 21).after.toList.any (fun e => e.on == 20 && Region.binds .any e) = true := by kernel_rfl
theorem st21 (hn : listed.getD 21 true = false) (ho : RG[21]? = some o) (hl : ∀ e ∈ o.after, Region.binds .any e = true → listed.getD e.on false = true) (hI : Inv w0 listed a W) : wpOp Try.prog RG Q 21 (Inv w0 (listed.setIfInBounds 21 true)) a W := by
  obtain rfl := op_eq ho
  exact step_ins (r := ([4], [188, 1, (-2), 3, 4, 7, 1])) (j2 := 20) rfl rfl hn ho dst21 ops21 rfl (dep af21_0 hl) rfl (dep af21_20 hl) hI
theorem run22 (a : Act) (W : World) : (execOp a.eval (OP 22)).run Try.prog W = .ok (.value (lit (1, [1, 2]))) W := by kernel_rfl
theorem st22 (hn : listed.getD 22 true = false) (ho : RG[22]? = some o) (hl : ∀ e ∈ o.after, Region.binds .any e = true → listed.getD e.on false = true) (hI : Inv w0 listed a W) : wpOp Try.prog RG Q 22 (Inv w0 (listed.setIfInBounds 22 true)) a W := by
  obtain rfl := op_eq ho
  exact step_val (by decide) hn ho (s := (1, [1, 2])) rfl (run22 a W) (Below.refl _ _) (av_lit (by decide)) hI
theorem run23 (a : Act) (W : World) : (execOp a.eval (OP 23)).run Try.prog W = .ok (.value (lit (1, [3, 4]))) W := by kernel_rfl
theorem st23 (hn : listed.getD 23 true = false) (ho : RG[23]? = some o) (hl : ∀ e ∈ o.after, Region.binds .any e = true → listed.getD e.on false = true) (hI : Inv w0 listed a W) : wpOp Try.prog RG Q 23 (Inv w0 (listed.setIfInBounds 23 true)) a W := by
  obtain rfl := op_eq ho
  exact step_val (by decide) hn ho (s := (1, [3, 4])) rfl (run23 a W) (Below.refl _ _) (av_lit (by decide)) hI
theorem run24 (a : Act) (W : World) : (execOp a.eval (OP 24)).run Try.prog W = .ok (.value (lit (1, [7, 1]))) W := by kernel_rfl
theorem st24 (hn : listed.getD 24 true = false) (ho : RG[24]? = some o) (hl : ∀ e ∈ o.after, Region.binds .any e = true → listed.getD e.on false = true) (hI : Inv w0 listed a W) : wpOp Try.prog RG Q 24 (Inv w0 (listed.setIfInBounds 24 true)) a W := by
  obtain rfl := op_eq ho
  exact step_val (by decide) hn ho (s := (1, [7, 1])) rfl (run24 a W) (Below.refl _ _) (av_lit (by decide)) hI
theorem run25 (a : Act) (W : World) : (execOp a.eval (OP 25)).run Try.prog W = .ok (.value (lit (1, [8, 4]))) W := by kernel_rfl
theorem st25 (hn : listed.getD 25 true = false) (ho : RG[25]? = some o) (hl : ∀ e ∈ o.after, Region.binds .any e = true → listed.getD e.on false = true) (hI : Inv w0 listed a W) : wpOp Try.prog RG Q 25 (Inv w0 (listed.setIfInBounds 25 true)) a W := by
  obtain rfl := op_eq ho
  exact step_val (by decide) hn ho (s := (1, [8, 4])) rfl (run25 a W) (Below.refl _ _) (av_lit (by decide)) hI
theorem run26 (a : Act) (W : World) : (execOp a.eval (OP 26)).run Try.prog W = .ok (.value (lit (1, [12, 4]))) W := by kernel_rfl
theorem st26 (hn : listed.getD 26 true = false) (ho : RG[26]? = some o) (hl : ∀ e ∈ o.after, Region.binds .any e = true → listed.getD e.on false = true) (hI : Inv w0 listed a W) : wpOp Try.prog RG Q 26 (Inv w0 (listed.setIfInBounds 26 true)) a W := by
  obtain rfl := op_eq ho
  exact step_val (by decide) hn ho (s := (1, [12, 4])) rfl (run26 a W) (Below.refl _ _) (av_lit (by decide)) hI
theorem run27 (a : Act) (W : World) : (execOp a.eval (OP 27)).run Try.prog W = .ok (.value (lit (1, [16, 4]))) W := by kernel_rfl
theorem st27 (hn : listed.getD 27 true = false) (ho : RG[27]? = some o) (hl : ∀ e ∈ o.after, Region.binds .any e = true → listed.getD e.on false = true) (hI : Inv w0 listed a W) : wpOp Try.prog RG Q 27 (Inv w0 (listed.setIfInBounds 27 true)) a W := by
  obtain rfl := op_eq ho
  exact step_val (by decide) hn ho (s := (1, [16, 4])) rfl (run27 a W) (Below.refl _ _) (av_lit (by decide)) hI
theorem rd28 : rowReady (OP 28) = true := by kernel_rfl
theorem run28 (W : World) : (execOp rhoL (OP 28)).run Try.prog W = .ok (.value (.slice (some ⟨W.heap.size, 0, none⟩) 6 6)) (W.alloc (.cells #[.int .i64 1, .int .i64 2, .int .i64 3, .int .i64 4, .int .i64 7, .int .i64 1, .int .i64 8, .int .i64 4, .int .i64 12, .int .i64 4, .int .i64 16, .int .i64 4] 47)) := by kernel_rfl
theorem ns28 : ∀ cs b, (OP 28).op ≠ .select cs b := by
  intro cs b h
  have e : (match (OP 28).op with | .select _ _ => false | _ => true) = true := by kernel_rfl
  rw [h] at e
  simp at e
theorem st28 (hn : listed.getD 28 true = false) (ho : RG[28]? = some o) (hl : ∀ e ∈ o.after, Region.binds .any e = true → listed.getD e.on false = true) (hI : Inv w0 listed a W) : wpOp Try.prog RG Q 28 (Inv w0 (listed.setIfInBounds 28 true)) a W := by
  obtain rfl := op_eq ho
  have hrun := run28 W
  rw [← execOp_congr (OP 28) ns28 (row_eval rd28 hl hI)] at hrun
  exact step_val (by decide) hn ho (s := (2, [1, 2, 3, 4, 7, 1, 8, 4, 12, 4, 16, 4])) rfl hrun (below_alloc (Below.refl _ _) _) (av_row hI.below.size rfl rfl rfl (by unfold maxLen; decide)) hI
theorem ops29 : (OP 29).op = .call { callee := .value (.func 24), args := #[.const (.int .i64 20), .tmp 27], argTypes := #[3, 40] } := by kernel_rfl
theorem af29 : (OP 29).after.toList.any (fun e => e.on == 28 && Region.binds .any e) = true := by kernel_rfl
theorem st29 (_hn : listed.getD 29 true = false) (ho : RG[29]? = some o) (hl : ∀ e ∈ o.after, Region.binds .any e = true → listed.getD e.on false = true) (hI : Inv w0 listed a W) : wpOp Try.prog RG Q 29 (Inv w0 (listed.setIfInBounds 29 true)) a W := by
  obtain rfl := op_eq ho
  have hd := dep af29 hl
  obtain ⟨m, hm, _⟩ := hI.rest
  obtain ⟨v, hv, hok⟩ := hm 28 27 (2, [1, 2, 3, 4, 7, 1, 8, 4, 12, 4, 16, 4]) rfl hd
  have hR : Kd.R k47 47 W w0.heap.size (fun _ => True) v (flds [1, 2, 3, 4, 7, 1, 8, 4, 12, 4, 16, 4]) := by
    unfold AVok at hok
    rwa [if_neg (show ¬ (2 : Nat) ≤ 1 by decide), if_pos rfl] at hok
  obtain ⟨A, c, rfl⟩ := Kd.R_slice hR
  exact step_call (by decide) ho (s := (3, [20, 1, 2, 3, 4, 7, 1, 8, 4, 12, 4, 16, 4])) rfl Try.func24 (by kernel_rfl) rfl ops29 (args := #[.int .i64 20, .slice A (flds [1, 2, 3, 4, 7, 1, 8, 4, 12, 4, 16, 4]).length c]) (by simp [Act.eval, Array.getD_eq_getD_getElem?, hv])
    (of_calls _ A _ c W) (fun w' hb => by unfold AVok; rw [if_neg (show ¬ (3 : Nat) ≤ 1 by decide), if_neg (show ¬ (3 : Nat) = 2 by decide), if_pos rfl]; exact ⟨_, rfl, Kd.R_below hR hb⟩) hI
theorem ops30 : (OP 30).op = .insert 44 (.tmp 1) (.const (.int .u8 7)) (.tmp 28) := by kernel_rfl
theorem dst30 : (OP 30).dst = none := by kernel_rfl
theorem af30_0 : (OP 30).after.toList.any (fun e => e.on == 0 && Region.binds .any e) = true := by kernel_rfl
theorem af30_29 : (OP 30).after.toList.any (fun e => e.on == 29 && Region.binds .any e) = true := by kernel_rfl
theorem st30 (hn : listed.getD 30 true = false) (ho : RG[30]? = some o) (hl : ∀ e ∈ o.after, Region.binds .any e = true → listed.getD e.on false = true) (hI : Inv w0 listed a W) : wpOp Try.prog RG Q 30 (Inv w0 (listed.setIfInBounds 30 true)) a W := by
  obtain rfl := op_eq ho
  exact step_ins (r := ([7], [20, 1, 2, 3, 4, 7, 1, 8, 4, 12, 4, 16, 4])) (j2 := 29) rfl rfl hn ho dst30 ops30 rfl (dep af30_0 hl) rfl (dep af30_29 hl) hI
theorem run31 (a : Act) (W : World) : (execOp a.eval (OP 31)).run Try.prog W = .ok (.value (lit (1, [1, 2]))) W := by kernel_rfl
theorem st31 (hn : listed.getD 31 true = false) (ho : RG[31]? = some o) (hl : ∀ e ∈ o.after, Region.binds .any e = true → listed.getD e.on false = true) (hI : Inv w0 listed a W) : wpOp Try.prog RG Q 31 (Inv w0 (listed.setIfInBounds 31 true)) a W := by
  obtain rfl := op_eq ho
  exact step_val (by decide) hn ho (s := (1, [1, 2])) rfl (run31 a W) (Below.refl _ _) (av_lit (by decide)) hI
theorem run32 (a : Act) (W : World) : (execOp a.eval (OP 32)).run Try.prog W = .ok (.value (lit (1, [3, 2]))) W := by kernel_rfl
theorem st32 (hn : listed.getD 32 true = false) (ho : RG[32]? = some o) (hl : ∀ e ∈ o.after, Region.binds .any e = true → listed.getD e.on false = true) (hI : Inv w0 listed a W) : wpOp Try.prog RG Q 32 (Inv w0 (listed.setIfInBounds 32 true)) a W := by
  obtain rfl := op_eq ho
  exact step_val (by decide) hn ho (s := (1, [3, 2])) rfl (run32 a W) (Below.refl _ _) (av_lit (by decide)) hI
theorem run33 (a : Act) (W : World) : (execOp a.eval (OP 33)).run Try.prog W = .ok (.value (lit (1, [5, 2]))) W := by kernel_rfl
theorem st33 (hn : listed.getD 33 true = false) (ho : RG[33]? = some o) (hl : ∀ e ∈ o.after, Region.binds .any e = true → listed.getD e.on false = true) (hI : Inv w0 listed a W) : wpOp Try.prog RG Q 33 (Inv w0 (listed.setIfInBounds 33 true)) a W := by
  obtain rfl := op_eq ho
  exact step_val (by decide) hn ho (s := (1, [5, 2])) rfl (run33 a W) (Below.refl _ _) (av_lit (by decide)) hI
theorem run34 (a : Act) (W : World) : (execOp a.eval (OP 34)).run Try.prog W = .ok (.value (lit (1, [7, 4]))) W := by kernel_rfl
theorem st34 (hn : listed.getD 34 true = false) (ho : RG[34]? = some o) (hl : ∀ e ∈ o.after, Region.binds .any e = true → listed.getD e.on false = true) (hI : Inv w0 listed a W) : wpOp Try.prog RG Q 34 (Inv w0 (listed.setIfInBounds 34 true)) a W := by
  obtain rfl := op_eq ho
  exact step_val (by decide) hn ho (s := (1, [7, 4])) rfl (run34 a W) (Below.refl _ _) (av_lit (by decide)) hI
theorem run35 (a : Act) (W : World) : (execOp a.eval (OP 35)).run Try.prog W = .ok (.value (lit (1, [11, 2]))) W := by kernel_rfl
theorem st35 (hn : listed.getD 35 true = false) (ho : RG[35]? = some o) (hl : ∀ e ∈ o.after, Region.binds .any e = true → listed.getD e.on false = true) (hI : Inv w0 listed a W) : wpOp Try.prog RG Q 35 (Inv w0 (listed.setIfInBounds 35 true)) a W := by
  obtain rfl := op_eq ho
  exact step_val (by decide) hn ho (s := (1, [11, 2])) rfl (run35 a W) (Below.refl _ _) (av_lit (by decide)) hI
theorem run36 (a : Act) (W : World) : (execOp a.eval (OP 36)).run Try.prog W = .ok (.value (lit (1, [13, 1]))) W := by kernel_rfl
theorem st36 (hn : listed.getD 36 true = false) (ho : RG[36]? = some o) (hl : ∀ e ∈ o.after, Region.binds .any e = true → listed.getD e.on false = true) (hI : Inv w0 listed a W) : wpOp Try.prog RG Q 36 (Inv w0 (listed.setIfInBounds 36 true)) a W := by
  obtain rfl := op_eq ho
  exact step_val (by decide) hn ho (s := (1, [13, 1])) rfl (run36 a W) (Below.refl _ _) (av_lit (by decide)) hI
theorem run37 (a : Act) (W : World) : (execOp a.eval (OP 37)).run Try.prog W = .ok (.value (lit (1, [14, 1]))) W := by kernel_rfl
theorem st37 (hn : listed.getD 37 true = false) (ho : RG[37]? = some o) (hl : ∀ e ∈ o.after, Region.binds .any e = true → listed.getD e.on false = true) (hI : Inv w0 listed a W) : wpOp Try.prog RG Q 37 (Inv w0 (listed.setIfInBounds 37 true)) a W := by
  obtain rfl := op_eq ho
  exact step_val (by decide) hn ho (s := (1, [14, 1])) rfl (run37 a W) (Below.refl _ _) (av_lit (by decide)) hI
theorem run38 (a : Act) (W : World) : (execOp a.eval (OP 38)).run Try.prog W = .ok (.value (lit (1, [15, 1]))) W := by kernel_rfl
theorem st38 (hn : listed.getD 38 true = false) (ho : RG[38]? = some o) (hl : ∀ e ∈ o.after, Region.binds .any e = true → listed.getD e.on false = true) (hI : Inv w0 listed a W) : wpOp Try.prog RG Q 38 (Inv w0 (listed.setIfInBounds 38 true)) a W := by
  obtain rfl := op_eq ho
  exact step_val (by decide) hn ho (s := (1, [15, 1])) rfl (run38 a W) (Below.refl _ _) (av_lit (by decide)) hI
theorem run39 (a : Act) (W : World) : (execOp a.eval (OP 39)).run Try.prog W = .ok (.value (lit (1, [16, 1]))) W := by kernel_rfl
theorem st39 (hn : listed.getD 39 true = false) (ho : RG[39]? = some o) (hl : ∀ e ∈ o.after, Region.binds .any e = true → listed.getD e.on false = true) (hI : Inv w0 listed a W) : wpOp Try.prog RG Q 39 (Inv w0 (listed.setIfInBounds 39 true)) a W := by
  obtain rfl := op_eq ho
  exact step_val (by decide) hn ho (s := (1, [16, 1])) rfl (run39 a W) (Below.refl _ _) (av_lit (by decide)) hI
theorem run40 (a : Act) (W : World) : (execOp a.eval (OP 40)).run Try.prog W = .ok (.value (lit (1, [17, 2]))) W := by kernel_rfl
theorem st40 (hn : listed.getD 40 true = false) (ho : RG[40]? = some o) (hl : ∀ e ∈ o.after, Region.binds .any e = true → listed.getD e.on false = true) (hI : Inv w0 listed a W) : wpOp Try.prog RG Q 40 (Inv w0 (listed.setIfInBounds 40 true)) a W := by
  obtain rfl := op_eq ho
  exact step_val (by decide) hn ho (s := (1, [17, 2])) rfl (run40 a W) (Below.refl _ _) (av_lit (by decide)) hI
theorem rd41 : rowReady (OP 41) = true := by kernel_rfl
theorem run41 (W : World) : (execOp rhoL (OP 41)).run Try.prog W = .ok (.value (.slice (some ⟨W.heap.size, 0, none⟩) 10 10)) (W.alloc (.cells #[.int .i64 1, .int .i64 2, .int .i64 3, .int .i64 2, .int .i64 5, .int .i64 2, .int .i64 7, .int .i64 4, .int .i64 11, .int .i64 2, .int .i64 13, .int .i64 1, .int .i64 14, .int .i64 1, .int .i64 15, .int .i64 1, .int .i64 16, .int .i64 1, .int .i64 17, .int .i64 2] 47)) := by kernel_rfl
theorem ns41 : ∀ cs b, (OP 41).op ≠ .select cs b := by
  intro cs b h
  have e : (match (OP 41).op with | .select _ _ => false | _ => true) = true := by kernel_rfl
  rw [h] at e
  simp at e
theorem st41 (hn : listed.getD 41 true = false) (ho : RG[41]? = some o) (hl : ∀ e ∈ o.after, Region.binds .any e = true → listed.getD e.on false = true) (hI : Inv w0 listed a W) : wpOp Try.prog RG Q 41 (Inv w0 (listed.setIfInBounds 41 true)) a W := by
  obtain rfl := op_eq ho
  have hrun := run41 W
  rw [← execOp_congr (OP 41) ns41 (row_eval rd41 hl hI)] at hrun
  exact step_val (by decide) hn ho (s := (2, [1, 2, 3, 2, 5, 2, 7, 4, 11, 2, 13, 1, 14, 1, 15, 1, 16, 1, 17, 2])) rfl hrun (below_alloc (Below.refl _ _) _) (av_row hI.below.size rfl rfl rfl (by unfold maxLen; decide)) hI
theorem ops42 : (OP 42).op = .call { callee := .value (.func 24), args := #[.const (.int .i64 91), .tmp 39], argTypes := #[3, 40] } := by kernel_rfl
theorem af42 : (OP 42).after.toList.any (fun e => e.on == 41 && Region.binds .any e) = true := by kernel_rfl
theorem st42 (_hn : listed.getD 42 true = false) (ho : RG[42]? = some o) (hl : ∀ e ∈ o.after, Region.binds .any e = true → listed.getD e.on false = true) (hI : Inv w0 listed a W) : wpOp Try.prog RG Q 42 (Inv w0 (listed.setIfInBounds 42 true)) a W := by
  obtain rfl := op_eq ho
  have hd := dep af42 hl
  obtain ⟨m, hm, _⟩ := hI.rest
  obtain ⟨v, hv, hok⟩ := hm 41 39 (2, [1, 2, 3, 2, 5, 2, 7, 4, 11, 2, 13, 1, 14, 1, 15, 1, 16, 1, 17, 2]) rfl hd
  have hR : Kd.R k47 47 W w0.heap.size (fun _ => True) v (flds [1, 2, 3, 2, 5, 2, 7, 4, 11, 2, 13, 1, 14, 1, 15, 1, 16, 1, 17, 2]) := by
    unfold AVok at hok
    rwa [if_neg (show ¬ (2 : Nat) ≤ 1 by decide), if_pos rfl] at hok
  obtain ⟨A, c, rfl⟩ := Kd.R_slice hR
  exact step_call (by decide) ho (s := (3, [91, 1, 2, 3, 2, 5, 2, 7, 4, 11, 2, 13, 1, 14, 1, 15, 1, 16, 1, 17, 2])) rfl Try.func24 (by kernel_rfl) rfl ops42 (args := #[.int .i64 91, .slice A (flds [1, 2, 3, 2, 5, 2, 7, 4, 11, 2, 13, 1, 14, 1, 15, 1, 16, 1, 17, 2]).length c]) (by simp [Act.eval, Array.getD_eq_getD_getElem?, hv])
    (of_calls _ A _ c W) (fun w' hb => by unfold AVok; rw [if_neg (show ¬ (3 : Nat) ≤ 1 by decide), if_neg (show ¬ (3 : Nat) = 2 by decide), if_pos rfl]; exact ⟨_, rfl, Kd.R_below hR hb⟩) hI
theorem ops43 : (OP 43).op = .insert 44 (.tmp 1) (.const (.int .u8 41)) (.tmp 40) := by kernel_rfl
theorem dst43 : (OP 43).dst = none := by kernel_rfl
theorem af43_0 : (OP 43).after.toList.any (fun e => e.on == 0 && Region.binds .any e) = true := by kernel_rfl
theorem af43_42 : (OP 43).after.toList.any (fun e => e.on == 42 && Region.binds .any e) = true := by kernel_rfl
theorem st43 (hn : listed.getD 43 true = false) (ho : RG[43]? = some o) (hl : ∀ e ∈ o.after, Region.binds .any e = true → listed.getD e.on false = true) (hI : Inv w0 listed a W) : wpOp Try.prog RG Q 43 (Inv w0 (listed.setIfInBounds 43 true)) a W := by
  obtain rfl := op_eq ho
  exact step_ins (r := ([41], [91, 1, 2, 3, 2, 5, 2, 7, 4, 11, 2, 13, 1, 14, 1, 15, 1, 16, 1, 17, 2])) (j2 := 42) rfl rfl hn ho dst43 ops43 rfl (dep af43_0 hl) rfl (dep af43_42 hl) hI
theorem run44 (a : Act) (W : World) : (execOp a.eval (OP 44)).run Try.prog W = .ok (.value (lit (1, [1, 1]))) W := by kernel_rfl
theorem st44 (hn : listed.getD 44 true = false) (ho : RG[44]? = some o) (hl : ∀ e ∈ o.after, Region.binds .any e = true → listed.getD e.on false = true) (hI : Inv w0 listed a W) : wpOp Try.prog RG Q 44 (Inv w0 (listed.setIfInBounds 44 true)) a W := by
  obtain rfl := op_eq ho
  exact step_val (by decide) hn ho (s := (1, [1, 1])) rfl (run44 a W) (Below.refl _ _) (av_lit (by decide)) hI
theorem run45 (a : Act) (W : World) : (execOp a.eval (OP 45)).run Try.prog W = .ok (.value (lit (1, [2, 1]))) W := by kernel_rfl
theorem st45 (hn : listed.getD 45 true = false) (ho : RG[45]? = some o) (hl : ∀ e ∈ o.after, Region.binds .any e = true → listed.getD e.on false = true) (hI : Inv w0 listed a W) : wpOp Try.prog RG Q 45 (Inv w0 (listed.setIfInBounds 45 true)) a W := by
  obtain rfl := op_eq ho
  exact step_val (by decide) hn ho (s := (1, [2, 1])) rfl (run45 a W) (Below.refl _ _) (av_lit (by decide)) hI
theorem run46 (a : Act) (W : World) : (execOp a.eval (OP 46)).run Try.prog W = .ok (.value (lit (1, [3, 1]))) W := by kernel_rfl
theorem st46 (hn : listed.getD 46 true = false) (ho : RG[46]? = some o) (hl : ∀ e ∈ o.after, Region.binds .any e = true → listed.getD e.on false = true) (hI : Inv w0 listed a W) : wpOp Try.prog RG Q 46 (Inv w0 (listed.setIfInBounds 46 true)) a W := by
  obtain rfl := op_eq ho
  exact step_val (by decide) hn ho (s := (1, [3, 1])) rfl (run46 a W) (Below.refl _ _) (av_lit (by decide)) hI
theorem run47 (a : Act) (W : World) : (execOp a.eval (OP 47)).run Try.prog W = .ok (.value (lit (1, [4, 1]))) W := by kernel_rfl
theorem st47 (hn : listed.getD 47 true = false) (ho : RG[47]? = some o) (hl : ∀ e ∈ o.after, Region.binds .any e = true → listed.getD e.on false = true) (hI : Inv w0 listed a W) : wpOp Try.prog RG Q 47 (Inv w0 (listed.setIfInBounds 47 true)) a W := by
  obtain rfl := op_eq ho
  exact step_val (by decide) hn ho (s := (1, [4, 1])) rfl (run47 a W) (Below.refl _ _) (av_lit (by decide)) hI
theorem run48 (a : Act) (W : World) : (execOp a.eval (OP 48)).run Try.prog W = .ok (.value (lit (1, [5, 1]))) W := by kernel_rfl
theorem st48 (hn : listed.getD 48 true = false) (ho : RG[48]? = some o) (hl : ∀ e ∈ o.after, Region.binds .any e = true → listed.getD e.on false = true) (hI : Inv w0 listed a W) : wpOp Try.prog RG Q 48 (Inv w0 (listed.setIfInBounds 48 true)) a W := by
  obtain rfl := op_eq ho
  exact step_val (by decide) hn ho (s := (1, [5, 1])) rfl (run48 a W) (Below.refl _ _) (av_lit (by decide)) hI
theorem run49 (a : Act) (W : World) : (execOp a.eval (OP 49)).run Try.prog W = .ok (.value (lit (1, [6, 2]))) W := by kernel_rfl
theorem st49 (hn : listed.getD 49 true = false) (ho : RG[49]? = some o) (hl : ∀ e ∈ o.after, Region.binds .any e = true → listed.getD e.on false = true) (hI : Inv w0 listed a W) : wpOp Try.prog RG Q 49 (Inv w0 (listed.setIfInBounds 49 true)) a W := by
  obtain rfl := op_eq ho
  exact step_val (by decide) hn ho (s := (1, [6, 2])) rfl (run49 a W) (Below.refl _ _) (av_lit (by decide)) hI
theorem run50 (a : Act) (W : World) : (execOp a.eval (OP 50)).run Try.prog W = .ok (.value (lit (1, [8, (-2)]))) W := by kernel_rfl
theorem st50 (hn : listed.getD 50 true = false) (ho : RG[50]? = some o) (hl : ∀ e ∈ o.after, Region.binds .any e = true → listed.getD e.on false = true) (hI : Inv w0 listed a W) : wpOp Try.prog RG Q 50 (Inv w0 (listed.setIfInBounds 50 true)) a W := by
  obtain rfl := op_eq ho
  exact step_val (by decide) hn ho (s := (1, [8, (-2)])) rfl (run50 a W) (Below.refl _ _) (av_lit (by decide)) hI
theorem run51 (a : Act) (W : World) : (execOp a.eval (OP 51)).run Try.prog W = .ok (.value (lit (1, [10, 4]))) W := by kernel_rfl
theorem st51 (hn : listed.getD 51 true = false) (ho : RG[51]? = some o) (hl : ∀ e ∈ o.after, Region.binds .any e = true → listed.getD e.on false = true) (hI : Inv w0 listed a W) : wpOp Try.prog RG Q 51 (Inv w0 (listed.setIfInBounds 51 true)) a W := by
  obtain rfl := op_eq ho
  exact step_val (by decide) hn ho (s := (1, [10, 4])) rfl (run51 a W) (Below.refl _ _) (av_lit (by decide)) hI
theorem run52 (a : Act) (W : World) : (execOp a.eval (OP 52)).run Try.prog W = .ok (.value (lit (1, [14, 1]))) W := by kernel_rfl
theorem st52 (hn : listed.getD 52 true = false) (ho : RG[52]? = some o) (hl : ∀ e ∈ o.after, Region.binds .any e = true → listed.getD e.on false = true) (hI : Inv w0 listed a W) : wpOp Try.prog RG Q 52 (Inv w0 (listed.setIfInBounds 52 true)) a W := by
  obtain rfl := op_eq ho
  exact step_val (by decide) hn ho (s := (1, [14, 1])) rfl (run52 a W) (Below.refl _ _) (av_lit (by decide)) hI
theorem rd53 : rowReady (OP 53) = true := by kernel_rfl
theorem run53 (W : World) : (execOp rhoL (OP 53)).run Try.prog W = .ok (.value (.slice (some ⟨W.heap.size, 0, none⟩) 9 9)) (W.alloc (.cells #[.int .i64 1, .int .i64 1, .int .i64 2, .int .i64 1, .int .i64 3, .int .i64 1, .int .i64 4, .int .i64 1, .int .i64 5, .int .i64 1, .int .i64 6, .int .i64 2, .int .i64 8, .int .i64 (-2), .int .i64 10, .int .i64 4, .int .i64 14, .int .i64 1] 47)) := by kernel_rfl
theorem ns53 : ∀ cs b, (OP 53).op ≠ .select cs b := by
  intro cs b h
  have e : (match (OP 53).op with | .select _ _ => false | _ => true) = true := by kernel_rfl
  rw [h] at e
  simp at e
theorem st53 (hn : listed.getD 53 true = false) (ho : RG[53]? = some o) (hl : ∀ e ∈ o.after, Region.binds .any e = true → listed.getD e.on false = true) (hI : Inv w0 listed a W) : wpOp Try.prog RG Q 53 (Inv w0 (listed.setIfInBounds 53 true)) a W := by
  obtain rfl := op_eq ho
  have hrun := run53 W
  rw [← execOp_congr (OP 53) ns53 (row_eval rd53 hl hI)] at hrun
  exact step_val (by decide) hn ho (s := (2, [1, 1, 2, 1, 3, 1, 4, 1, 5, 1, 6, 2, 8, (-2), 10, 4, 14, 1])) rfl hrun (below_alloc (Below.refl _ _) _) (av_row hI.below.size rfl rfl rfl (by unfold maxLen; decide)) hI
theorem ops54 : (OP 54).op = .call { callee := .value (.func 24), args := #[.const (.int .i64 19), .tmp 50], argTypes := #[3, 40] } := by kernel_rfl
theorem af54 : (OP 54).after.toList.any (fun e => e.on == 53 && Region.binds .any e) = true := by kernel_rfl
theorem st54 (_hn : listed.getD 54 true = false) (ho : RG[54]? = some o) (hl : ∀ e ∈ o.after, Region.binds .any e = true → listed.getD e.on false = true) (hI : Inv w0 listed a W) : wpOp Try.prog RG Q 54 (Inv w0 (listed.setIfInBounds 54 true)) a W := by
  obtain rfl := op_eq ho
  have hd := dep af54 hl
  obtain ⟨m, hm, _⟩ := hI.rest
  obtain ⟨v, hv, hok⟩ := hm 53 50 (2, [1, 1, 2, 1, 3, 1, 4, 1, 5, 1, 6, 2, 8, (-2), 10, 4, 14, 1]) rfl hd
  have hR : Kd.R k47 47 W w0.heap.size (fun _ => True) v (flds [1, 1, 2, 1, 3, 1, 4, 1, 5, 1, 6, 2, 8, (-2), 10, 4, 14, 1]) := by
    unfold AVok at hok
    rwa [if_neg (show ¬ (2 : Nat) ≤ 1 by decide), if_pos rfl] at hok
  obtain ⟨A, c, rfl⟩ := Kd.R_slice hR
  exact step_call (by decide) ho (s := (3, [19, 1, 1, 2, 1, 3, 1, 4, 1, 5, 1, 6, 2, 8, (-2), 10, 4, 14, 1])) rfl Try.func24 (by kernel_rfl) rfl ops54 (args := #[.int .i64 19, .slice A (flds [1, 1, 2, 1, 3, 1, 4, 1, 5, 1, 6, 2, 8, (-2), 10, 4, 14, 1]).length c]) (by simp [Act.eval, Array.getD_eq_getD_getElem?, hv])
    (of_calls _ A _ c W) (fun w' hb => by unfold AVok; rw [if_neg (show ¬ (3 : Nat) ≤ 1 by decide), if_neg (show ¬ (3 : Nat) = 2 by decide), if_pos rfl]; exact ⟨_, rfl, Kd.R_below hR hb⟩) hI
theorem ops55 : (OP 55).op = .insert 44 (.tmp 1) (.const (.int .u8 52)) (.tmp 51) := by kernel_rfl
theorem dst55 : (OP 55).dst = none := by kernel_rfl
theorem af55_0 : (OP 55).after.toList.any (fun e => e.on == 0 && Region.binds .any e) = true := by kernel_rfl
theorem af55_54 : (OP 55).after.toList.any (fun e => e.on == 54 && Region.binds .any e) = true := by kernel_rfl
theorem st55 (hn : listed.getD 55 true = false) (ho : RG[55]? = some o) (hl : ∀ e ∈ o.after, Region.binds .any e = true → listed.getD e.on false = true) (hI : Inv w0 listed a W) : wpOp Try.prog RG Q 55 (Inv w0 (listed.setIfInBounds 55 true)) a W := by
  obtain rfl := op_eq ho
  exact step_ins (r := ([52], [19, 1, 1, 2, 1, 3, 1, 4, 1, 5, 1, 6, 2, 8, (-2), 10, 4, 14, 1])) (j2 := 54) rfl rfl hn ho dst55 ops55 rfl (dep af55_0 hl) rfl (dep af55_54 hl) hI
theorem run56 (a : Act) (W : World) : (execOp a.eval (OP 56)).run Try.prog W = .ok (.value (lit (1, [1, 1]))) W := by kernel_rfl
theorem st56 (hn : listed.getD 56 true = false) (ho : RG[56]? = some o) (hl : ∀ e ∈ o.after, Region.binds .any e = true → listed.getD e.on false = true) (hI : Inv w0 listed a W) : wpOp Try.prog RG Q 56 (Inv w0 (listed.setIfInBounds 56 true)) a W := by
  obtain rfl := op_eq ho
  exact step_val (by decide) hn ho (s := (1, [1, 1])) rfl (run56 a W) (Below.refl _ _) (av_lit (by decide)) hI
theorem rd57 : rowReady (OP 57) = true := by kernel_rfl
theorem run57 (W : World) : (execOp rhoL (OP 57)).run Try.prog W = .ok (.value (.slice (some ⟨W.heap.size, 0, none⟩) 1 1)) (W.alloc (.cells #[.int .i64 1, .int .i64 1] 47)) := by kernel_rfl
theorem ns57 : ∀ cs b, (OP 57).op ≠ .select cs b := by
  intro cs b h
  have e : (match (OP 57).op with | .select _ _ => false | _ => true) = true := by kernel_rfl
  rw [h] at e
  simp at e
theorem st57 (hn : listed.getD 57 true = false) (ho : RG[57]? = some o) (hl : ∀ e ∈ o.after, Region.binds .any e = true → listed.getD e.on false = true) (hI : Inv w0 listed a W) : wpOp Try.prog RG Q 57 (Inv w0 (listed.setIfInBounds 57 true)) a W := by
  obtain rfl := op_eq ho
  have hrun := run57 W
  rw [← execOp_congr (OP 57) ns57 (row_eval rd57 hl hI)] at hrun
  exact step_val (by decide) hn ho (s := (2, [1, 1])) rfl hrun (below_alloc (Below.refl _ _) _) (av_row hI.below.size rfl rfl rfl (by unfold maxLen; decide)) hI
theorem ops58 : (OP 58).op = .call { callee := .value (.func 24), args := #[.const (.int .i64 2), .tmp 53], argTypes := #[3, 40] } := by kernel_rfl
theorem af58 : (OP 58).after.toList.any (fun e => e.on == 57 && Region.binds .any e) = true := by kernel_rfl
theorem st58 (_hn : listed.getD 58 true = false) (ho : RG[58]? = some o) (hl : ∀ e ∈ o.after, Region.binds .any e = true → listed.getD e.on false = true) (hI : Inv w0 listed a W) : wpOp Try.prog RG Q 58 (Inv w0 (listed.setIfInBounds 58 true)) a W := by
  obtain rfl := op_eq ho
  have hd := dep af58 hl
  obtain ⟨m, hm, _⟩ := hI.rest
  obtain ⟨v, hv, hok⟩ := hm 57 53 (2, [1, 1]) rfl hd
  have hR : Kd.R k47 47 W w0.heap.size (fun _ => True) v (flds [1, 1]) := by
    unfold AVok at hok
    rwa [if_neg (show ¬ (2 : Nat) ≤ 1 by decide), if_pos rfl] at hok
  obtain ⟨A, c, rfl⟩ := Kd.R_slice hR
  exact step_call (by decide) ho (s := (3, [2, 1, 1])) rfl Try.func24 (by kernel_rfl) rfl ops58 (args := #[.int .i64 2, .slice A (flds [1, 1]).length c]) (by simp [Act.eval, Array.getD_eq_getD_getElem?, hv])
    (of_calls _ A _ c W) (fun w' hb => by unfold AVok; rw [if_neg (show ¬ (3 : Nat) ≤ 1 by decide), if_neg (show ¬ (3 : Nat) = 2 by decide), if_pos rfl]; exact ⟨_, rfl, Kd.R_below hR hb⟩) hI
theorem ops59 : (OP 59).op = .insert 44 (.tmp 1) (.const (.int .u8 11)) (.tmp 54) := by kernel_rfl
theorem dst59 : (OP 59).dst = none := by kernel_rfl
theorem af59_0 : (OP 59).after.toList.any (fun e => e.on == 0 && Region.binds .any e) = true := by kernel_rfl
theorem af59_58 : (OP 59).after.toList.any (fun e => e.on == 58 && Region.binds .any e) = true := by kernel_rfl
theorem st59 (hn : listed.getD 59 true = false) (ho : RG[59]? = some o) (hl : ∀ e ∈ o.after, Region.binds .any e = true → listed.getD e.on false = true) (hI : Inv w0 listed a W) : wpOp Try.prog RG Q 59 (Inv w0 (listed.setIfInBounds 59 true)) a W := by
  obtain rfl := op_eq ho
  exact step_ins (r := ([11], [2, 1, 1])) (j2 := 58) rfl rfl hn ho dst59 ops59 rfl (dep af59_0 hl) rfl (dep af59_58 hl) hI
theorem run60 (a : Act) (W : World) : (execOp a.eval (OP 60)).run Try.prog W = .ok (.value (lit (1, [1, 1]))) W := by kernel_rfl
theorem st60 (hn : listed.getD 60 true = false) (ho : RG[60]? = some o) (hl : ∀ e ∈ o.after, Region.binds .any e = true → listed.getD e.on false = true) (hI : Inv w0 listed a W) : wpOp Try.prog RG Q 60 (Inv w0 (listed.setIfInBounds 60 true)) a W := by
  obtain rfl := op_eq ho
  exact step_val (by decide) hn ho (s := (1, [1, 1])) rfl (run60 a W) (Below.refl _ _) (av_lit (by decide)) hI
theorem rd61 : rowReady (OP 61) = true := by kernel_rfl
theorem run61 (W : World) : (execOp rhoL (OP 61)).run Try.prog W = .ok (.value (.slice (some ⟨W.heap.size, 0, none⟩) 1 1)) (W.alloc (.cells #[.int .i64 1, .int .i64 1] 47)) := by kernel_rfl
theorem ns61 : ∀ cs b, (OP 61).op ≠ .select cs b := by
  intro cs b h
  have e : (match (OP 61).op with | .select _ _ => false | _ => true) = true := by kernel_rfl
  rw [h] at e
  simp at e
theorem st61 (hn : listed.getD 61 true = false) (ho : RG[61]? = some o) (hl : ∀ e ∈ o.after, Region.binds .any e = true → listed.getD e.on false = true) (hI : Inv w0 listed a W) : wpOp Try.prog RG Q 61 (Inv w0 (listed.setIfInBounds 61 true)) a W := by
  obtain rfl := op_eq ho
  have hrun := run61 W
  rw [← execOp_congr (OP 61) ns61 (row_eval rd61 hl hI)] at hrun
  exact step_val (by decide) hn ho (s := (2, [1, 1])) rfl hrun (below_alloc (Below.refl _ _) _) (av_row hI.below.size rfl rfl rfl (by unfold maxLen; decide)) hI
theorem ops62 : (OP 62).op = .call { callee := .value (.func 24), args := #[.const (.int .i64 2), .tmp 56], argTypes := #[3, 40] } := by kernel_rfl
theorem af62 : (OP 62).after.toList.any (fun e => e.on == 61 && Region.binds .any e) = true := by kernel_rfl
theorem st62 (_hn : listed.getD 62 true = false) (ho : RG[62]? = some o) (hl : ∀ e ∈ o.after, Region.binds .any e = true → listed.getD e.on false = true) (hI : Inv w0 listed a W) : wpOp Try.prog RG Q 62 (Inv w0 (listed.setIfInBounds 62 true)) a W := by
  obtain rfl := op_eq ho
  have hd := dep af62 hl
  obtain ⟨m, hm, _⟩ := hI.rest
  obtain ⟨v, hv, hok⟩ := hm 61 56 (2, [1, 1]) rfl hd
  have hR : Kd.R k47 47 W w0.heap.size (fun _ => True) v (flds [1, 1]) := by
    unfold AVok at hok
    rwa [if_neg (show ¬ (2 : Nat) ≤ 1 by decide), if_pos rfl] at hok
  obtain ⟨A, c, rfl⟩ := Kd.R_slice hR
  exact step_call (by decide) ho (s := (3, [2, 1, 1])) rfl Try.func24 (by kernel_rfl) rfl ops62 (args := #[.int .i64 2, .slice A (flds [1, 1]).length c]) (by simp [Act.eval, Array.getD_eq_getD_getElem?, hv])
    (of_calls _ A _ c W) (fun w' hb => by unfold AVok; rw [if_neg (show ¬ (3 : Nat) ≤ 1 by decide), if_neg (show ¬ (3 : Nat) = 2 by decide), if_pos rfl]; exact ⟨_, rfl, Kd.R_below hR hb⟩) hI
theorem ops63 : (OP 63).op = .insert 44 (.tmp 1) (.const (.int .u8 12)) (.tmp 57) := by kernel_rfl
theorem dst63 : (OP 63).dst = none := by kernel_rfl
theorem af63_0 : (OP 63).after.toList.any (fun e => e.on == 0 && Region.binds .any e) = true := by kernel_rfl
theorem af63_62 : (OP 63).after.toList.any (fun e => e.on == 62 && Region.binds .any e) = true := by kernel_rfl
theorem st63 (hn : listed.getD 63 true = false) (ho : RG[63]? = some o) (hl : ∀ e ∈ o.after, Region.binds .any e = true → listed.getD e.on false = true) (hI : Inv w0 listed a W) : wpOp Try.prog RG Q 63 (Inv w0 (listed.setIfInBounds 63 true)) a W := by
  obtain rfl := op_eq ho
  exact step_ins (r := ([12], [2, 1, 1])) (j2 := 62) rfl rfl hn ho dst63 ops63 rfl (dep af63_0 hl) rfl (dep af63_62 hl) hI
theorem run64 (a : Act) (W : World) : (execOp a.eval (OP 64)).run Try.prog W = .ok (.value (lit (1, [1, 1]))) W := by kernel_rfl
theorem st64 (hn : listed.getD 64 true = false) (ho : RG[64]? = some o) (hl : ∀ e ∈ o.after, Region.binds .any e = true → listed.getD e.on false = true) (hI : Inv w0 listed a W) : wpOp Try.prog RG Q 64 (Inv w0 (listed.setIfInBounds 64 true)) a W := by
  obtain rfl := op_eq ho
  exact step_val (by decide) hn ho (s := (1, [1, 1])) rfl (run64 a W) (Below.refl _ _) (av_lit (by decide)) hI
theorem run65 (a : Act) (W : World) : (execOp a.eval (OP 65)).run Try.prog W = .ok (.value (lit (1, [2, 1]))) W := by kernel_rfl
theorem st65 (hn : listed.getD 65 true = false) (ho : RG[65]? = some o) (hl : ∀ e ∈ o.after, Region.binds .any e = true → listed.getD e.on false = true) (hI : Inv w0 listed a W) : wpOp Try.prog RG Q 65 (Inv w0 (listed.setIfInBounds 65 true)) a W := by
  obtain rfl := op_eq ho
  exact step_val (by decide) hn ho (s := (1, [2, 1])) rfl (run65 a W) (Below.refl _ _) (av_lit (by decide)) hI
theorem run66 (a : Act) (W : World) : (execOp a.eval (OP 66)).run Try.prog W = .ok (.value (lit (1, [3, 1]))) W := by kernel_rfl
theorem st66 (hn : listed.getD 66 true = false) (ho : RG[66]? = some o) (hl : ∀ e ∈ o.after, Region.binds .any e = true → listed.getD e.on false = true) (hI : Inv w0 listed a W) : wpOp Try.prog RG Q 66 (Inv w0 (listed.setIfInBounds 66 true)) a W := by
  obtain rfl := op_eq ho
  exact step_val (by decide) hn ho (s := (1, [3, 1])) rfl (run66 a W) (Below.refl _ _) (av_lit (by decide)) hI
theorem rd67 : rowReady (OP 67) = true := by kernel_rfl
theorem run67 (W : World) : (execOp rhoL (OP 67)).run Try.prog W = .ok (.value (.slice (some ⟨W.heap.size, 0, none⟩) 3 3)) (W.alloc (.cells #[.int .i64 1, .int .i64 1, .int .i64 2, .int .i64 1, .int .i64 3, .int .i64 1] 47)) := by kernel_rfl
theorem ns67 : ∀ cs b, (OP 67).op ≠ .select cs b := by
  intro cs b h
  have e : (match (OP 67).op with | .select _ _ => false | _ => true) = true := by kernel_rfl
  rw [h] at e
  simp at e
theorem st67 (hn : listed.getD 67 true = false) (ho : RG[67]? = some o) (hl : ∀ e ∈ o.after, Region.binds .any e = true → listed.getD e.on false = true) (hI : Inv w0 listed a W) : wpOp Try.prog RG Q 67 (Inv w0 (listed.setIfInBounds 67 true)) a W := by
  obtain rfl := op_eq ho
  have hrun := run67 W
  rw [← execOp_congr (OP 67) ns67 (row_eval rd67 hl hI)] at hrun
  exact step_val (by decide) hn ho (s := (2, [1, 1, 2, 1, 3, 1])) rfl hrun (below_alloc (Below.refl _ _) _) (av_row hI.below.size rfl rfl rfl (by unfold maxLen; decide)) hI
theorem ops68 : (OP 68).op = .call { callee := .value (.func 24), args := #[.const (.int .i64 8), .tmp 61], argTypes := #[3, 40] } := by kernel_rfl
theorem af68 : (OP 68).after.toList.any (fun e => e.on == 67 && Region.binds .any e) = true := by kernel_rfl
theorem st68 (_hn : listed.getD 68 true = false) (ho : RG[68]? = some o) (hl : ∀ e ∈ o.after, Region.binds .any e = true → listed.getD e.on false = true) (hI : Inv w0 listed a W) : wpOp Try.prog RG Q 68 (Inv w0 (listed.setIfInBounds 68 true)) a W := by
  obtain rfl := op_eq ho
  have hd := dep af68 hl
  obtain ⟨m, hm, _⟩ := hI.rest
  obtain ⟨v, hv, hok⟩ := hm 67 61 (2, [1, 1, 2, 1, 3, 1]) rfl hd
  have hR : Kd.R k47 47 W w0.heap.size (fun _ => True) v (flds [1, 1, 2, 1, 3, 1]) := by
    unfold AVok at hok
    rwa [if_neg (show ¬ (2 : Nat) ≤ 1 by decide), if_pos rfl] at hok
  obtain ⟨A, c, rfl⟩ := Kd.R_slice hR
  exact step_call (by decide) ho (s := (3, [8, 1, 1, 2, 1, 3, 1])) rfl Try.func24 (by kernel_rfl) rfl ops68 (args := #[.int .i64 8, .slice A (flds [1, 1, 2, 1, 3, 1]).length c]) (by simp [Act.eval, Array.getD_eq_getD_getElem?, hv])
    (of_calls _ A _ c W) (fun w' hb => by unfold AVok; rw [if_neg (show ¬ (3 : Nat) ≤ 1 by decide), if_neg (show ¬ (3 : Nat) = 2 by decide), if_pos rfl]; exact ⟨_, rfl, Kd.R_below hR hb⟩) hI
theorem ops69 : (OP 69).op = .insert 44 (.tmp 1) (.const (.int .u8 166)) (.tmp 62) := by kernel_rfl
theorem dst69 : (OP 69).dst = none := by kernel_rfl
theorem af69_0 : (OP 69).after.toList.any (fun e => e.on == 0 && Region.binds .any e) = true := by kernel_rfl
theorem af69_68 : (OP 69).after.toList.any (fun e => e.on == 68 && Region.binds .any e) = true := by kernel_rfl
theorem st69 (hn : listed.getD 69 true = false) (ho : RG[69]? = some o) (hl : ∀ e ∈ o.after, Region.binds .any e = true → listed.getD e.on false = true) (hI : Inv w0 listed a W) : wpOp Try.prog RG Q 69 (Inv w0 (listed.setIfInBounds 69 true)) a W := by
  obtain rfl := op_eq ho
  exact step_ins (r := ([166], [8, 1, 1, 2, 1, 3, 1])) (j2 := 68) rfl rfl hn ho dst69 ops69 rfl (dep af69_0 hl) rfl (dep af69_68 hl) hI
theorem dst70 : (OP 70).dst = some 63 := by kernel_rfl
theorem gd70 : (OP 70).guard = none := by kernel_rfl
theorem op70 (ρ : Operand → Value) (W : World) : (execOp ρ (OP 70)).run Try.prog W = .ok (.value (ρ (.tmp 1))) W := by kernel_rfl
theorem af70 : (OP 70).after.toList.any (fun e => e.on == 0 && Region.binds .any e) = true := by kernel_rfl
theorem st70 (_hn : listed.getD 70 true = false) (ho : RG[70]? = some o) (hl : ∀ e ∈ o.after, Region.binds .any e = true → listed.getD e.on false = true) (hI : Inv w0 listed a W) : wpOp Try.prog RG Q 70 (Inv w0 (listed.setIfInBounds 70 true)) a W := by
  obtain rfl := op_eq ho
  refine step_fin (f := (70, 63)) (by simp [FN]) ho dst70 gd70 (dep af70 hl) hI (fun m h1 h2 => ?_)
  have h3 : a.tmps[1]? = some (.map (some m)) := h1
  rw [op70]
  simp only [Act.eval, Array.getD_eq_getD_getElem?, h3, Option.getD_some]
theorem dst71 : (OP 71).dst = some 0 := by kernel_rfl
theorem gd71 : (OP 71).guard = none := by kernel_rfl
theorem op71 (ρ : Operand → Value) (W : World) : (execOp ρ (OP 71)).run Try.prog W = .ok (.value (ρ (.tmp 63))) W := by kernel_rfl
theorem af71 : (OP 71).after.toList.any (fun e => e.on == 0 && Region.binds .any e) = true := by kernel_rfl
theorem afp71 : (OP 71).after.toList.any (fun e => e.on == 70 && Region.binds .any e) = true := by kernel_rfl
theorem st71 (_hn : listed.getD 71 true = false) (ho : RG[71]? = some o) (hl : ∀ e ∈ o.after, Region.binds .any e = true → listed.getD e.on false = true) (hI : Inv w0 listed a W) : wpOp Try.prog RG Q 71 (Inv w0 (listed.setIfInBounds 71 true)) a W := by
  obtain rfl := op_eq ho
  refine step_fin (f := (71, 0)) (by simp [FN]) ho dst71 gd71 (dep af71 hl) hI (fun m h1 h2 => ?_)
  have h3 : a.tmps[63]? = some (.map (some m)) := h2 (70, 63) (by simp [FN]) (dep afp71 hl)
  rw [op71]
  simp only [Act.eval, Array.getD_eq_getD_getElem?, h3, Option.getD_some]
theorem st_all (i : Nat) (hi : i < 72) (hn : listed.getD i true = false) (ho : RG[i]? = some o) (hl : ∀ e ∈ o.after, Region.binds .any e = true → listed.getD e.on false = true) (hI : Inv w0 listed a W) : wpOp Try.prog RG Q i (Inv w0 (listed.setIfInBounds i true)) a W :=
  match i, hi, hn, ho with
  | 0, _, hn, ho => st0 hn ho hI
  | 1, _, hn, ho => st1 hn ho hl hI
  | 2, _, hn, ho => st2 hn ho hl hI
  | 3, _, hn, ho => st3 hn ho hl hI
  | 4, _, hn, ho => st4 hn ho hl hI
  | 5, _, hn, ho => st5 hn ho hl hI
  | 6, _, hn, ho => st6 hn ho hl hI
  | 7, _, hn, ho => st7 hn ho hl hI
  | 8, _, hn, ho => st8 hn ho hl hI
  | 9, _, hn, ho => st9 hn ho hl hI
  | 10, _, hn, ho => st10 hn ho hl hI
  | 11, _, hn, ho => st11 hn ho hl hI
  | 12, _, hn, ho => st12 hn ho hl hI
  | 13, _, hn, ho => st13 hn ho hl hI
  | 14, _, hn, ho => st14 hn ho hl hI
  | 15, _, hn, ho => st15 hn ho hl hI
  | 16, _, hn, ho => st16 hn ho hl hI
  | 17, _, hn, ho => st17 hn ho hl hI
  | 18, _, hn, ho => st18 hn ho hl hI
  | 19, _, hn, ho => st19 hn ho hl hI
  | 20, _, hn, ho => st20 hn ho hl hI
  | 21, _, hn, ho => st21 hn ho hl hI
  | 22, _, hn, ho => st22 hn ho hl hI
  | 23, _, hn, ho => st23 hn ho hl hI
  | 24, _, hn, ho => st24 hn ho hl hI
  | 25, _, hn, ho => st25 hn ho hl hI
  | 26, _, hn, ho => st26 hn ho hl hI
  | 27, _, hn, ho => st27 hn ho hl hI
  | 28, _, hn, ho => st28 hn ho hl hI
  | 29, _, hn, ho => st29 hn ho hl hI
  | 30, _, hn, ho => st30 hn ho hl hI
  | 31, _, hn, ho => st31 hn ho hl hI
  | 32, _, hn, ho => st32 hn ho hl hI
  | 33, _, hn, ho => st33 hn ho hl hI
  | 34, _, hn, ho => st34 hn ho hl hI
  | 35, _, hn, ho => st35 hn ho hl hI
  | 36, _, hn, ho => st36 hn ho hl hI
  | 37, _, hn, ho => st37 hn ho hl hI
  | 38, _, hn, ho => st38 hn ho hl hI
  | 39, _, hn, ho => st39 hn ho hl hI
  | 40, _, hn, ho => st40 hn ho hl hI
  | 41, _, hn, ho => st41 hn ho hl hI
  | 42, _, hn, ho => st42 hn ho hl hI
  | 43, _, hn, ho => st43 hn ho hl hI
  | 44, _, hn, ho => st44 hn ho hl hI
  | 45, _, hn, ho => st45 hn ho hl hI
  | 46, _, hn, ho => st46 hn ho hl hI
  | 47, _, hn, ho => st47 hn ho hl hI
  | 48, _, hn, ho => st48 hn ho hl hI
  | 49, _, hn, ho => st49 hn ho hl hI
  | 50, _, hn, ho => st50 hn ho hl hI
  | 51, _, hn, ho => st51 hn ho hl hI
  | 52, _, hn, ho => st52 hn ho hl hI
  | 53, _, hn, ho => st53 hn ho hl hI
  | 54, _, hn, ho => st54 hn ho hl hI
  | 55, _, hn, ho => st55 hn ho hl hI
  | 56, _, hn, ho => st56 hn ho hl hI
  | 57, _, hn, ho => st57 hn ho hl hI
  | 58, _, hn, ho => st58 hn ho hl hI
  | 59, _, hn, ho => st59 hn ho hl hI
  | 60, _, hn, ho => st60 hn ho hl hI
  | 61, _, hn, ho => st61 hn ho hl hI
  | 62, _, hn, ho => st62 hn ho hl hI
  | 63, _, hn, ho => st63 hn ho hl hI
  | 64, _, hn, ho => st64 hn ho hl hI
  | 65, _, hn, ho => st65 hn ho hl hI
  | 66, _, hn, ho => st66 hn ho hl hI
  | 67, _, hn, ho => st67 hn ho hl hI
  | 68, _, hn, ho => st68 hn ho hl hI
  | 69, _, hn, ho => st69 hn ho hl hI
  | 70, _, hn, ho => st70 hn ho hl hI
  | 71, _, hn, ho => st71 hn ho hl hI
  | (n + 72), h, _, _ => absurd h (by omega)
theorem region_ops {P : Program} {id : Nat} {ops ops' : Array Oper} {d : Bool} {R : Exit → Act → World → Prop} {a : Act} {w : World} (h : ops = ops') (hw : (Code.region id ops' d).wp P R a w) : (Code.region id ops d).wp P R a w := h ▸ hw
theorem back_lt (i : Nat) (o : Oper) (ho : RG[i]? = some o) (e : Edge) (he : e ∈ o.after) : e.on < i := by
  have h1 := List.all_eq_true.1 rg_back (o, i) (by rw [List.mem_zipIdx_iff_getElem?]; simpa using ho)
  have h2 := Array.all_eq_true_iff_forall_mem.1 h1 e he
  simpa using h2
set_option maxHeartbeats 4000000 in
set_option maxRecDepth 100000 in
/-- sirf.layouts makes a map of the eight rows. -/
theorem sirf_layouts.calls (w : World) : Calls Try.prog 15 #[] w fun e w' => ∃ m, e = .returned (.map (some m)) ∧ IsLay w.heap.size w' m ∧ Below w.heap.size w w' := by
  go_enter Try.func15, Try.ntmps15
  go_upto_region 1 with (fail)
  refine region_ops (ops' := RG) (by kernel_rfl) ?_
  refine wp_region_seq (Inv w) (fun i o ho e he _ => back_lt i o ho e he) ?_ (fun listed a W i o _ hi ho hn hl hI => st_all i (by rw [rg_size] at hi; exact hi) hn ho hl hI) ?_
  · have hz : ∀ j, (Array.replicate RG.size false).getD j false = false := by
      intro j
      simp only [Array.getD_eq_getD_getElem?, Array.getElem?_replicate]
      split <;> rfl
    refine ⟨rfl, by simp, Below.refl _ _, fun f _ h => ?_, fun j r _ h => ?_, w.heap.size, fun j t s _ h => ?_, fun h => ?_, fun f _ h => ?_⟩ <;> (rw [hz] at h; simp at h)
  · intro listed a W hs hall hI
    obtain ⟨m, h1, h2, h3⟩ := hI.rest
    have hl : ∀ j, j < 72 → listed.getD j false = true := fun j hj => hall j (by rw [rg_size]; exact hj)
    obtain ⟨hb, es, clock, hm, he1, he2⟩ := h2 (hl 0 (by decide))
    have h0 := h3 (71, 0) (by simp [FN]) (hl 71 (by decide))
    go_wp2_with fail
    refine bodyPost_ret (v := .map (some m)) ?_ hI.defers ⟨m, rfl, ⟨es, clock, hm, fun e he => ?_, fun r hr => ?_⟩, hI.below⟩
    · have h0' : a.tmps.getD 0 undef = .map (some m) := by simp [Array.getD_eq_getD_getElem?, h0]
      rw [← h0']
      exact results_tmp rfl _ _ _
    · obtain ⟨j, r, _, hr, h⟩ := he1 e he
      refine ⟨r, ?_, h⟩
      have := List.all_eq_true.1 ir_tab _ (List.mem_of_getElem? hr)
      simpa using this
    · have h4 := List.all_eq_true.1 tab_ir r hr
      have h5 : some r ∈ IR := by simpa using h4
      obtain ⟨j, hj⟩ := List.getElem?_of_mem h5
      have hjl : j < 72 := by rw [← ir_len]; exact (List.getElem?_eq_some_iff.1 hj).1
      exact he2 j r (hl j hjl) hj
end Go.Proofs.Ytoeompemgpaccaa.QSirf
