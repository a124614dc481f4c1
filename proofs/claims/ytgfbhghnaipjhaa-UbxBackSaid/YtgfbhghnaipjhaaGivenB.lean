/- What ubx.layouts makes, operation by operation, and the call's contract. -/
import Derived.Test.YtgfbhghnaipjhaaGivenA
namespace Go.Proofs.Ytgfbhghnaipjhaa.QUbx
open Go.RowKit Go.Proofs.YtgfbhghnaipjhaaW.PrintWords Go.Proofs.YtgfbhghnaipjhaaW.PrintLast Go.Proofs.YtgfbhghnaipjhaaW.PrintMore
open Go.MineInv Go.Maps
variable {w0 : World} {listed : Array Bool} {a : Act} {W : World} {o : Oper} {Q : Exit → Act → World → Prop}

theorem run0 (a : Act) (W : World) : (execOp a.eval (OP 0)).run Try.prog W = .ok (.value (.map (some W.heap.size))) (W.alloc (.map #[] 0)) := by kernel_rfl
theorem st0 (hn : listed.getD 0 true = false) (ho : RG[0]? = some o) (hI : Inv w0 listed a W) : wpOp Try.prog RG Q 0 (Inv w0 (listed.setIfInBounds 0 true)) a W := by
  obtain rfl := op_eq ho
  exact step_make hn ho (run0 a W) hI
theorem run1 (a : Act) (W : World) : (execOp a.eval (OP 1)).run Try.prog W = .ok (.value (lit (0, [1, 7]))) W := by kernel_rfl
theorem st1 (hn : listed.getD 1 true = false) (ho : RG[1]? = some o) (hl : ∀ e ∈ o.after, Region.binds .any e = true → listed.getD e.on false = true) (hI : Inv w0 listed a W) : wpOp Try.prog RG Q 1 (Inv w0 (listed.setIfInBounds 1 true)) a W := by
  obtain rfl := op_eq ho
  exact step_val (by decide) hn ho (s := (0, [1, 7])) rfl (run1 a W) (Below.refl _ _) (av_lit (by decide)) hI
theorem run2 (a : Act) (W : World) : (execOp a.eval (OP 2)).run Try.prog W = .ok (.value (lit (1, [0, 4, 0]))) W := by kernel_rfl
theorem st2 (hn : listed.getD 2 true = false) (ho : RG[2]? = some o) (hl : ∀ e ∈ o.after, Region.binds .any e = true → listed.getD e.on false = true) (hI : Inv w0 listed a W) : wpOp Try.prog RG Q 2 (Inv w0 (listed.setIfInBounds 2 true)) a W := by
  obtain rfl := op_eq ho
  exact step_val (by decide) hn ho (s := (1, [0, 4, 0])) rfl (run2 a W) (Below.refl _ _) (av_lit (by decide)) hI
theorem run3 (a : Act) (W : World) : (execOp a.eval (OP 3)).run Try.prog W = .ok (.value (lit (1, [4, 2, 0]))) W := by kernel_rfl
theorem st3 (hn : listed.getD 3 true = false) (ho : RG[3]? = some o) (hl : ∀ e ∈ o.after, Region.binds .any e = true → listed.getD e.on false = true) (hI : Inv w0 listed a W) : wpOp Try.prog RG Q 3 (Inv w0 (listed.setIfInBounds 3 true)) a W := by
  obtain rfl := op_eq ho
  exact step_val (by decide) hn ho (s := (1, [4, 2, 0])) rfl (run3 a W) (Below.refl _ _) (av_lit (by decide)) hI
theorem run4 (a : Act) (W : World) : (execOp a.eval (OP 4)).run Try.prog W = .ok (.value (lit (1, [6, 1, 0]))) W := by kernel_rfl
theorem st4 (hn : listed.getD 4 true = false) (ho : RG[4]? = some o) (hl : ∀ e ∈ o.after, Region.binds .any e = true → listed.getD e.on false = true) (hI : Inv w0 listed a W) : wpOp Try.prog RG Q 4 (Inv w0 (listed.setIfInBounds 4 true)) a W := by
  obtain rfl := op_eq ho
  exact step_val (by decide) hn ho (s := (1, [6, 1, 0])) rfl (run4 a W) (Below.refl _ _) (av_lit (by decide)) hI
theorem run5 (a : Act) (W : World) : (execOp a.eval (OP 5)).run Try.prog W = .ok (.value (lit (1, [7, 1, 0]))) W := by kernel_rfl
theorem st5 (hn : listed.getD 5 true = false) (ho : RG[5]? = some o) (hl : ∀ e ∈ o.after, Region.binds .any e = true → listed.getD e.on false = true) (hI : Inv w0 listed a W) : wpOp Try.prog RG Q 5 (Inv w0 (listed.setIfInBounds 5 true)) a W := by
  obtain rfl := op_eq ho
  exact step_val (by decide) hn ho (s := (1, [7, 1, 0])) rfl (run5 a W) (Below.refl _ _) (av_lit (by decide)) hI
theorem run6 (a : Act) (W : World) : (execOp a.eval (OP 6)).run Try.prog W = .ok (.value (lit (1, [8, 1, 0]))) W := by kernel_rfl
theorem st6 (hn : listed.getD 6 true = false) (ho : RG[6]? = some o) (hl : ∀ e ∈ o.after, Region.binds .any e = true → listed.getD e.on false = true) (hI : Inv w0 listed a W) : wpOp Try.prog RG Q 6 (Inv w0 (listed.setIfInBounds 6 true)) a W := by
  obtain rfl := op_eq ho
  exact step_val (by decide) hn ho (s := (1, [8, 1, 0])) rfl (run6 a W) (Below.refl _ _) (av_lit (by decide)) hI
theorem run7 (a : Act) (W : World) : (execOp a.eval (OP 7)).run Try.prog W = .ok (.value (lit (1, [9, 1, 0]))) W := by kernel_rfl
theorem st7 (hn : listed.getD 7 true = false) (ho : RG[7]? = some o) (hl : ∀ e ∈ o.after, Region.binds .any e = true → listed.getD e.on false = true) (hI : Inv w0 listed a W) : wpOp Try.prog RG Q 7 (Inv w0 (listed.setIfInBounds 7 true)) a W := by
  obtain rfl := op_eq ho
  exact step_val (by decide) hn ho (s := (1, [9, 1, 0])) rfl (run7 a W) (Below.refl _ _) (av_lit (by decide)) hI
theorem run8 (a : Act) (W : World) : (execOp a.eval (OP 8)).run Try.prog W = .ok (.value (lit (1, [10, 1, 0]))) W := by kernel_rfl
theorem st8 (hn : listed.getD 8 true = false) (ho : RG[8]? = some o) (hl : ∀ e ∈ o.after, Region.binds .any e = true → listed.getD e.on false = true) (hI : Inv w0 listed a W) : wpOp Try.prog RG Q 8 (Inv w0 (listed.setIfInBounds 8 true)) a W := by
  obtain rfl := op_eq ho
  exact step_val (by decide) hn ho (s := (1, [10, 1, 0])) rfl (run8 a W) (Below.refl _ _) (av_lit (by decide)) hI
theorem run9 (a : Act) (W : World) : (execOp a.eval (OP 9)).run Try.prog W = .ok (.value (lit (1, [11, 1, 0]))) W := by kernel_rfl
theorem st9 (hn : listed.getD 9 true = false) (ho : RG[9]? = some o) (hl : ∀ e ∈ o.after, Region.binds .any e = true → listed.getD e.on false = true) (hI : Inv w0 listed a W) : wpOp Try.prog RG Q 9 (Inv w0 (listed.setIfInBounds 9 true)) a W := by
  obtain rfl := op_eq ho
  exact step_val (by decide) hn ho (s := (1, [11, 1, 0])) rfl (run9 a W) (Below.refl _ _) (av_lit (by decide)) hI
theorem run10 (a : Act) (W : World) : (execOp a.eval (OP 10)).run Try.prog W = .ok (.value (lit (1, [12, 4, 0]))) W := by kernel_rfl
theorem st10 (hn : listed.getD 10 true = false) (ho : RG[10]? = some o) (hl : ∀ e ∈ o.after, Region.binds .any e = true → listed.getD e.on false = true) (hI : Inv w0 listed a W) : wpOp Try.prog RG Q 10 (Inv w0 (listed.setIfInBounds 10 true)) a W := by
  obtain rfl := op_eq ho
  exact step_val (by decide) hn ho (s := (1, [12, 4, 0])) rfl (run10 a W) (Below.refl _ _) (av_lit (by decide)) hI
theorem run11 (a : Act) (W : World) : (execOp a.eval (OP 11)).run Try.prog W = .ok (.value (lit (1, [16, 4, 1]))) W := by kernel_rfl
theorem st11 (hn : listed.getD 11 true = false) (ho : RG[11]? = some o) (hl : ∀ e ∈ o.after, Region.binds .any e = true → listed.getD e.on false = true) (hI : Inv w0 listed a W) : wpOp Try.prog RG Q 11 (Inv w0 (listed.setIfInBounds 11 true)) a W := by
  obtain rfl := op_eq ho
  exact step_val (by decide) hn ho (s := (1, [16, 4, 1])) rfl (run11 a W) (Below.refl _ _) (av_lit (by decide)) hI
theorem run12 (a : Act) (W : World) : (execOp a.eval (OP 12)).run Try.prog W = .ok (.value (lit (1, [20, 1, 0]))) W := by kernel_rfl
theorem st12 (hn : listed.getD 12 true = false) (ho : RG[12]? = some o) (hl : ∀ e ∈ o.after, Region.binds .any e = true → listed.getD e.on false = true) (hI : Inv w0 listed a W) : wpOp Try.prog RG Q 12 (Inv w0 (listed.setIfInBounds 12 true)) a W := by
  obtain rfl := op_eq ho
  exact step_val (by decide) hn ho (s := (1, [20, 1, 0])) rfl (run12 a W) (Below.refl _ _) (av_lit (by decide)) hI
theorem run13 (a : Act) (W : World) : (execOp a.eval (OP 13)).run Try.prog W = .ok (.value (lit (1, [21, 1, 0]))) W := by kernel_rfl
theorem st13 (hn : listed.getD 13 true = false) (ho : RG[13]? = some o) (hl : ∀ e ∈ o.after, Region.binds .any e = true → listed.getD e.on false = true) (hI : Inv w0 listed a W) : wpOp Try.prog RG Q 13 (Inv w0 (listed.setIfInBounds 13 true)) a W := by
  obtain rfl := op_eq ho
  exact step_val (by decide) hn ho (s := (1, [21, 1, 0])) rfl (run13 a W) (Below.refl _ _) (av_lit (by decide)) hI
theorem rd14 : rowReady (OP 14) = true := by kernel_rfl
theorem run14 (W : World) : (execOp rhoL (OP 14)).run Try.prog W = .ok (.value (.slice (some ⟨W.heap.size, 0, none⟩) 12 12)) (W.alloc (.cells #[.int .i64 0, .int .i64 4, .bool false, .int .i64 4, .int .i64 2, .bool false, .int .i64 6, .int .i64 1, .bool false, .int .i64 7, .int .i64 1, .bool false, .int .i64 8, .int .i64 1, .bool false, .int .i64 9, .int .i64 1, .bool false, .int .i64 10, .int .i64 1, .bool false, .int .i64 11, .int .i64 1, .bool false, .int .i64 12, .int .i64 4, .bool false, .int .i64 16, .int .i64 4, .bool true, .int .i64 20, .int .i64 1, .bool false, .int .i64 21, .int .i64 1, .bool false] 49)) := by kernel_rfl
theorem ns14 : ∀ cs b, (OP 14).op ≠ .select cs b := by
  intro cs b h
  have e : (match (OP 14).op with | .select _ _ => false | _ => true) = true := by kernel_rfl
  rw [h] at e
  simp at e
theorem st14 (hn : listed.getD 14 true = false) (ho : RG[14]? = some o) (hl : ∀ e ∈ o.after, Region.binds .any e = true → listed.getD e.on false = true) (hI : Inv w0 listed a W) : wpOp Try.prog RG Q 14 (Inv w0 (listed.setIfInBounds 14 true)) a W := by
  obtain rfl := op_eq ho
  have hrun := run14 W
  rw [← execOp_congr (OP 14) ns14 (row_eval rd14 hl hI)] at hrun
  exact step_val (by decide) hn ho (s := (2, [0, 4, 0, 4, 2, 0, 6, 1, 0, 7, 1, 0, 8, 1, 0, 9, 1, 0, 10, 1, 0, 11, 1, 0, 12, 4, 0, 16, 4, 1, 20, 1, 0, 21, 1, 0])) rfl hrun (below_alloc (Below.refl _ _) _) (av_row hI.below.size rfl rfl rfl (by unfold maxLen; decide)) hI
theorem run15 (A : Option Addr) (n c : Nat) (W : World) : (execOp (rhoS (.slice A n c)) (OP 15)).run Try.prog W = .ok (.value (.agg #[.int .i64 92, .slice A n c])) W := by kernel_rfl
theorem ops15 : (OP 15).op = .build 42 #[(0, .const (.int .i64 92)), (1, .tmp 15)] := by kernel_rfl
theorem af15 : (OP 15).after.toList.any (fun e => e.on == 14 && Region.binds .any e) = true := by kernel_rfl
theorem st15 (hn : listed.getD 15 true = false) (ho : RG[15]? = some o) (hl : ∀ e ∈ o.after, Region.binds .any e = true → listed.getD e.on false = true) (hI : Inv w0 listed a W) : wpOp Try.prog RG Q 15 (Inv w0 (listed.setIfInBounds 15 true)) a W := by
  obtain rfl := op_eq ho
  have hd := dep af15 hl
  obtain ⟨m, hm, _⟩ := hI.rest
  obtain ⟨v, hv, hok⟩ := hm 14 15 (2, [0, 4, 0, 4, 2, 0, 6, 1, 0, 7, 1, 0, 8, 1, 0, 9, 1, 0, 10, 1, 0, 11, 1, 0, 12, 4, 0, 16, 4, 1, 20, 1, 0, 21, 1, 0]) rfl hd
  have hR : Kd.R k49 49 W w0.heap.size (fun _ => True) v (flds [0, 4, 0, 4, 2, 0, 6, 1, 0, 7, 1, 0, 8, 1, 0, 9, 1, 0, 10, 1, 0, 11, 1, 0, 12, 4, 0, 16, 4, 1, 20, 1, 0, 21, 1, 0]) := by
    unfold AVok at hok
    rwa [if_neg (show ¬ (2 : Nat) ≤ 1 by decide), if_pos rfl] at hok
  obtain ⟨A, c, rfl⟩ := Kd.R_slice hR
  have hrun := run15 A (flds [0, 4, 0, 4, 2, 0, 6, 1, 0, 7, 1, 0, 8, 1, 0, 9, 1, 0, 10, 1, 0, 11, 1, 0, 12, 4, 0, 16, 4, 1, 20, 1, 0, 21, 1, 0]).length c W
  rw [← execOp_congr (ρ := a.eval) (OP 15) (fun cs b h => by rw [ops15] at h; cases h) (fun x hx => by
    rw [ops15] at hx
    simp [Op.operands] at hx
    rcases hx with rfl | rfl
    · rfl
    · simp [Act.eval, Array.getD_eq_getD_getElem?, hv, rhoS])] at hrun
  exact step_val (by decide) hn ho (s := (3, [92, 0, 4, 0, 4, 2, 0, 6, 1, 0, 7, 1, 0, 8, 1, 0, 9, 1, 0, 10, 1, 0, 11, 1, 0, 12, 4, 0, 16, 4, 1, 20, 1, 0, 21, 1, 0])) rfl hrun (Below.refl _ _) (by unfold AVok; rw [if_neg (show ¬ (3 : Nat) ≤ 1 by decide), if_neg (show ¬ (3 : Nat) = 2 by decide), if_pos rfl]; exact ⟨_, rfl, hR⟩) hI
theorem ops16 : (OP 16).op = .insert 44 (.tmp 1) (.tmp 2) (.tmp 16) := by kernel_rfl
theorem dst16 : (OP 16).dst = none := by kernel_rfl
theorem af16_0 : (OP 16).after.toList.any (fun e => e.on == 0 && Region.binds .any e) = true := by kernel_rfl
theorem af16_1 : (OP 16).after.toList.any (fun e => e.on == 1 && Region.binds .any e) = true := by kernel_rfl
theorem af16_15 : (OP 16).after.toList.any (fun e => e.on == 15 && Region.binds .any e) = true := by kernel_rfl
theorem st16 (hn : listed.getD 16 true = false) (ho : RG[16]? = some o) (hl : ∀ e ∈ o.after, Region.binds .any e = true → listed.getD e.on false = true) (hI : Inv w0 listed a W) : wpOp Try.prog RG Q 16 (Inv w0 (listed.setIfInBounds 16 true)) a W := by
  obtain rfl := op_eq ho
  exact step_ins (r := ([1, 7], [92, 0, 4, 0, 4, 2, 0, 6, 1, 0, 7, 1, 0, 8, 1, 0, 9, 1, 0, 10, 1, 0, 11, 1, 0, 12, 4, 0, 16, 4, 1, 20, 1, 0, 21, 1, 0])) (j1 := 1) (j2 := 15) rfl rfl hn ho dst16 ops16 (dep af16_0 hl) rfl (dep af16_1 hl) rfl (dep af16_15 hl) hI
theorem run17 (a : Act) (W : World) : (execOp a.eval (OP 17)).run Try.prog W = .ok (.value (lit (0, [1, 32]))) W := by kernel_rfl
theorem st17 (hn : listed.getD 17 true = false) (ho : RG[17]? = some o) (hl : ∀ e ∈ o.after, Region.binds .any e = true → listed.getD e.on false = true) (hI : Inv w0 listed a W) : wpOp Try.prog RG Q 17 (Inv w0 (listed.setIfInBounds 17 true)) a W := by
  obtain rfl := op_eq ho
  exact step_val (by decide) hn ho (s := (0, [1, 32])) rfl (run17 a W) (Below.refl _ _) (av_lit (by decide)) hI
theorem run18 (a : Act) (W : World) : (execOp a.eval (OP 18)).run Try.prog W = .ok (.value (lit (1, [0, 4, 0]))) W := by kernel_rfl
theorem st18 (hn : listed.getD 18 true = false) (ho : RG[18]? = some o) (hl : ∀ e ∈ o.after, Region.binds .any e = true → listed.getD e.on false = true) (hI : Inv w0 listed a W) : wpOp Try.prog RG Q 18 (Inv w0 (listed.setIfInBounds 18 true)) a W := by
  obtain rfl := op_eq ho
  exact step_val (by decide) hn ho (s := (1, [0, 4, 0])) rfl (run18 a W) (Below.refl _ _) (av_lit (by decide)) hI
theorem run19 (a : Act) (W : World) : (execOp a.eval (OP 19)).run Try.prog W = .ok (.value (lit (1, [4, 4, 1]))) W := by kernel_rfl
theorem st19 (hn : listed.getD 19 true = false) (ho : RG[19]? = some o) (hl : ∀ e ∈ o.after, Region.binds .any e = true → listed.getD e.on false = true) (hI : Inv w0 listed a W) : wpOp Try.prog RG Q 19 (Inv w0 (listed.setIfInBounds 19 true)) a W := by
  obtain rfl := op_eq ho
  exact step_val (by decide) hn ho (s := (1, [4, 4, 1])) rfl (run19 a W) (Below.refl _ _) (av_lit (by decide)) hI
theorem run20 (a : Act) (W : World) : (execOp a.eval (OP 20)).run Try.prog W = .ok (.value (lit (1, [8, 2, 0]))) W := by kernel_rfl
theorem st20 (hn : listed.getD 20 true = false) (ho : RG[20]? = some o) (hl : ∀ e ∈ o.after, Region.binds .any e = true → listed.getD e.on false = true) (hI : Inv w0 listed a W) : wpOp Try.prog RG Q 20 (Inv w0 (listed.setIfInBounds 20 true)) a W := by
  obtain rfl := op_eq ho
  exact step_val (by decide) hn ho (s := (1, [8, 2, 0])) rfl (run20 a W) (Below.refl _ _) (av_lit (by decide)) hI
theorem run21 (a : Act) (W : World) : (execOp a.eval (OP 21)).run Try.prog W = .ok (.value (lit (1, [10, 1, 1]))) W := by kernel_rfl
theorem st21 (hn : listed.getD 21 true = false) (ho : RG[21]? = some o) (hl : ∀ e ∈ o.after, Region.binds .any e = true → listed.getD e.on false = true) (hI : Inv w0 listed a W) : wpOp Try.prog RG Q 21 (Inv w0 (listed.setIfInBounds 21 true)) a W := by
  obtain rfl := op_eq ho
  exact step_val (by decide) hn ho (s := (1, [10, 1, 1])) rfl (run21 a W) (Below.refl _ _) (av_lit (by decide)) hI
theorem run22 (a : Act) (W : World) : (execOp a.eval (OP 22)).run Try.prog W = .ok (.value (lit (1, [11, 1, 0]))) W := by kernel_rfl
theorem st22 (hn : listed.getD 22 true = false) (ho : RG[22]? = some o) (hl : ∀ e ∈ o.after, Region.binds .any e = true → listed.getD e.on false = true) (hI : Inv w0 listed a W) : wpOp Try.prog RG Q 22 (Inv w0 (listed.setIfInBounds 22 true)) a W := by
  obtain rfl := op_eq ho
  exact step_val (by decide) hn ho (s := (1, [11, 1, 0])) rfl (run22 a W) (Below.refl _ _) (av_lit (by decide)) hI
theorem run23 (a : Act) (W : World) : (execOp a.eval (OP 23)).run Try.prog W = .ok (.value (lit (1, [12, 4, 0]))) W := by kernel_rfl
theorem st23 (hn : listed.getD 23 true = false) (ho : RG[23]? = some o) (hl : ∀ e ∈ o.after, Region.binds .any e = true → listed.getD e.on false = true) (hI : Inv w0 listed a W) : wpOp Try.prog RG Q 23 (Inv w0 (listed.setIfInBounds 23 true)) a W := by
  obtain rfl := op_eq ho
  exact step_val (by decide) hn ho (s := (1, [12, 4, 0])) rfl (run23 a W) (Below.refl _ _) (av_lit (by decide)) hI
theorem rd24 : rowReady (OP 24) = true := by kernel_rfl
theorem run24 (W : World) : (execOp rhoL (OP 24)).run Try.prog W = .ok (.value (.slice (some ⟨W.heap.size, 0, none⟩) 6 6)) (W.alloc (.cells #[.int .i64 0, .int .i64 4, .bool false, .int .i64 4, .int .i64 4, .bool true, .int .i64 8, .int .i64 2, .bool false, .int .i64 10, .int .i64 1, .bool true, .int .i64 11, .int .i64 1, .bool false, .int .i64 12, .int .i64 4, .bool false] 49)) := by kernel_rfl
theorem ns24 : ∀ cs b, (OP 24).op ≠ .select cs b := by
  intro cs b h
  have e : (match (OP 24).op with | .select _ _ => false | _ => true) = true := by kernel_rfl
  rw [h] at e
  simp at e
theorem st24 (hn : listed.getD 24 true = false) (ho : RG[24]? = some o) (hl : ∀ e ∈ o.after, Region.binds .any e = true → listed.getD e.on false = true) (hI : Inv w0 listed a W) : wpOp Try.prog RG Q 24 (Inv w0 (listed.setIfInBounds 24 true)) a W := by
  obtain rfl := op_eq ho
  have hrun := run24 W
  rw [← execOp_congr (OP 24) ns24 (row_eval rd24 hl hI)] at hrun
  exact step_val (by decide) hn ho (s := (2, [0, 4, 0, 4, 4, 1, 8, 2, 0, 10, 1, 1, 11, 1, 0, 12, 4, 0])) rfl hrun (below_alloc (Below.refl _ _) _) (av_row hI.below.size rfl rfl rfl (by unfold maxLen; decide)) hI
theorem run25 (A : Option Addr) (n c : Nat) (W : World) : (execOp (rhoS (.slice A n c)) (OP 25)).run Try.prog W = .ok (.value (.agg #[.int .i64 16, .slice A n c])) W := by kernel_rfl
theorem ops25 : (OP 25).op = .build 42 #[(0, .const (.int .i64 16)), (1, .tmp 24)] := by kernel_rfl
theorem af25 : (OP 25).after.toList.any (fun e => e.on == 24 && Region.binds .any e) = true := by kernel_rfl
theorem st25 (hn : listed.getD 25 true = false) (ho : RG[25]? = some o) (hl : ∀ e ∈ o.after, Region.binds .any e = true → listed.getD e.on false = true) (hI : Inv w0 listed a W) : wpOp Try.prog RG Q 25 (Inv w0 (listed.setIfInBounds 25 true)) a W := by
  obtain rfl := op_eq ho
  have hd := dep af25 hl
  obtain ⟨m, hm, _⟩ := hI.rest
  obtain ⟨v, hv, hok⟩ := hm 24 24 (2, [0, 4, 0, 4, 4, 1, 8, 2, 0, 10, 1, 1, 11, 1, 0, 12, 4, 0]) rfl hd
  have hR : Kd.R k49 49 W w0.heap.size (fun _ => True) v (flds [0, 4, 0, 4, 4, 1, 8, 2, 0, 10, 1, 1, 11, 1, 0, 12, 4, 0]) := by
    unfold AVok at hok
    rwa [if_neg (show ¬ (2 : Nat) ≤ 1 by decide), if_pos rfl] at hok
  obtain ⟨A, c, rfl⟩ := Kd.R_slice hR
  have hrun := run25 A (flds [0, 4, 0, 4, 4, 1, 8, 2, 0, 10, 1, 1, 11, 1, 0, 12, 4, 0]).length c W
  rw [← execOp_congr (ρ := a.eval) (OP 25) (fun cs b h => by rw [ops25] at h; cases h) (fun x hx => by
    rw [ops25] at hx
    simp [Op.operands] at hx
    rcases hx with rfl | rfl
    · rfl
    · simp [Act.eval, Array.getD_eq_getD_getElem?, hv, rhoS])] at hrun
  exact step_val (by decide) hn ho (s := (3, [16, 0, 4, 0, 4, 4, 1, 8, 2, 0, 10, 1, 1, 11, 1, 0, 12, 4, 0])) rfl hrun (Below.refl _ _) (by unfold AVok; rw [if_neg (show ¬ (3 : Nat) ≤ 1 by decide), if_neg (show ¬ (3 : Nat) = 2 by decide), if_pos rfl]; exact ⟨_, rfl, hR⟩) hI
theorem ops26 : (OP 26).op = .insert 44 (.tmp 1) (.tmp 17) (.tmp 25) := by kernel_rfl
theorem dst26 : (OP 26).dst = none := by kernel_rfl
theorem af26_0 : (OP 26).after.toList.any (fun e => e.on == 0 && Region.binds .any e) = true := by kernel_rfl
theorem af26_17 : (OP 26).after.toList.any (fun e => e.on == 17 && Region.binds .any e) = true := by kernel_rfl
theorem af26_25 : (OP 26).after.toList.any (fun e => e.on == 25 && Region.binds .any e) = true := by kernel_rfl
theorem st26 (hn : listed.getD 26 true = false) (ho : RG[26]? = some o) (hl : ∀ e ∈ o.after, Region.binds .any e = true → listed.getD e.on false = true) (hI : Inv w0 listed a W) : wpOp Try.prog RG Q 26 (Inv w0 (listed.setIfInBounds 26 true)) a W := by
  obtain rfl := op_eq ho
  exact step_ins (r := ([1, 32], [16, 0, 4, 0, 4, 4, 1, 8, 2, 0, 10, 1, 1, 11, 1, 0, 12, 4, 0])) (j1 := 17) (j2 := 25) rfl rfl hn ho dst26 ops26 (dep af26_0 hl) rfl (dep af26_17 hl) rfl (dep af26_25 hl) hI
theorem run27 (a : Act) (W : World) : (execOp a.eval (OP 27)).run Try.prog W = .ok (.value (lit (0, [1, 33]))) W := by kernel_rfl
theorem st27 (hn : listed.getD 27 true = false) (ho : RG[27]? = some o) (hl : ∀ e ∈ o.after, Region.binds .any e = true → listed.getD e.on false = true) (hI : Inv w0 listed a W) : wpOp Try.prog RG Q 27 (Inv w0 (listed.setIfInBounds 27 true)) a W := by
  obtain rfl := op_eq ho
  exact step_val (by decide) hn ho (s := (0, [1, 33])) rfl (run27 a W) (Below.refl _ _) (av_lit (by decide)) hI
theorem run28 (a : Act) (W : World) : (execOp a.eval (OP 28)).run Try.prog W = .ok (.value (lit (1, [0, 4, 0]))) W := by kernel_rfl
theorem st28 (hn : listed.getD 28 true = false) (ho : RG[28]? = some o) (hl : ∀ e ∈ o.after, Region.binds .any e = true → listed.getD e.on false = true) (hI : Inv w0 listed a W) : wpOp Try.prog RG Q 28 (Inv w0 (listed.setIfInBounds 28 true)) a W := by
  obtain rfl := op_eq ho
  exact step_val (by decide) hn ho (s := (1, [0, 4, 0])) rfl (run28 a W) (Below.refl _ _) (av_lit (by decide)) hI
theorem run29 (a : Act) (W : World) : (execOp a.eval (OP 29)).run Try.prog W = .ok (.value (lit (1, [4, 4, 0]))) W := by kernel_rfl
theorem st29 (hn : listed.getD 29 true = false) (ho : RG[29]? = some o) (hl : ∀ e ∈ o.after, Region.binds .any e = true → listed.getD e.on false = true) (hI : Inv w0 listed a W) : wpOp Try.prog RG Q 29 (Inv w0 (listed.setIfInBounds 29 true)) a W := by
  obtain rfl := op_eq ho
  exact step_val (by decide) hn ho (s := (1, [4, 4, 0])) rfl (run29 a W) (Below.refl _ _) (av_lit (by decide)) hI
theorem run30 (a : Act) (W : World) : (execOp a.eval (OP 30)).run Try.prog W = .ok (.value (lit (1, [8, 4, 1]))) W := by kernel_rfl
theorem st30 (hn : listed.getD 30 true = false) (ho : RG[30]? = some o) (hl : ∀ e ∈ o.after, Region.binds .any e = true → listed.getD e.on false = true) (hI : Inv w0 listed a W) : wpOp Try.prog RG Q 30 (Inv w0 (listed.setIfInBounds 30 true)) a W := by
  obtain rfl := op_eq ho
  exact step_val (by decide) hn ho (s := (1, [8, 4, 1])) rfl (run30 a W) (Below.refl _ _) (av_lit (by decide)) hI
theorem run31 (a : Act) (W : World) : (execOp a.eval (OP 31)).run Try.prog W = .ok (.value (lit (1, [12, 2, 0]))) W := by kernel_rfl
theorem st31 (hn : listed.getD 31 true = false) (ho : RG[31]? = some o) (hl : ∀ e ∈ o.after, Region.binds .any e = true → listed.getD e.on false = true) (hI : Inv w0 listed a W) : wpOp Try.prog RG Q 31 (Inv w0 (listed.setIfInBounds 31 true)) a W := by
  obtain rfl := op_eq ho
  exact step_val (by decide) hn ho (s := (1, [12, 2, 0])) rfl (run31 a W) (Below.refl _ _) (av_lit (by decide)) hI
theorem run32 (a : Act) (W : World) : (execOp a.eval (OP 32)).run Try.prog W = .ok (.value (lit (1, [14, 1, 0]))) W := by kernel_rfl
theorem st32 (hn : listed.getD 32 true = false) (ho : RG[32]? = some o) (hl : ∀ e ∈ o.after, Region.binds .any e = true → listed.getD e.on false = true) (hI : Inv w0 listed a W) : wpOp Try.prog RG Q 32 (Inv w0 (listed.setIfInBounds 32 true)) a W := by
  obtain rfl := op_eq ho
  exact step_val (by decide) hn ho (s := (1, [14, 1, 0])) rfl (run32 a W) (Below.refl _ _) (av_lit (by decide)) hI
theorem run33 (a : Act) (W : World) : (execOp a.eval (OP 33)).run Try.prog W = .ok (.value (lit (1, [15, 1, 0]))) W := by kernel_rfl
theorem st33 (hn : listed.getD 33 true = false) (ho : RG[33]? = some o) (hl : ∀ e ∈ o.after, Region.binds .any e = true → listed.getD e.on false = true) (hI : Inv w0 listed a W) : wpOp Try.prog RG Q 33 (Inv w0 (listed.setIfInBounds 33 true)) a W := by
  obtain rfl := op_eq ho
  exact step_val (by decide) hn ho (s := (1, [15, 1, 0])) rfl (run33 a W) (Below.refl _ _) (av_lit (by decide)) hI
theorem run34 (a : Act) (W : World) : (execOp a.eval (OP 34)).run Try.prog W = .ok (.value (lit (1, [16, 1, 0]))) W := by kernel_rfl
theorem st34 (hn : listed.getD 34 true = false) (ho : RG[34]? = some o) (hl : ∀ e ∈ o.after, Region.binds .any e = true → listed.getD e.on false = true) (hI : Inv w0 listed a W) : wpOp Try.prog RG Q 34 (Inv w0 (listed.setIfInBounds 34 true)) a W := by
  obtain rfl := op_eq ho
  exact step_val (by decide) hn ho (s := (1, [16, 1, 0])) rfl (run34 a W) (Below.refl _ _) (av_lit (by decide)) hI
theorem run35 (a : Act) (W : World) : (execOp a.eval (OP 35)).run Try.prog W = .ok (.value (lit (1, [17, 1, 0]))) W := by kernel_rfl
theorem st35 (hn : listed.getD 35 true = false) (ho : RG[35]? = some o) (hl : ∀ e ∈ o.after, Region.binds .any e = true → listed.getD e.on false = true) (hI : Inv w0 listed a W) : wpOp Try.prog RG Q 35 (Inv w0 (listed.setIfInBounds 35 true)) a W := by
  obtain rfl := op_eq ho
  exact step_val (by decide) hn ho (s := (1, [17, 1, 0])) rfl (run35 a W) (Below.refl _ _) (av_lit (by decide)) hI
theorem run36 (a : Act) (W : World) : (execOp a.eval (OP 36)).run Try.prog W = .ok (.value (lit (1, [18, 1, 0]))) W := by kernel_rfl
theorem st36 (hn : listed.getD 36 true = false) (ho : RG[36]? = some o) (hl : ∀ e ∈ o.after, Region.binds .any e = true → listed.getD e.on false = true) (hI : Inv w0 listed a W) : wpOp Try.prog RG Q 36 (Inv w0 (listed.setIfInBounds 36 true)) a W := by
  obtain rfl := op_eq ho
  exact step_val (by decide) hn ho (s := (1, [18, 1, 0])) rfl (run36 a W) (Below.refl _ _) (av_lit (by decide)) hI
theorem run37 (a : Act) (W : World) : (execOp a.eval (OP 37)).run Try.prog W = .ok (.value (lit (1, [19, 1, 0]))) W := by kernel_rfl
theorem st37 (hn : listed.getD 37 true = false) (ho : RG[37]? = some o) (hl : ∀ e ∈ o.after, Region.binds .any e = true → listed.getD e.on false = true) (hI : Inv w0 listed a W) : wpOp Try.prog RG Q 37 (Inv w0 (listed.setIfInBounds 37 true)) a W := by
  obtain rfl := op_eq ho
  exact step_val (by decide) hn ho (s := (1, [19, 1, 0])) rfl (run37 a W) (Below.refl _ _) (av_lit (by decide)) hI
theorem rd38 : rowReady (OP 38) = true := by kernel_rfl
theorem run38 (W : World) : (execOp rhoL (OP 38)).run Try.prog W = .ok (.value (.slice (some ⟨W.heap.size, 0, none⟩) 10 10)) (W.alloc (.cells #[.int .i64 0, .int .i64 4, .bool false, .int .i64 4, .int .i64 4, .bool false, .int .i64 8, .int .i64 4, .bool true, .int .i64 12, .int .i64 2, .bool false, .int .i64 14, .int .i64 1, .bool false, .int .i64 15, .int .i64 1, .bool false, .int .i64 16, .int .i64 1, .bool false, .int .i64 17, .int .i64 1, .bool false, .int .i64 18, .int .i64 1, .bool false, .int .i64 19, .int .i64 1, .bool false] 49)) := by kernel_rfl
theorem ns38 : ∀ cs b, (OP 38).op ≠ .select cs b := by
  intro cs b h
  have e : (match (OP 38).op with | .select _ _ => false | _ => true) = true := by kernel_rfl
  rw [h] at e
  simp at e
theorem st38 (hn : listed.getD 38 true = false) (ho : RG[38]? = some o) (hl : ∀ e ∈ o.after, Region.binds .any e = true → listed.getD e.on false = true) (hI : Inv w0 listed a W) : wpOp Try.prog RG Q 38 (Inv w0 (listed.setIfInBounds 38 true)) a W := by
  obtain rfl := op_eq ho
  have hrun := run38 W
  rw [← execOp_congr (OP 38) ns38 (row_eval rd38 hl hI)] at hrun
  exact step_val (by decide) hn ho (s := (2, [0, 4, 0, 4, 4, 0, 8, 4, 1, 12, 2, 0, 14, 1, 0, 15, 1, 0, 16, 1, 0, 17, 1, 0, 18, 1, 0, 19, 1, 0])) rfl hrun (below_alloc (Below.refl _ _) _) (av_row hI.below.size rfl rfl rfl (by unfold maxLen; decide)) hI
theorem run39 (A : Option Addr) (n c : Nat) (W : World) : (execOp (rhoS (.slice A n c)) (OP 39)).run Try.prog W = .ok (.value (.agg #[.int .i64 20, .slice A n c])) W := by kernel_rfl
theorem ops39 : (OP 39).op = .build 42 #[(0, .const (.int .i64 20)), (1, .tmp 37)] := by kernel_rfl
theorem af39 : (OP 39).after.toList.any (fun e => e.on == 38 && Region.binds .any e) = true := by kernel_rfl
theorem st39 (hn : listed.getD 39 true = false) (ho : RG[39]? = some o) (hl : ∀ e ∈ o.after, Region.binds .any e = true → listed.getD e.on false = true) (hI : Inv w0 listed a W) : wpOp Try.prog RG Q 39 (Inv w0 (listed.setIfInBounds 39 true)) a W := by
  obtain rfl := op_eq ho
  have hd := dep af39 hl
  obtain ⟨m, hm, _⟩ := hI.rest
  obtain ⟨v, hv, hok⟩ := hm 38 37 (2, [0, 4, 0, 4, 4, 0, 8, 4, 1, 12, 2, 0, 14, 1, 0, 15, 1, 0, 16, 1, 0, 17, 1, 0, 18, 1, 0, 19, 1, 0]) rfl hd
  have hR : Kd.R k49 49 W w0.heap.size (fun _ => True) v (flds [0, 4, 0, 4, 4, 0, 8, 4, 1, 12, 2, 0, 14, 1, 0, 15, 1, 0, 16, 1, 0, 17, 1, 0, 18, 1, 0, 19, 1, 0]) := by
    unfold AVok at hok
    rwa [if_neg (show ¬ (2 : Nat) ≤ 1 by decide), if_pos rfl] at hok
  obtain ⟨A, c, rfl⟩ := Kd.R_slice hR
  have hrun := run39 A (flds [0, 4, 0, 4, 4, 0, 8, 4, 1, 12, 2, 0, 14, 1, 0, 15, 1, 0, 16, 1, 0, 17, 1, 0, 18, 1, 0, 19, 1, 0]).length c W
  rw [← execOp_congr (ρ := a.eval) (OP 39) (fun cs b h => by rw [ops39] at h; cases h) (fun x hx => by
    rw [ops39] at hx
    simp [Op.operands] at hx
    rcases hx with rfl | rfl
    · rfl
    · simp [Act.eval, Array.getD_eq_getD_getElem?, hv, rhoS])] at hrun
  exact step_val (by decide) hn ho (s := (3, [20, 0, 4, 0, 4, 4, 0, 8, 4, 1, 12, 2, 0, 14, 1, 0, 15, 1, 0, 16, 1, 0, 17, 1, 0, 18, 1, 0, 19, 1, 0])) rfl hrun (Below.refl _ _) (by unfold AVok; rw [if_neg (show ¬ (3 : Nat) ≤ 1 by decide), if_neg (show ¬ (3 : Nat) = 2 by decide), if_pos rfl]; exact ⟨_, rfl, hR⟩) hI
theorem ops40 : (OP 40).op = .insert 44 (.tmp 1) (.tmp 26) (.tmp 38) := by kernel_rfl
theorem dst40 : (OP 40).dst = none := by kernel_rfl
theorem af40_0 : (OP 40).after.toList.any (fun e => e.on == 0 && Region.binds .any e) = true := by kernel_rfl
theorem af40_27 : (OP 40).after.toList.any (fun e => e.on == 27 && Region.binds .any e) = true := by kernel_rfl
theorem af40_39 : (OP 40).after.toList.any (fun e => e.on == 39 && Region.binds .any e) = true := by kernel_rfl
theorem st40 (hn : listed.getD 40 true = false) (ho : RG[40]? = some o) (hl : ∀ e ∈ o.after, Region.binds .any e = true → listed.getD e.on false = true) (hI : Inv w0 listed a W) : wpOp Try.prog RG Q 40 (Inv w0 (listed.setIfInBounds 40 true)) a W := by
  obtain rfl := op_eq ho
  exact step_ins (r := ([1, 33], [20, 0, 4, 0, 4, 4, 0, 8, 4, 1, 12, 2, 0, 14, 1, 0, 15, 1, 0, 16, 1, 0, 17, 1, 0, 18, 1, 0, 19, 1, 0])) (j1 := 27) (j2 := 39) rfl rfl hn ho dst40 ops40 (dep af40_0 hl) rfl (dep af40_27 hl) rfl (dep af40_39 hl) hI
theorem run41 (a : Act) (W : World) : (execOp a.eval (OP 41)).run Try.prog W = .ok (.value (lit (0, [1, 38]))) W := by kernel_rfl
theorem st41 (hn : listed.getD 41 true = false) (ho : RG[41]? = some o) (hl : ∀ e ∈ o.after, Region.binds .any e = true → listed.getD e.on false = true) (hI : Inv w0 listed a W) : wpOp Try.prog RG Q 41 (Inv w0 (listed.setIfInBounds 41 true)) a W := by
  obtain rfl := op_eq ho
  exact step_val (by decide) hn ho (s := (0, [1, 38])) rfl (run41 a W) (Below.refl _ _) (av_lit (by decide)) hI
theorem run42 (a : Act) (W : World) : (execOp a.eval (OP 42)).run Try.prog W = .ok (.value (lit (1, [0, 4, 0]))) W := by kernel_rfl
theorem st42 (hn : listed.getD 42 true = false) (ho : RG[42]? = some o) (hl : ∀ e ∈ o.after, Region.binds .any e = true → listed.getD e.on false = true) (hI : Inv w0 listed a W) : wpOp Try.prog RG Q 42 (Inv w0 (listed.setIfInBounds 42 true)) a W := by
  obtain rfl := op_eq ho
  exact step_val (by decide) hn ho (s := (1, [0, 4, 0])) rfl (run42 a W) (Below.refl _ _) (av_lit (by decide)) hI
theorem run43 (a : Act) (W : World) : (execOp a.eval (OP 43)).run Try.prog W = .ok (.value (lit (1, [4, 1, 0]))) W := by kernel_rfl
theorem st43 (hn : listed.getD 43 true = false) (ho : RG[43]? = some o) (hl : ∀ e ∈ o.after, Region.binds .any e = true → listed.getD e.on false = true) (hI : Inv w0 listed a W) : wpOp Try.prog RG Q 43 (Inv w0 (listed.setIfInBounds 43 true)) a W := by
  obtain rfl := op_eq ho
  exact step_val (by decide) hn ho (s := (1, [4, 1, 0])) rfl (run43 a W) (Below.refl _ _) (av_lit (by decide)) hI
theorem run44 (a : Act) (W : World) : (execOp a.eval (OP 44)).run Try.prog W = .ok (.value (lit (1, [8, 1, 0]))) W := by kernel_rfl
theorem st44 (hn : listed.getD 44 true = false) (ho : RG[44]? = some o) (hl : ∀ e ∈ o.after, Region.binds .any e = true → listed.getD e.on false = true) (hI : Inv w0 listed a W) : wpOp Try.prog RG Q 44 (Inv w0 (listed.setIfInBounds 44 true)) a W := by
  obtain rfl := op_eq ho
  exact step_val (by decide) hn ho (s := (1, [8, 1, 0])) rfl (run44 a W) (Below.refl _ _) (av_lit (by decide)) hI
theorem run45 (a : Act) (W : World) : (execOp a.eval (OP 45)).run Try.prog W = .ok (.value (lit (1, [9, 1, 1]))) W := by kernel_rfl
theorem st45 (hn : listed.getD 45 true = false) (ho : RG[45]? = some o) (hl : ∀ e ∈ o.after, Region.binds .any e = true → listed.getD e.on false = true) (hI : Inv w0 listed a W) : wpOp Try.prog RG Q 45 (Inv w0 (listed.setIfInBounds 45 true)) a W := by
  obtain rfl := op_eq ho
  exact step_val (by decide) hn ho (s := (1, [9, 1, 1])) rfl (run45 a W) (Below.refl _ _) (av_lit (by decide)) hI
theorem run46 (a : Act) (W : World) : (execOp a.eval (OP 46)).run Try.prog W = .ok (.value (lit (1, [10, 1, 0]))) W := by kernel_rfl
theorem st46 (hn : listed.getD 46 true = false) (ho : RG[46]? = some o) (hl : ∀ e ∈ o.after, Region.binds .any e = true → listed.getD e.on false = true) (hI : Inv w0 listed a W) : wpOp Try.prog RG Q 46 (Inv w0 (listed.setIfInBounds 46 true)) a W := by
  obtain rfl := op_eq ho
  exact step_val (by decide) hn ho (s := (1, [10, 1, 0])) rfl (run46 a W) (Below.refl _ _) (av_lit (by decide)) hI
theorem run47 (a : Act) (W : World) : (execOp a.eval (OP 47)).run Try.prog W = .ok (.value (lit (1, [11, 1, 1]))) W := by kernel_rfl
theorem st47 (hn : listed.getD 47 true = false) (ho : RG[47]? = some o) (hl : ∀ e ∈ o.after, Region.binds .any e = true → listed.getD e.on false = true) (hI : Inv w0 listed a W) : wpOp Try.prog RG Q 47 (Inv w0 (listed.setIfInBounds 47 true)) a W := by
  obtain rfl := op_eq ho
  exact step_val (by decide) hn ho (s := (1, [11, 1, 1])) rfl (run47 a W) (Below.refl _ _) (av_lit (by decide)) hI
theorem run48 (a : Act) (W : World) : (execOp a.eval (OP 48)).run Try.prog W = .ok (.value (lit (1, [12, 4, 1]))) W := by kernel_rfl
theorem st48 (hn : listed.getD 48 true = false) (ho : RG[48]? = some o) (hl : ∀ e ∈ o.after, Region.binds .any e = true → listed.getD e.on false = true) (hI : Inv w0 listed a W) : wpOp Try.prog RG Q 48 (Inv w0 (listed.setIfInBounds 48 true)) a W := by
  obtain rfl := op_eq ho
  exact step_val (by decide) hn ho (s := (1, [12, 4, 1])) rfl (run48 a W) (Below.refl _ _) (av_lit (by decide)) hI
theorem run49 (a : Act) (W : World) : (execOp a.eval (OP 49)).run Try.prog W = .ok (.value (lit (1, [16, 2, 0]))) W := by kernel_rfl
theorem st49 (hn : listed.getD 49 true = false) (ho : RG[49]? = some o) (hl : ∀ e ∈ o.after, Region.binds .any e = true → listed.getD e.on false = true) (hI : Inv w0 listed a W) : wpOp Try.prog RG Q 49 (Inv w0 (listed.setIfInBounds 49 true)) a W := by
  obtain rfl := op_eq ho
  exact step_val (by decide) hn ho (s := (1, [16, 2, 0])) rfl (run49 a W) (Below.refl _ _) (av_lit (by decide)) hI
theorem run50 (a : Act) (W : World) : (execOp a.eval (OP 50)).run Try.prog W = .ok (.value (lit (1, [18, 2, 0]))) W := by kernel_rfl
theorem st50 (hn : listed.getD 50 true = false) (ho : RG[50]? = some o) (hl : ∀ e ∈ o.after, Region.binds .any e = true → listed.getD e.on false = true) (hI : Inv w0 listed a W) : wpOp Try.prog RG Q 50 (Inv w0 (listed.setIfInBounds 50 true)) a W := by
  obtain rfl := op_eq ho
  exact step_val (by decide) hn ho (s := (1, [18, 2, 0])) rfl (run50 a W) (Below.refl _ _) (av_lit (by decide)) hI
theorem run51 (a : Act) (W : World) : (execOp a.eval (OP 51)).run Try.prog W = .ok (.value (lit (1, [23, 1, 0]))) W := by kernel_rfl
theorem st51 (hn : listed.getD 51 true = false) (ho : RG[51]? = some o) (hl : ∀ e ∈ o.after, Region.binds .any e = true → listed.getD e.on false = true) (hI : Inv w0 listed a W) : wpOp Try.prog RG Q 51 (Inv w0 (listed.setIfInBounds 51 true)) a W := by
  obtain rfl := op_eq ho
  exact step_val (by decide) hn ho (s := (1, [23, 1, 0])) rfl (run51 a W) (Below.refl _ _) (av_lit (by decide)) hI
theorem rd52 : rowReady (OP 52) = true := by kernel_rfl
theorem run52 (W : World) : (execOp rhoL (OP 52)).run Try.prog W = .ok (.value (.slice (some ⟨W.heap.size, 0, none⟩) 10 10)) (W.alloc (.cells #[.int .i64 0, .int .i64 4, .bool false, .int .i64 4, .int .i64 1, .bool false, .int .i64 8, .int .i64 1, .bool false, .int .i64 9, .int .i64 1, .bool true, .int .i64 10, .int .i64 1, .bool false, .int .i64 11, .int .i64 1, .bool true, .int .i64 12, .int .i64 4, .bool true, .int .i64 16, .int .i64 2, .bool false, .int .i64 18, .int .i64 2, .bool false, .int .i64 23, .int .i64 1, .bool false] 49)) := by kernel_rfl
theorem ns52 : ∀ cs b, (OP 52).op ≠ .select cs b := by
  intro cs b h
  have e : (match (OP 52).op with | .select _ _ => false | _ => true) = true := by kernel_rfl
  rw [h] at e
  simp at e
theorem st52 (hn : listed.getD 52 true = false) (ho : RG[52]? = some o) (hl : ∀ e ∈ o.after, Region.binds .any e = true → listed.getD e.on false = true) (hI : Inv w0 listed a W) : wpOp Try.prog RG Q 52 (Inv w0 (listed.setIfInBounds 52 true)) a W := by
  obtain rfl := op_eq ho
  have hrun := run52 W
  rw [← execOp_congr (OP 52) ns52 (row_eval rd52 hl hI)] at hrun
  exact step_val (by decide) hn ho (s := (2, [0, 4, 0, 4, 1, 0, 8, 1, 0, 9, 1, 1, 10, 1, 0, 11, 1, 1, 12, 4, 1, 16, 2, 0, 18, 2, 0, 23, 1, 0])) rfl hrun (below_alloc (Below.refl _ _) _) (av_row hI.below.size rfl rfl rfl (by unfold maxLen; decide)) hI
theorem run53 (A : Option Addr) (n c : Nat) (W : World) : (execOp (rhoS (.slice A n c)) (OP 53)).run Try.prog W = .ok (.value (.agg #[.int .i64 24, .slice A n c])) W := by kernel_rfl
theorem ops53 : (OP 53).op = .build 42 #[(0, .const (.int .i64 24)), (1, .tmp 50)] := by kernel_rfl
theorem af53 : (OP 53).after.toList.any (fun e => e.on == 52 && Region.binds .any e) = true := by kernel_rfl
theorem st53 (hn : listed.getD 53 true = false) (ho : RG[53]? = some o) (hl : ∀ e ∈ o.after, Region.binds .any e = true → listed.getD e.on false = true) (hI : Inv w0 listed a W) : wpOp Try.prog RG Q 53 (Inv w0 (listed.setIfInBounds 53 true)) a W := by
  obtain rfl := op_eq ho
  have hd := dep af53 hl
  obtain ⟨m, hm, _⟩ := hI.rest
  obtain ⟨v, hv, hok⟩ := hm 52 50 (2, [0, 4, 0, 4, 1, 0, 8, 1, 0, 9, 1, 1, 10, 1, 0, 11, 1, 1, 12, 4, 1, 16, 2, 0, 18, 2, 0, 23, 1, 0]) rfl hd
  have hR : Kd.R k49 49 W w0.heap.size (fun _ => True) v (flds [0, 4, 0, 4, 1, 0, 8, 1, 0, 9, 1, 1, 10, 1, 0, 11, 1, 1, 12, 4, 1, 16, 2, 0, 18, 2, 0, 23, 1, 0]) := by
    unfold AVok at hok
    rwa [if_neg (show ¬ (2 : Nat) ≤ 1 by decide), if_pos rfl] at hok
  obtain ⟨A, c, rfl⟩ := Kd.R_slice hR
  have hrun := run53 A (flds [0, 4, 0, 4, 1, 0, 8, 1, 0, 9, 1, 1, 10, 1, 0, 11, 1, 1, 12, 4, 1, 16, 2, 0, 18, 2, 0, 23, 1, 0]).length c W
  rw [← execOp_congr (ρ := a.eval) (OP 53) (fun cs b h => by rw [ops53] at h; cases h) (fun x hx => by
    rw [ops53] at hx
    simp [Op.operands] at hx
    rcases hx with rfl | rfl
    · rfl
    · simp [Act.eval, Array.getD_eq_getD_getElem?, hv, rhoS])] at hrun
  exact step_val (by decide) hn ho (s := (3, [24, 0, 4, 0, 4, 1, 0, 8, 1, 0, 9, 1, 1, 10, 1, 0, 11, 1, 1, 12, 4, 1, 16, 2, 0, 18, 2, 0, 23, 1, 0])) rfl hrun (Below.refl _ _) (by unfold AVok; rw [if_neg (show ¬ (3 : Nat) ≤ 1 by decide), if_neg (show ¬ (3 : Nat) = 2 by decide), if_pos rfl]; exact ⟨_, rfl, hR⟩) hI
theorem ops54 : (OP 54).op = .insert 44 (.tmp 1) (.tmp 39) (.tmp 51) := by kernel_rfl
theorem dst54 : (OP 54).dst = none := by kernel_rfl
theorem af54_0 : (OP 54).after.toList.any (fun e => e.on == 0 && Region.binds .any e) = true := by kernel_rfl
theorem af54_41 : (OP 54).after.toList.any (fun e => e.on == 41 && Region.binds .any e) = true := by kernel_rfl
theorem af54_53 : (OP 54).after.toList.any (fun e => e.on == 53 && Region.binds .any e) = true := by kernel_rfl
theorem st54 (hn : listed.getD 54 true = false) (ho : RG[54]? = some o) (hl : ∀ e ∈ o.after, Region.binds .any e = true → listed.getD e.on false = true) (hI : Inv w0 listed a W) : wpOp Try.prog RG Q 54 (Inv w0 (listed.setIfInBounds 54 true)) a W := by
  obtain rfl := op_eq ho
  exact step_ins (r := ([1, 38], [24, 0, 4, 0, 4, 1, 0, 8, 1, 0, 9, 1, 1, 10, 1, 0, 11, 1, 1, 12, 4, 1, 16, 2, 0, 18, 2, 0, 23, 1, 0])) (j1 := 41) (j2 := 53) rfl rfl hn ho dst54 ops54 (dep af54_0 hl) rfl (dep af54_41 hl) rfl (dep af54_53 hl) hI
theorem run55 (a : Act) (W : World) : (execOp a.eval (OP 55)).run Try.prog W = .ok (.value (lit (0, [13, 1]))) W := by kernel_rfl
theorem st55 (hn : listed.getD 55 true = false) (ho : RG[55]? = some o) (hl : ∀ e ∈ o.after, Region.binds .any e = true → listed.getD e.on false = true) (hI : Inv w0 listed a W) : wpOp Try.prog RG Q 55 (Inv w0 (listed.setIfInBounds 55 true)) a W := by
  obtain rfl := op_eq ho
  exact step_val (by decide) hn ho (s := (0, [13, 1])) rfl (run55 a W) (Below.refl _ _) (av_lit (by decide)) hI
theorem run56 (a : Act) (W : World) : (execOp a.eval (OP 56)).run Try.prog W = .ok (.value (lit (1, [0, 4, 0]))) W := by kernel_rfl
theorem st56 (hn : listed.getD 56 true = false) (ho : RG[56]? = some o) (hl : ∀ e ∈ o.after, Region.binds .any e = true → listed.getD e.on false = true) (hI : Inv w0 listed a W) : wpOp Try.prog RG Q 56 (Inv w0 (listed.setIfInBounds 56 true)) a W := by
  obtain rfl := op_eq ho
  exact step_val (by decide) hn ho (s := (1, [0, 4, 0])) rfl (run56 a W) (Below.refl _ _) (av_lit (by decide)) hI
theorem run57 (a : Act) (W : World) : (execOp a.eval (OP 57)).run Try.prog W = .ok (.value (lit (1, [4, 4, 0]))) W := by kernel_rfl
theorem st57 (hn : listed.getD 57 true = false) (ho : RG[57]? = some o) (hl : ∀ e ∈ o.after, Region.binds .any e = true → listed.getD e.on false = true) (hI : Inv w0 listed a W) : wpOp Try.prog RG Q 57 (Inv w0 (listed.setIfInBounds 57 true)) a W := by
  obtain rfl := op_eq ho
  exact step_val (by decide) hn ho (s := (1, [4, 4, 0])) rfl (run57 a W) (Below.refl _ _) (av_lit (by decide)) hI
theorem run58 (a : Act) (W : World) : (execOp a.eval (OP 58)).run Try.prog W = .ok (.value (lit (1, [8, 4, 1]))) W := by kernel_rfl
theorem st58 (hn : listed.getD 58 true = false) (ho : RG[58]? = some o) (hl : ∀ e ∈ o.after, Region.binds .any e = true → listed.getD e.on false = true) (hI : Inv w0 listed a W) : wpOp Try.prog RG Q 58 (Inv w0 (listed.setIfInBounds 58 true)) a W := by
  obtain rfl := op_eq ho
  exact step_val (by decide) hn ho (s := (1, [8, 4, 1])) rfl (run58 a W) (Below.refl _ _) (av_lit (by decide)) hI
theorem run59 (a : Act) (W : World) : (execOp a.eval (OP 59)).run Try.prog W = .ok (.value (lit (1, [12, 2, 0]))) W := by kernel_rfl
theorem st59 (hn : listed.getD 59 true = false) (ho : RG[59]? = some o) (hl : ∀ e ∈ o.after, Region.binds .any e = true → listed.getD e.on false = true) (hI : Inv w0 listed a W) : wpOp Try.prog RG Q 59 (Inv w0 (listed.setIfInBounds 59 true)) a W := by
  obtain rfl := op_eq ho
  exact step_val (by decide) hn ho (s := (1, [12, 2, 0])) rfl (run59 a W) (Below.refl _ _) (av_lit (by decide)) hI
theorem run60 (a : Act) (W : World) : (execOp a.eval (OP 60)).run Try.prog W = .ok (.value (lit (1, [14, 1, 0]))) W := by kernel_rfl
theorem st60 (hn : listed.getD 60 true = false) (ho : RG[60]? = some o) (hl : ∀ e ∈ o.after, Region.binds .any e = true → listed.getD e.on false = true) (hI : Inv w0 listed a W) : wpOp Try.prog RG Q 60 (Inv w0 (listed.setIfInBounds 60 true)) a W := by
  obtain rfl := op_eq ho
  exact step_val (by decide) hn ho (s := (1, [14, 1, 0])) rfl (run60 a W) (Below.refl _ _) (av_lit (by decide)) hI
theorem run61 (a : Act) (W : World) : (execOp a.eval (OP 61)).run Try.prog W = .ok (.value (lit (1, [15, 1, 0]))) W := by kernel_rfl
theorem st61 (hn : listed.getD 61 true = false) (ho : RG[61]? = some o) (hl : ∀ e ∈ o.after, Region.binds .any e = true → listed.getD e.on false = true) (hI : Inv w0 listed a W) : wpOp Try.prog RG Q 61 (Inv w0 (listed.setIfInBounds 61 true)) a W := by
  obtain rfl := op_eq ho
  exact step_val (by decide) hn ho (s := (1, [15, 1, 0])) rfl (run61 a W) (Below.refl _ _) (av_lit (by decide)) hI
theorem rd62 : rowReady (OP 62) = true := by kernel_rfl
theorem run62 (W : World) : (execOp rhoL (OP 62)).run Try.prog W = .ok (.value (.slice (some ⟨W.heap.size, 0, none⟩) 6 6)) (W.alloc (.cells #[.int .i64 0, .int .i64 4, .bool false, .int .i64 4, .int .i64 4, .bool false, .int .i64 8, .int .i64 4, .bool true, .int .i64 12, .int .i64 2, .bool false, .int .i64 14, .int .i64 1, .bool false, .int .i64 15, .int .i64 1, .bool false] 49)) := by kernel_rfl
theorem ns62 : ∀ cs b, (OP 62).op ≠ .select cs b := by
  intro cs b h
  have e : (match (OP 62).op with | .select _ _ => false | _ => true) = true := by kernel_rfl
  rw [h] at e
  simp at e
theorem st62 (hn : listed.getD 62 true = false) (ho : RG[62]? = some o) (hl : ∀ e ∈ o.after, Region.binds .any e = true → listed.getD e.on false = true) (hI : Inv w0 listed a W) : wpOp Try.prog RG Q 62 (Inv w0 (listed.setIfInBounds 62 true)) a W := by
  obtain rfl := op_eq ho
  have hrun := run62 W
  rw [← execOp_congr (OP 62) ns62 (row_eval rd62 hl hI)] at hrun
  exact step_val (by decide) hn ho (s := (2, [0, 4, 0, 4, 4, 0, 8, 4, 1, 12, 2, 0, 14, 1, 0, 15, 1, 0])) rfl hrun (below_alloc (Below.refl _ _) _) (av_row hI.below.size rfl rfl rfl (by unfold maxLen; decide)) hI
theorem run63 (A : Option Addr) (n c : Nat) (W : World) : (execOp (rhoS (.slice A n c)) (OP 63)).run Try.prog W = .ok (.value (.agg #[.int .i64 16, .slice A n c])) W := by kernel_rfl
theorem ops63 : (OP 63).op = .build 42 #[(0, .const (.int .i64 16)), (1, .tmp 59)] := by kernel_rfl
theorem af63 : (OP 63).after.toList.any (fun e => e.on == 62 && Region.binds .any e) = true := by kernel_rfl
theorem st63 (hn : listed.getD 63 true = false) (ho : RG[63]? = some o) (hl : ∀ e ∈ o.after, Region.binds .any e = true → listed.getD e.on false = true) (hI : Inv w0 listed a W) : wpOp Try.prog RG Q 63 (Inv w0 (listed.setIfInBounds 63 true)) a W := by
  obtain rfl := op_eq ho
  have hd := dep af63 hl
  obtain ⟨m, hm, _⟩ := hI.rest
  obtain ⟨v, hv, hok⟩ := hm 62 59 (2, [0, 4, 0, 4, 4, 0, 8, 4, 1, 12, 2, 0, 14, 1, 0, 15, 1, 0]) rfl hd
  have hR : Kd.R k49 49 W w0.heap.size (fun _ => True) v (flds [0, 4, 0, 4, 4, 0, 8, 4, 1, 12, 2, 0, 14, 1, 0, 15, 1, 0]) := by
    unfold AVok at hok
    rwa [if_neg (show ¬ (2 : Nat) ≤ 1 by decide), if_pos rfl] at hok
  obtain ⟨A, c, rfl⟩ := Kd.R_slice hR
  have hrun := run63 A (flds [0, 4, 0, 4, 4, 0, 8, 4, 1, 12, 2, 0, 14, 1, 0, 15, 1, 0]).length c W
  rw [← execOp_congr (ρ := a.eval) (OP 63) (fun cs b h => by rw [ops63] at h; cases h) (fun x hx => by
    rw [ops63] at hx
    simp [Op.operands] at hx
    rcases hx with rfl | rfl
    · rfl
    · simp [Act.eval, Array.getD_eq_getD_getElem?, hv, rhoS])] at hrun
  exact step_val (by decide) hn ho (s := (3, [16, 0, 4, 0, 4, 4, 0, 8, 4, 1, 12, 2, 0, 14, 1, 0, 15, 1, 0])) rfl hrun (Below.refl _ _) (by unfold AVok; rw [if_neg (show ¬ (3 : Nat) ≤ 1 by decide), if_neg (show ¬ (3 : Nat) = 2 by decide), if_pos rfl]; exact ⟨_, rfl, hR⟩) hI
theorem ops64 : (OP 64).op = .insert 44 (.tmp 1) (.tmp 52) (.tmp 60) := by kernel_rfl
theorem dst64 : (OP 64).dst = none := by kernel_rfl
theorem af64_0 : (OP 64).after.toList.any (fun e => e.on == 0 && Region.binds .any e) = true := by kernel_rfl
theorem af64_55 : (OP 64).after.toList.any (fun e => e.on == 55 && Region.binds .any e) = true := by kernel_rfl
theorem af64_63 : (OP 64).after.toList.any (fun e => e.on == 63 && Region.binds .any e) = true := by kernel_rfl
theorem st64 (hn : listed.getD 64 true = false) (ho : RG[64]? = some o) (hl : ∀ e ∈ o.after, Region.binds .any e = true → listed.getD e.on false = true) (hI : Inv w0 listed a W) : wpOp Try.prog RG Q 64 (Inv w0 (listed.setIfInBounds 64 true)) a W := by
  obtain rfl := op_eq ho
  exact step_ins (r := ([13, 1], [16, 0, 4, 0, 4, 4, 0, 8, 4, 1, 12, 2, 0, 14, 1, 0, 15, 1, 0])) (j1 := 55) (j2 := 63) rfl rfl hn ho dst64 ops64 (dep af64_0 hl) rfl (dep af64_55 hl) rfl (dep af64_63 hl) hI
theorem run65 (a : Act) (W : World) : (execOp a.eval (OP 65)).run Try.prog W = .ok (.value (lit (0, [5, 0]))) W := by kernel_rfl
theorem st65 (hn : listed.getD 65 true = false) (ho : RG[65]? = some o) (hl : ∀ e ∈ o.after, Region.binds .any e = true → listed.getD e.on false = true) (hI : Inv w0 listed a W) : wpOp Try.prog RG Q 65 (Inv w0 (listed.setIfInBounds 65 true)) a W := by
  obtain rfl := op_eq ho
  exact step_val (by decide) hn ho (s := (0, [5, 0])) rfl (run65 a W) (Below.refl _ _) (av_lit (by decide)) hI
theorem run66 (a : Act) (W : World) : (execOp a.eval (OP 66)).run Try.prog W = .ok (.value (lit (1, [0, 1, 0]))) W := by kernel_rfl
theorem st66 (hn : listed.getD 66 true = false) (ho : RG[66]? = some o) (hl : ∀ e ∈ o.after, Region.binds .any e = true → listed.getD e.on false = true) (hI : Inv w0 listed a W) : wpOp Try.prog RG Q 66 (Inv w0 (listed.setIfInBounds 66 true)) a W := by
  obtain rfl := op_eq ho
  exact step_val (by decide) hn ho (s := (1, [0, 1, 0])) rfl (run66 a W) (Below.refl _ _) (av_lit (by decide)) hI
theorem run67 (a : Act) (W : World) : (execOp a.eval (OP 67)).run Try.prog W = .ok (.value (lit (1, [1, 1, 0]))) W := by kernel_rfl
theorem st67 (hn : listed.getD 67 true = false) (ho : RG[67]? = some o) (hl : ∀ e ∈ o.after, Region.binds .any e = true → listed.getD e.on false = true) (hI : Inv w0 listed a W) : wpOp Try.prog RG Q 67 (Inv w0 (listed.setIfInBounds 67 true)) a W := by
  obtain rfl := op_eq ho
  exact step_val (by decide) hn ho (s := (1, [1, 1, 0])) rfl (run67 a W) (Below.refl _ _) (av_lit (by decide)) hI
theorem rd68 : rowReady (OP 68) = true := by kernel_rfl
theorem run68 (W : World) : (execOp rhoL (OP 68)).run Try.prog W = .ok (.value (.slice (some ⟨W.heap.size, 0, none⟩) 2 2)) (W.alloc (.cells #[.int .i64 0, .int .i64 1, .bool false, .int .i64 1, .int .i64 1, .bool false] 49)) := by kernel_rfl
theorem ns68 : ∀ cs b, (OP 68).op ≠ .select cs b := by
  intro cs b h
  have e : (match (OP 68).op with | .select _ _ => false | _ => true) = true := by kernel_rfl
  rw [h] at e
  simp at e
theorem st68 (hn : listed.getD 68 true = false) (ho : RG[68]? = some o) (hl : ∀ e ∈ o.after, Region.binds .any e = true → listed.getD e.on false = true) (hI : Inv w0 listed a W) : wpOp Try.prog RG Q 68 (Inv w0 (listed.setIfInBounds 68 true)) a W := by
  obtain rfl := op_eq ho
  have hrun := run68 W
  rw [← execOp_congr (OP 68) ns68 (row_eval rd68 hl hI)] at hrun
  exact step_val (by decide) hn ho (s := (2, [0, 1, 0, 1, 1, 0])) rfl hrun (below_alloc (Below.refl _ _) _) (av_row hI.below.size rfl rfl rfl (by unfold maxLen; decide)) hI
theorem run69 (A : Option Addr) (n c : Nat) (W : World) : (execOp (rhoS (.slice A n c)) (OP 69)).run Try.prog W = .ok (.value (.agg #[.int .i64 2, .slice A n c])) W := by kernel_rfl
theorem ops69 : (OP 69).op = .build 42 #[(0, .const (.int .i64 2)), (1, .tmp 64)] := by kernel_rfl
theorem af69 : (OP 69).after.toList.any (fun e => e.on == 68 && Region.binds .any e) = true := by kernel_rfl
theorem st69 (hn : listed.getD 69 true = false) (ho : RG[69]? = some o) (hl : ∀ e ∈ o.after, Region.binds .any e = true → listed.getD e.on false = true) (hI : Inv w0 listed a W) : wpOp Try.prog RG Q 69 (Inv w0 (listed.setIfInBounds 69 true)) a W := by
  obtain rfl := op_eq ho
  have hd := dep af69 hl
  obtain ⟨m, hm, _⟩ := hI.rest
  obtain ⟨v, hv, hok⟩ := hm 68 64 (2, [0, 1, 0, 1, 1, 0]) rfl hd
  have hR : Kd.R k49 49 W w0.heap.size (fun _ => True) v (flds [0, 1, 0, 1, 1, 0]) := by
    unfold AVok at hok
    rwa [if_neg (show ¬ (2 : Nat) ≤ 1 by decide), if_pos rfl] at hok
  obtain ⟨A, c, rfl⟩ := Kd.R_slice hR
  have hrun := run69 A (flds [0, 1, 0, 1, 1, 0]).length c W
  rw [← execOp_congr (ρ := a.eval) (OP 69) (fun cs b h => by rw [ops69] at h; cases h) (fun x hx => by
    rw [ops69] at hx
    simp [Op.operands] at hx
    rcases hx with rfl | rfl
    · rfl
    · simp [Act.eval, Array.getD_eq_getD_getElem?, hv, rhoS])] at hrun
  exact step_val (by decide) hn ho (s := (3, [2, 0, 1, 0, 1, 1, 0])) rfl hrun (Below.refl _ _) (by unfold AVok; rw [if_neg (show ¬ (3 : Nat) ≤ 1 by decide), if_neg (show ¬ (3 : Nat) = 2 by decide), if_pos rfl]; exact ⟨_, rfl, hR⟩) hI
theorem ops70 : (OP 70).op = .insert 44 (.tmp 1) (.tmp 61) (.tmp 65) := by kernel_rfl
theorem dst70 : (OP 70).dst = none := by kernel_rfl
theorem af70_0 : (OP 70).after.toList.any (fun e => e.on == 0 && Region.binds .any e) = true := by kernel_rfl
theorem af70_65 : (OP 70).after.toList.any (fun e => e.on == 65 && Region.binds .any e) = true := by kernel_rfl
theorem af70_69 : (OP 70).after.toList.any (fun e => e.on == 69 && Region.binds .any e) = true := by kernel_rfl
theorem st70 (hn : listed.getD 70 true = false) (ho : RG[70]? = some o) (hl : ∀ e ∈ o.after, Region.binds .any e = true → listed.getD e.on false = true) (hI : Inv w0 listed a W) : wpOp Try.prog RG Q 70 (Inv w0 (listed.setIfInBounds 70 true)) a W := by
  obtain rfl := op_eq ho
  exact step_ins (r := ([5, 0], [2, 0, 1, 0, 1, 1, 0])) (j1 := 65) (j2 := 69) rfl rfl hn ho dst70 ops70 (dep af70_0 hl) rfl (dep af70_65 hl) rfl (dep af70_69 hl) hI
theorem run71 (a : Act) (W : World) : (execOp a.eval (OP 71)).run Try.prog W = .ok (.value (lit (0, [5, 1]))) W := by kernel_rfl
theorem st71 (hn : listed.getD 71 true = false) (ho : RG[71]? = some o) (hl : ∀ e ∈ o.after, Region.binds .any e = true → listed.getD e.on false = true) (hI : Inv w0 listed a W) : wpOp Try.prog RG Q 71 (Inv w0 (listed.setIfInBounds 71 true)) a W := by
  obtain rfl := op_eq ho
  exact step_val (by decide) hn ho (s := (0, [5, 1])) rfl (run71 a W) (Below.refl _ _) (av_lit (by decide)) hI
theorem run72 (a : Act) (W : World) : (execOp a.eval (OP 72)).run Try.prog W = .ok (.value (lit (1, [0, 1, 0]))) W := by kernel_rfl
theorem st72 (hn : listed.getD 72 true = false) (ho : RG[72]? = some o) (hl : ∀ e ∈ o.after, Region.binds .any e = true → listed.getD e.on false = true) (hI : Inv w0 listed a W) : wpOp Try.prog RG Q 72 (Inv w0 (listed.setIfInBounds 72 true)) a W := by
  obtain rfl := op_eq ho
  exact step_val (by decide) hn ho (s := (1, [0, 1, 0])) rfl (run72 a W) (Below.refl _ _) (av_lit (by decide)) hI
theorem run73 (a : Act) (W : World) : (execOp a.eval (OP 73)).run Try.prog W = .ok (.value (lit (1, [1, 1, 0]))) W := by kernel_rfl
theorem st73 (hn : listed.getD 73 true = false) (ho : RG[73]? = some o) (hl : ∀ e ∈ o.after, Region.binds .any e = true → listed.getD e.on false = true) (hI : Inv w0 listed a W) : wpOp Try.prog RG Q 73 (Inv w0 (listed.setIfInBounds 73 true)) a W := by
  obtain rfl := op_eq ho
  exact step_val (by decide) hn ho (s := (1, [1, 1, 0])) rfl (run73 a W) (Below.refl _ _) (av_lit (by decide)) hI
theorem rd74 : rowReady (OP 74) = true := by kernel_rfl
theorem run74 (W : World) : (execOp rhoL (OP 74)).run Try.prog W = .ok (.value (.slice (some ⟨W.heap.size, 0, none⟩) 2 2)) (W.alloc (.cells #[.int .i64 0, .int .i64 1, .bool false, .int .i64 1, .int .i64 1, .bool false] 49)) := by kernel_rfl
theorem ns74 : ∀ cs b, (OP 74).op ≠ .select cs b := by
  intro cs b h
  have e : (match (OP 74).op with | .select _ _ => false | _ => true) = true := by kernel_rfl
  rw [h] at e
  simp at e
theorem st74 (hn : listed.getD 74 true = false) (ho : RG[74]? = some o) (hl : ∀ e ∈ o.after, Region.binds .any e = true → listed.getD e.on false = true) (hI : Inv w0 listed a W) : wpOp Try.prog RG Q 74 (Inv w0 (listed.setIfInBounds 74 true)) a W := by
  obtain rfl := op_eq ho
  have hrun := run74 W
  rw [← execOp_congr (OP 74) ns74 (row_eval rd74 hl hI)] at hrun
  exact step_val (by decide) hn ho (s := (2, [0, 1, 0, 1, 1, 0])) rfl hrun (below_alloc (Below.refl _ _) _) (av_row hI.below.size rfl rfl rfl (by unfold maxLen; decide)) hI
theorem run75 (A : Option Addr) (n c : Nat) (W : World) : (execOp (rhoS (.slice A n c)) (OP 75)).run Try.prog W = .ok (.value (.agg #[.int .i64 2, .slice A n c])) W := by kernel_rfl
theorem ops75 : (OP 75).op = .build 42 #[(0, .const (.int .i64 2)), (1, .tmp 69)] := by kernel_rfl
theorem af75 : (OP 75).after.toList.any (fun e => e.on == 74 && Region.binds .any e) = true := by kernel_rfl
theorem st75 (hn : listed.getD 75 true = false) (ho : RG[75]? = some o) (hl : ∀ e ∈ o.after, Region.binds .any e = true → listed.getD e.on false = true) (hI : Inv w0 listed a W) : wpOp Try.prog RG Q 75 (Inv w0 (listed.setIfInBounds 75 true)) a W := by
  obtain rfl := op_eq ho
  have hd := dep af75 hl
  obtain ⟨m, hm, _⟩ := hI.rest
  obtain ⟨v, hv, hok⟩ := hm 74 69 (2, [0, 1, 0, 1, 1, 0]) rfl hd
  have hR : Kd.R k49 49 W w0.heap.size (fun _ => True) v (flds [0, 1, 0, 1, 1, 0]) := by
    unfold AVok at hok
    rwa [if_neg (show ¬ (2 : Nat) ≤ 1 by decide), if_pos rfl] at hok
  obtain ⟨A, c, rfl⟩ := Kd.R_slice hR
  have hrun := run75 A (flds [0, 1, 0, 1, 1, 0]).length c W
  rw [← execOp_congr (ρ := a.eval) (OP 75) (fun cs b h => by rw [ops75] at h; cases h) (fun x hx => by
    rw [ops75] at hx
    simp [Op.operands] at hx
    rcases hx with rfl | rfl
    · rfl
    · simp [Act.eval, Array.getD_eq_getD_getElem?, hv, rhoS])] at hrun
  exact step_val (by decide) hn ho (s := (3, [2, 0, 1, 0, 1, 1, 0])) rfl hrun (Below.refl _ _) (by unfold AVok; rw [if_neg (show ¬ (3 : Nat) ≤ 1 by decide), if_neg (show ¬ (3 : Nat) = 2 by decide), if_pos rfl]; exact ⟨_, rfl, hR⟩) hI
theorem ops76 : (OP 76).op = .insert 44 (.tmp 1) (.tmp 66) (.tmp 70) := by kernel_rfl
theorem dst76 : (OP 76).dst = none := by kernel_rfl
theorem af76_0 : (OP 76).after.toList.any (fun e => e.on == 0 && Region.binds .any e) = true := by kernel_rfl
theorem af76_71 : (OP 76).after.toList.any (fun e => e.on == 71 && Region.binds .any e) = true := by kernel_rfl
theorem af76_75 : (OP 76).after.toList.any (fun e => e.on == 75 && Region.binds .any e) = true := by kernel_rfl
theorem st76 (hn : listed.getD 76 true = false) (ho : RG[76]? = some o) (hl : ∀ e ∈ o.after, Region.binds .any e = true → listed.getD e.on false = true) (hI : Inv w0 listed a W) : wpOp Try.prog RG Q 76 (Inv w0 (listed.setIfInBounds 76 true)) a W := by
  obtain rfl := op_eq ho
  exact step_ins (r := ([5, 1], [2, 0, 1, 0, 1, 1, 0])) (j1 := 71) (j2 := 75) rfl rfl hn ho dst76 ops76 (dep af76_0 hl) rfl (dep af76_71 hl) rfl (dep af76_75 hl) hI
theorem run77 (a : Act) (W : World) : (execOp a.eval (OP 77)).run Try.prog W = .ok (.value (lit (0, [6, 1]))) W := by kernel_rfl
theorem st77 (hn : listed.getD 77 true = false) (ho : RG[77]? = some o) (hl : ∀ e ∈ o.after, Region.binds .any e = true → listed.getD e.on false = true) (hI : Inv w0 listed a W) : wpOp Try.prog RG Q 77 (Inv w0 (listed.setIfInBounds 77 true)) a W := by
  obtain rfl := op_eq ho
  exact step_val (by decide) hn ho (s := (0, [6, 1])) rfl (run77 a W) (Below.refl _ _) (av_lit (by decide)) hI
theorem run78 (a : Act) (W : World) : (execOp a.eval (OP 78)).run Try.prog W = .ok (.value (lit (1, [0, 1, 0]))) W := by kernel_rfl
theorem st78 (hn : listed.getD 78 true = false) (ho : RG[78]? = some o) (hl : ∀ e ∈ o.after, Region.binds .any e = true → listed.getD e.on false = true) (hI : Inv w0 listed a W) : wpOp Try.prog RG Q 78 (Inv w0 (listed.setIfInBounds 78 true)) a W := by
  obtain rfl := op_eq ho
  exact step_val (by decide) hn ho (s := (1, [0, 1, 0])) rfl (run78 a W) (Below.refl _ _) (av_lit (by decide)) hI
theorem run79 (a : Act) (W : World) : (execOp a.eval (OP 79)).run Try.prog W = .ok (.value (lit (1, [1, 1, 0]))) W := by kernel_rfl
theorem st79 (hn : listed.getD 79 true = false) (ho : RG[79]? = some o) (hl : ∀ e ∈ o.after, Region.binds .any e = true → listed.getD e.on false = true) (hI : Inv w0 listed a W) : wpOp Try.prog RG Q 79 (Inv w0 (listed.setIfInBounds 79 true)) a W := by
  obtain rfl := op_eq ho
  exact step_val (by decide) hn ho (s := (1, [1, 1, 0])) rfl (run79 a W) (Below.refl _ _) (av_lit (by decide)) hI
theorem run80 (a : Act) (W : World) : (execOp a.eval (OP 80)).run Try.prog W = .ok (.value (lit (1, [2, 1, 0]))) W := by kernel_rfl
theorem st80 (hn : listed.getD 80 true = false) (ho : RG[80]? = some o) (hl : ∀ e ∈ o.after, Region.binds .any e = true → listed.getD e.on false = true) (hI : Inv w0 listed a W) : wpOp Try.prog RG Q 80 (Inv w0 (listed.setIfInBounds 80 true)) a W := by
  obtain rfl := op_eq ho
  exact step_val (by decide) hn ho (s := (1, [2, 1, 0])) rfl (run80 a W) (Below.refl _ _) (av_lit (by decide)) hI
theorem rd81 : rowReady (OP 81) = true := by kernel_rfl
theorem run81 (W : World) : (execOp rhoL (OP 81)).run Try.prog W = .ok (.value (.slice (some ⟨W.heap.size, 0, none⟩) 3 3)) (W.alloc (.cells #[.int .i64 0, .int .i64 1, .bool false, .int .i64 1, .int .i64 1, .bool false, .int .i64 2, .int .i64 1, .bool false] 49)) := by kernel_rfl
theorem ns81 : ∀ cs b, (OP 81).op ≠ .select cs b := by
  intro cs b h
  have e : (match (OP 81).op with | .select _ _ => false | _ => true) = true := by kernel_rfl
  rw [h] at e
  simp at e
theorem st81 (hn : listed.getD 81 true = false) (ho : RG[81]? = some o) (hl : ∀ e ∈ o.after, Region.binds .any e = true → listed.getD e.on false = true) (hI : Inv w0 listed a W) : wpOp Try.prog RG Q 81 (Inv w0 (listed.setIfInBounds 81 true)) a W := by
  obtain rfl := op_eq ho
  have hrun := run81 W
  rw [← execOp_congr (OP 81) ns81 (row_eval rd81 hl hI)] at hrun
  exact step_val (by decide) hn ho (s := (2, [0, 1, 0, 1, 1, 0, 2, 1, 0])) rfl hrun (below_alloc (Below.refl _ _) _) (av_row hI.below.size rfl rfl rfl (by unfold maxLen; decide)) hI
theorem run82 (A : Option Addr) (n c : Nat) (W : World) : (execOp (rhoS (.slice A n c)) (OP 82)).run Try.prog W = .ok (.value (.agg #[.int .i64 3, .slice A n c])) W := by kernel_rfl
theorem ops82 : (OP 82).op = .build 42 #[(0, .const (.int .i64 3)), (1, .tmp 75)] := by kernel_rfl
theorem af82 : (OP 82).after.toList.any (fun e => e.on == 81 && Region.binds .any e) = true := by kernel_rfl
theorem st82 (hn : listed.getD 82 true = false) (ho : RG[82]? = some o) (hl : ∀ e ∈ o.after, Region.binds .any e = true → listed.getD e.on false = true) (hI : Inv w0 listed a W) : wpOp Try.prog RG Q 82 (Inv w0 (listed.setIfInBounds 82 true)) a W := by
  obtain rfl := op_eq ho
  have hd := dep af82 hl
  obtain ⟨m, hm, _⟩ := hI.rest
  obtain ⟨v, hv, hok⟩ := hm 81 75 (2, [0, 1, 0, 1, 1, 0, 2, 1, 0]) rfl hd
  have hR : Kd.R k49 49 W w0.heap.size (fun _ => True) v (flds [0, 1, 0, 1, 1, 0, 2, 1, 0]) := by
    unfold AVok at hok
    rwa [if_neg (show ¬ (2 : Nat) ≤ 1 by decide), if_pos rfl] at hok
  obtain ⟨A, c, rfl⟩ := Kd.R_slice hR
  have hrun := run82 A (flds [0, 1, 0, 1, 1, 0, 2, 1, 0]).length c W
  rw [← execOp_congr (ρ := a.eval) (OP 82) (fun cs b h => by rw [ops82] at h; cases h) (fun x hx => by
    rw [ops82] at hx
    simp [Op.operands] at hx
    rcases hx with rfl | rfl
    · rfl
    · simp [Act.eval, Array.getD_eq_getD_getElem?, hv, rhoS])] at hrun
  exact step_val (by decide) hn ho (s := (3, [3, 0, 1, 0, 1, 1, 0, 2, 1, 0])) rfl hrun (Below.refl _ _) (by unfold AVok; rw [if_neg (show ¬ (3 : Nat) ≤ 1 by decide), if_neg (show ¬ (3 : Nat) = 2 by decide), if_pos rfl]; exact ⟨_, rfl, hR⟩) hI
theorem ops83 : (OP 83).op = .insert 44 (.tmp 1) (.tmp 71) (.tmp 76) := by kernel_rfl
theorem dst83 : (OP 83).dst = none := by kernel_rfl
theorem af83_0 : (OP 83).after.toList.any (fun e => e.on == 0 && Region.binds .any e) = true := by kernel_rfl
theorem af83_77 : (OP 83).after.toList.any (fun e => e.on == 77 && Region.binds .any e) = true := by kernel_rfl
theorem af83_82 : (OP 83).after.toList.any (fun e => e.on == 82 && Region.binds .any e) = true := by kernel_rfl
theorem st83 (hn : listed.getD 83 true = false) (ho : RG[83]? = some o) (hl : ∀ e ∈ o.after, Region.binds .any e = true → listed.getD e.on false = true) (hI : Inv w0 listed a W) : wpOp Try.prog RG Q 83 (Inv w0 (listed.setIfInBounds 83 true)) a W := by
  obtain rfl := op_eq ho
  exact step_ins (r := ([6, 1], [3, 0, 1, 0, 1, 1, 0, 2, 1, 0])) (j1 := 77) (j2 := 82) rfl rfl hn ho dst83 ops83 (dep af83_0 hl) rfl (dep af83_77 hl) rfl (dep af83_82 hl) hI
theorem run84 (a : Act) (W : World) : (execOp a.eval (OP 84)).run Try.prog W = .ok (.value (lit (0, [6, 8]))) W := by kernel_rfl
theorem st84 (hn : listed.getD 84 true = false) (ho : RG[84]? = some o) (hl : ∀ e ∈ o.after, Region.binds .any e = true → listed.getD e.on false = true) (hI : Inv w0 listed a W) : wpOp Try.prog RG Q 84 (Inv w0 (listed.setIfInBounds 84 true)) a W := by
  obtain rfl := op_eq ho
  exact step_val (by decide) hn ho (s := (0, [6, 8])) rfl (run84 a W) (Below.refl _ _) (av_lit (by decide)) hI
theorem run85 (a : Act) (W : World) : (execOp a.eval (OP 85)).run Try.prog W = .ok (.value (lit (1, [0, 2, 0]))) W := by kernel_rfl
theorem st85 (hn : listed.getD 85 true = false) (ho : RG[85]? = some o) (hl : ∀ e ∈ o.after, Region.binds .any e = true → listed.getD e.on false = true) (hI : Inv w0 listed a W) : wpOp Try.prog RG Q 85 (Inv w0 (listed.setIfInBounds 85 true)) a W := by
  obtain rfl := op_eq ho
  exact step_val (by decide) hn ho (s := (1, [0, 2, 0])) rfl (run85 a W) (Below.refl _ _) (av_lit (by decide)) hI
theorem run86 (a : Act) (W : World) : (execOp a.eval (OP 86)).run Try.prog W = .ok (.value (lit (1, [2, 2, 0]))) W := by kernel_rfl
theorem st86 (hn : listed.getD 86 true = false) (ho : RG[86]? = some o) (hl : ∀ e ∈ o.after, Region.binds .any e = true → listed.getD e.on false = true) (hI : Inv w0 listed a W) : wpOp Try.prog RG Q 86 (Inv w0 (listed.setIfInBounds 86 true)) a W := by
  obtain rfl := op_eq ho
  exact step_val (by decide) hn ho (s := (1, [2, 2, 0])) rfl (run86 a W) (Below.refl _ _) (av_lit (by decide)) hI
theorem run87 (a : Act) (W : World) : (execOp a.eval (OP 87)).run Try.prog W = .ok (.value (lit (1, [4, 2, 0]))) W := by kernel_rfl
theorem st87 (hn : listed.getD 87 true = false) (ho : RG[87]? = some o) (hl : ∀ e ∈ o.after, Region.binds .any e = true → listed.getD e.on false = true) (hI : Inv w0 listed a W) : wpOp Try.prog RG Q 87 (Inv w0 (listed.setIfInBounds 87 true)) a W := by
  obtain rfl := op_eq ho
  exact step_val (by decide) hn ho (s := (1, [4, 2, 0])) rfl (run87 a W) (Below.refl _ _) (av_lit (by decide)) hI
theorem rd88 : rowReady (OP 88) = true := by kernel_rfl
theorem run88 (W : World) : (execOp rhoL (OP 88)).run Try.prog W = .ok (.value (.slice (some ⟨W.heap.size, 0, none⟩) 3 3)) (W.alloc (.cells #[.int .i64 0, .int .i64 2, .bool false, .int .i64 2, .int .i64 2, .bool false, .int .i64 4, .int .i64 2, .bool false] 49)) := by kernel_rfl
theorem ns88 : ∀ cs b, (OP 88).op ≠ .select cs b := by
  intro cs b h
  have e : (match (OP 88).op with | .select _ _ => false | _ => true) = true := by kernel_rfl
  rw [h] at e
  simp at e
theorem st88 (hn : listed.getD 88 true = false) (ho : RG[88]? = some o) (hl : ∀ e ∈ o.after, Region.binds .any e = true → listed.getD e.on false = true) (hI : Inv w0 listed a W) : wpOp Try.prog RG Q 88 (Inv w0 (listed.setIfInBounds 88 true)) a W := by
  obtain rfl := op_eq ho
  have hrun := run88 W
  rw [← execOp_congr (OP 88) ns88 (row_eval rd88 hl hI)] at hrun
  exact step_val (by decide) hn ho (s := (2, [0, 2, 0, 2, 2, 0, 4, 2, 0])) rfl hrun (below_alloc (Below.refl _ _) _) (av_row hI.below.size rfl rfl rfl (by unfold maxLen; decide)) hI
theorem run89 (A : Option Addr) (n c : Nat) (W : World) : (execOp (rhoS (.slice A n c)) (OP 89)).run Try.prog W = .ok (.value (.agg #[.int .i64 6, .slice A n c])) W := by kernel_rfl
theorem ops89 : (OP 89).op = .build 42 #[(0, .const (.int .i64 6)), (1, .tmp 81)] := by kernel_rfl
theorem af89 : (OP 89).after.toList.any (fun e => e.on == 88 && Region.binds .any e) = true := by kernel_rfl
theorem st89 (hn : listed.getD 89 true = false) (ho : RG[89]? = some o) (hl : ∀ e ∈ o.after, Region.binds .any e = true → listed.getD e.on false = true) (hI : Inv w0 listed a W) : wpOp Try.prog RG Q 89 (Inv w0 (listed.setIfInBounds 89 true)) a W := by
  obtain rfl := op_eq ho
  have hd := dep af89 hl
  obtain ⟨m, hm, _⟩ := hI.rest
  obtain ⟨v, hv, hok⟩ := hm 88 81 (2, [0, 2, 0, 2, 2, 0, 4, 2, 0]) rfl hd
  have hR : Kd.R k49 49 W w0.heap.size (fun _ => True) v (flds [0, 2, 0, 2, 2, 0, 4, 2, 0]) := by
    unfold AVok at hok
    rwa [if_neg (show ¬ (2 : Nat) ≤ 1 by decide), if_pos rfl] at hok
  obtain ⟨A, c, rfl⟩ := Kd.R_slice hR
  have hrun := run89 A (flds [0, 2, 0, 2, 2, 0, 4, 2, 0]).length c W
  rw [← execOp_congr (ρ := a.eval) (OP 89) (fun cs b h => by rw [ops89] at h; cases h) (fun x hx => by
    rw [ops89] at hx
    simp [Op.operands] at hx
    rcases hx with rfl | rfl
    · rfl
    · simp [Act.eval, Array.getD_eq_getD_getElem?, hv, rhoS])] at hrun
  exact step_val (by decide) hn ho (s := (3, [6, 0, 2, 0, 2, 2, 0, 4, 2, 0])) rfl hrun (Below.refl _ _) (by unfold AVok; rw [if_neg (show ¬ (3 : Nat) ≤ 1 by decide), if_neg (show ¬ (3 : Nat) = 2 by decide), if_pos rfl]; exact ⟨_, rfl, hR⟩) hI
theorem ops90 : (OP 90).op = .insert 44 (.tmp 1) (.tmp 77) (.tmp 82) := by kernel_rfl
theorem dst90 : (OP 90).dst = none := by kernel_rfl
theorem af90_0 : (OP 90).after.toList.any (fun e => e.on == 0 && Region.binds .any e) = true := by kernel_rfl
theorem af90_84 : (OP 90).after.toList.any (fun e => e.on == 84 && Region.binds .any e) = true := by kernel_rfl
theorem af90_89 : (OP 90).after.toList.any (fun e => e.on == 89 && Region.binds .any e) = true := by kernel_rfl
theorem st90 (hn : listed.getD 90 true = false) (ho : RG[90]? = some o) (hl : ∀ e ∈ o.after, Region.binds .any e = true → listed.getD e.on false = true) (hI : Inv w0 listed a W) : wpOp Try.prog RG Q 90 (Inv w0 (listed.setIfInBounds 90 true)) a W := by
  obtain rfl := op_eq ho
  exact step_ins (r := ([6, 8], [6, 0, 2, 0, 2, 2, 0, 4, 2, 0])) (j1 := 84) (j2 := 89) rfl rfl hn ho dst90 ops90 (dep af90_0 hl) rfl (dep af90_84 hl) rfl (dep af90_89 hl) hI
theorem run91 (a : Act) (W : World) : (execOp a.eval (OP 91)).run Try.prog W = .ok (.value (lit (0, [6, 49]))) W := by kernel_rfl
theorem st91 (hn : listed.getD 91 true = false) (ho : RG[91]? = some o) (hl : ∀ e ∈ o.after, Region.binds .any e = true → listed.getD e.on false = true) (hI : Inv w0 listed a W) : wpOp Try.prog RG Q 91 (Inv w0 (listed.setIfInBounds 91 true)) a W := by
  obtain rfl := op_eq ho
  exact step_val (by decide) hn ho (s := (0, [6, 49])) rfl (run91 a W) (Below.refl _ _) (av_lit (by decide)) hI
theorem run92 (a : Act) (W : World) : (execOp a.eval (OP 92)).run Try.prog W = .ok (.value (lit (1, [0, 1, 0]))) W := by kernel_rfl
theorem st92 (hn : listed.getD 92 true = false) (ho : RG[92]? = some o) (hl : ∀ e ∈ o.after, Region.binds .any e = true → listed.getD e.on false = true) (hI : Inv w0 listed a W) : wpOp Try.prog RG Q 92 (Inv w0 (listed.setIfInBounds 92 true)) a W := by
  obtain rfl := op_eq ho
  exact step_val (by decide) hn ho (s := (1, [0, 1, 0])) rfl (run92 a W) (Below.refl _ _) (av_lit (by decide)) hI
theorem run93 (a : Act) (W : World) : (execOp a.eval (OP 93)).run Try.prog W = .ok (.value (lit (1, [4, 2, 1]))) W := by kernel_rfl
theorem st93 (hn : listed.getD 93 true = false) (ho : RG[93]? = some o) (hl : ∀ e ∈ o.after, Region.binds .any e = true → listed.getD e.on false = true) (hI : Inv w0 listed a W) : wpOp Try.prog RG Q 93 (Inv w0 (listed.setIfInBounds 93 true)) a W := by
  obtain rfl := op_eq ho
  exact step_val (by decide) hn ho (s := (1, [4, 2, 1])) rfl (run93 a W) (Below.refl _ _) (av_lit (by decide)) hI
theorem run94 (a : Act) (W : World) : (execOp a.eval (OP 94)).run Try.prog W = .ok (.value (lit (1, [8, 4, 0]))) W := by kernel_rfl
theorem st94 (hn : listed.getD 94 true = false) (ho : RG[94]? = some o) (hl : ∀ e ∈ o.after, Region.binds .any e = true → listed.getD e.on false = true) (hI : Inv w0 listed a W) : wpOp Try.prog RG Q 94 (Inv w0 (listed.setIfInBounds 94 true)) a W := by
  obtain rfl := op_eq ho
  exact step_val (by decide) hn ho (s := (1, [8, 4, 0])) rfl (run94 a W) (Below.refl _ _) (av_lit (by decide)) hI
theorem run95 (a : Act) (W : World) : (execOp a.eval (OP 95)).run Try.prog W = .ok (.value (lit (1, [16, 4, 0]))) W := by kernel_rfl
theorem st95 (hn : listed.getD 95 true = false) (ho : RG[95]? = some o) (hl : ∀ e ∈ o.after, Region.binds .any e = true → listed.getD e.on false = true) (hI : Inv w0 listed a W) : wpOp Try.prog RG Q 95 (Inv w0 (listed.setIfInBounds 95 true)) a W := by
  obtain rfl := op_eq ho
  exact step_val (by decide) hn ho (s := (1, [16, 4, 0])) rfl (run95 a W) (Below.refl _ _) (av_lit (by decide)) hI
theorem run96 (a : Act) (W : World) : (execOp a.eval (OP 96)).run Try.prog W = .ok (.value (lit (1, [28, 4, 0]))) W := by kernel_rfl
theorem st96 (hn : listed.getD 96 true = false) (ho : RG[96]? = some o) (hl : ∀ e ∈ o.after, Region.binds .any e = true → listed.getD e.on false = true) (hI : Inv w0 listed a W) : wpOp Try.prog RG Q 96 (Inv w0 (listed.setIfInBounds 96 true)) a W := by
  obtain rfl := op_eq ho
  exact step_val (by decide) hn ho (s := (1, [28, 4, 0])) rfl (run96 a W) (Below.refl _ _) (av_lit (by decide)) hI
theorem rd97 : rowReady (OP 97) = true := by kernel_rfl
theorem run97 (W : World) : (execOp rhoL (OP 97)).run Try.prog W = .ok (.value (.slice (some ⟨W.heap.size, 0, none⟩) 5 5)) (W.alloc (.cells #[.int .i64 0, .int .i64 1, .bool false, .int .i64 4, .int .i64 2, .bool true, .int .i64 8, .int .i64 4, .bool false, .int .i64 16, .int .i64 4, .bool false, .int .i64 28, .int .i64 4, .bool false] 49)) := by kernel_rfl
theorem ns97 : ∀ cs b, (OP 97).op ≠ .select cs b := by
  intro cs b h
  have e : (match (OP 97).op with | .select _ _ => false | _ => true) = true := by kernel_rfl
  rw [h] at e
  simp at e
theorem st97 (hn : listed.getD 97 true = false) (ho : RG[97]? = some o) (hl : ∀ e ∈ o.after, Region.binds .any e = true → listed.getD e.on false = true) (hI : Inv w0 listed a W) : wpOp Try.prog RG Q 97 (Inv w0 (listed.setIfInBounds 97 true)) a W := by
  obtain rfl := op_eq ho
  have hrun := run97 W
  rw [← execOp_congr (OP 97) ns97 (row_eval rd97 hl hI)] at hrun
  exact step_val (by decide) hn ho (s := (2, [0, 1, 0, 4, 2, 1, 8, 4, 0, 16, 4, 0, 28, 4, 0])) rfl hrun (below_alloc (Below.refl _ _) _) (av_row hI.below.size rfl rfl rfl (by unfold maxLen; decide)) hI
theorem run98 (A : Option Addr) (n c : Nat) (W : World) : (execOp (rhoS (.slice A n c)) (OP 98)).run Try.prog W = .ok (.value (.agg #[.int .i64 32, .slice A n c])) W := by kernel_rfl
theorem ops98 : (OP 98).op = .build 42 #[(0, .const (.int .i64 32)), (1, .tmp 89)] := by kernel_rfl
theorem af98 : (OP 98).after.toList.any (fun e => e.on == 97 && Region.binds .any e) = true := by kernel_rfl
theorem st98 (hn : listed.getD 98 true = false) (ho : RG[98]? = some o) (hl : ∀ e ∈ o.after, Region.binds .any e = true → listed.getD e.on false = true) (hI : Inv w0 listed a W) : wpOp Try.prog RG Q 98 (Inv w0 (listed.setIfInBounds 98 true)) a W := by
  obtain rfl := op_eq ho
  have hd := dep af98 hl
  obtain ⟨m, hm, _⟩ := hI.rest
  obtain ⟨v, hv, hok⟩ := hm 97 89 (2, [0, 1, 0, 4, 2, 1, 8, 4, 0, 16, 4, 0, 28, 4, 0]) rfl hd
  have hR : Kd.R k49 49 W w0.heap.size (fun _ => True) v (flds [0, 1, 0, 4, 2, 1, 8, 4, 0, 16, 4, 0, 28, 4, 0]) := by
    unfold AVok at hok
    rwa [if_neg (show ¬ (2 : Nat) ≤ 1 by decide), if_pos rfl] at hok
  obtain ⟨A, c, rfl⟩ := Kd.R_slice hR
  have hrun := run98 A (flds [0, 1, 0, 4, 2, 1, 8, 4, 0, 16, 4, 0, 28, 4, 0]).length c W
  rw [← execOp_congr (ρ := a.eval) (OP 98) (fun cs b h => by rw [ops98] at h; cases h) (fun x hx => by
    rw [ops98] at hx
    simp [Op.operands] at hx
    rcases hx with rfl | rfl
    · rfl
    · simp [Act.eval, Array.getD_eq_getD_getElem?, hv, rhoS])] at hrun
  exact step_val (by decide) hn ho (s := (3, [32, 0, 1, 0, 4, 2, 1, 8, 4, 0, 16, 4, 0, 28, 4, 0])) rfl hrun (Below.refl _ _) (by unfold AVok; rw [if_neg (show ¬ (3 : Nat) ≤ 1 by decide), if_neg (show ¬ (3 : Nat) = 2 by decide), if_pos rfl]; exact ⟨_, rfl, hR⟩) hI
theorem ops99 : (OP 99).op = .insert 44 (.tmp 1) (.tmp 83) (.tmp 90) := by kernel_rfl
theorem dst99 : (OP 99).dst = none := by kernel_rfl
theorem af99_0 : (OP 99).after.toList.any (fun e => e.on == 0 && Region.binds .any e) = true := by kernel_rfl
theorem af99_91 : (OP 99).after.toList.any (fun e => e.on == 91 && Region.binds .any e) = true := by kernel_rfl
theorem af99_98 : (OP 99).after.toList.any (fun e => e.on == 98 && Region.binds .any e) = true := by kernel_rfl
theorem st99 (hn : listed.getD 99 true = false) (ho : RG[99]? = some o) (hl : ∀ e ∈ o.after, Region.binds .any e = true → listed.getD e.on false = true) (hI : Inv w0 listed a W) : wpOp Try.prog RG Q 99 (Inv w0 (listed.setIfInBounds 99 true)) a W := by
  obtain rfl := op_eq ho
  exact step_ins (r := ([6, 49], [32, 0, 1, 0, 4, 2, 1, 8, 4, 0, 16, 4, 0, 28, 4, 0])) (j1 := 91) (j2 := 98) rfl rfl hn ho dst99 ops99 (dep af99_0 hl) rfl (dep af99_91 hl) rfl (dep af99_98 hl) hI
theorem dst100 : (OP 100).dst = some 91 := by kernel_rfl
theorem gd100 : (OP 100).guard = none := by kernel_rfl
theorem op100 (ρ : Operand → Value) (W : World) : (execOp ρ (OP 100)).run Try.prog W = .ok (.value (ρ (.tmp 1))) W := by kernel_rfl
theorem af100 : (OP 100).after.toList.any (fun e => e.on == 0 && Region.binds .any e) = true := by kernel_rfl
theorem st100 (_hn : listed.getD 100 true = false) (ho : RG[100]? = some o) (hl : ∀ e ∈ o.after, Region.binds .any e = true → listed.getD e.on false = true) (hI : Inv w0 listed a W) : wpOp Try.prog RG Q 100 (Inv w0 (listed.setIfInBounds 100 true)) a W := by
  obtain rfl := op_eq ho
  refine step_fin (f := (100, 91)) (by simp [FN]) ho dst100 gd100 (dep af100 hl) hI (fun m h1 h2 => ?_)
  have h3 : a.tmps[1]? = some (.map (some m)) := h1
  rw [op100]
  simp only [Act.eval, Array.getD_eq_getD_getElem?, h3, Option.getD_some]
theorem dst101 : (OP 101).dst = some 0 := by kernel_rfl
theorem gd101 : (OP 101).guard = none := by kernel_rfl
theorem op101 (ρ : Operand → Value) (W : World) : (execOp ρ (OP 101)).run Try.prog W = .ok (.value (ρ (.tmp 91))) W := by kernel_rfl
theorem af101 : (OP 101).after.toList.any (fun e => e.on == 0 && Region.binds .any e) = true := by kernel_rfl
theorem afp101 : (OP 101).after.toList.any (fun e => e.on == 100 && Region.binds .any e) = true := by kernel_rfl
theorem st101 (_hn : listed.getD 101 true = false) (ho : RG[101]? = some o) (hl : ∀ e ∈ o.after, Region.binds .any e = true → listed.getD e.on false = true) (hI : Inv w0 listed a W) : wpOp Try.prog RG Q 101 (Inv w0 (listed.setIfInBounds 101 true)) a W := by
  obtain rfl := op_eq ho
  refine step_fin (f := (101, 0)) (by simp [FN]) ho dst101 gd101 (dep af101 hl) hI (fun m h1 h2 => ?_)
  have h3 : a.tmps[91]? = some (.map (some m)) := h2 (100, 91) (by simp [FN]) (dep afp101 hl)
  rw [op101]
  simp only [Act.eval, Array.getD_eq_getD_getElem?, h3, Option.getD_some]
theorem st_all (i : Nat) (hi : i < 102) (hn : listed.getD i true = false) (ho : RG[i]? = some o) (hl : ∀ e ∈ o.after, Region.binds .any e = true → listed.getD e.on false = true) (hI : Inv w0 listed a W) : wpOp Try.prog RG Q i (Inv w0 (listed.setIfInBounds i true)) a W :=
  match i, hi, hn, ho with
  | 0, _, hn, ho => st0 hn ho hI
  | 1, _, hn, ho => st1 hn ho hl hI
  | 2, _, hn, ho => st2 hn ho hl hI
  | 3, _, hn, ho => st3 hn ho hl hI
  | 4, _, hn, ho => st4 hn ho hl hI
  | 5, _, hn, ho => st5 hn ho hl hI
  | 6, _, hn, ho => st6 hn ho hl hI
  | 7, _, hn, ho => st7 hn ho hl hI
  | 8, _, hn, ho => st8 hn ho hl hI
  | 9, _, hn, ho => st9 hn ho hl hI
  | 10, _, hn, ho => st10 hn ho hl hI
  | 11, _, hn, ho => st11 hn ho hl hI
  | 12, _, hn, ho => st12 hn ho hl hI
  | 13, _, hn, ho => st13 hn ho hl hI
  | 14, _, hn, ho => st14 hn ho hl hI
  | 15, _, hn, ho => st15 hn ho hl hI
  | 16, _, hn, ho => st16 hn ho hl hI
  | 17, _, hn, ho => st17 hn ho hl hI
  | 18, _, hn, ho => st18 hn ho hl hI
  | 19, _, hn, ho => st19 hn ho hl hI
  | 20, _, hn, ho => st20 hn ho hl hI
  | 21, _, hn, ho => st21 hn ho hl hI
  | 22, _, hn, ho => st22 hn ho hl hI
  | 23, _, hn, ho => st23 hn ho hl hI
  | 24, _, hn, ho => st24 hn ho hl hI
  | 25, _, hn, ho => st25 hn ho hl hI
  | 26, _, hn, ho => st26 hn ho hl hI
  | 27, _, hn, ho => st27 hn ho hl hI
  | 28, _, hn, ho => st28 hn ho hl hI
  | 29, _, hn, ho => st29 hn ho hl hI
  | 30, _, hn, ho => st30 hn ho hl hI
  | 31, _, hn, ho => st31 hn ho hl hI
  | 32, _, hn, ho => st32 hn ho hl hI
  | 33, _, hn, ho => st33 hn ho hl hI
  | 34, _, hn, ho => st34 hn ho hl hI
  | 35, _, hn, ho => st35 hn ho hl hI
  | 36, _, hn, ho => st36 hn ho hl hI
  | 37, _, hn, ho => st37 hn ho hl hI
  | 38, _, hn, ho => st38 hn ho hl hI
  | 39, _, hn, ho => st39 hn ho hl hI
  | 40, _, hn, ho => st40 hn ho hl hI
  | 41, _, hn, ho => st41 hn ho hl hI
  | 42, _, hn, ho => st42 hn ho hl hI
  | 43, _, hn, ho => st43 hn ho hl hI
  | 44, _, hn, ho => st44 hn ho hl hI
  | 45, _, hn, ho => st45 hn ho hl hI
  | 46, _, hn, ho => st46 hn ho hl hI
  | 47, _, hn, ho => st47 hn ho hl hI
  | 48, _, hn, ho => st48 hn ho hl hI
  | 49, _, hn, ho => st49 hn ho hl hI
  | 50, _, hn, ho => st50 hn ho hl hI
  | 51, _, hn, ho => st51 hn ho hl hI
  | 52, _, hn, ho => st52 hn ho hl hI
  | 53, _, hn, ho => st53 hn ho hl hI
  | 54, _, hn, ho => st54 hn ho hl hI
  | 55, _, hn, ho => st55 hn ho hl hI
  | 56, _, hn, ho => st56 hn ho hl hI
  | 57, _, hn, ho => st57 hn ho hl hI
  | 58, _, hn, ho => st58 hn ho hl hI
  | 59, _, hn, ho => st59 hn ho hl hI
  | 60, _, hn, ho => st60 hn ho hl hI
  | 61, _, hn, ho => st61 hn ho hl hI
  | 62, _, hn, ho => st62 hn ho hl hI
  | 63, _, hn, ho => st63 hn ho hl hI
  | 64, _, hn, ho => st64 hn ho hl hI
  | 65, _, hn, ho => st65 hn ho hl hI
  | 66, _, hn, ho => st66 hn ho hl hI
  | 67, _, hn, ho => st67 hn ho hl hI
  | 68, _, hn, ho => st68 hn ho hl hI
  | 69, _, hn, ho => st69 hn ho hl hI
  | 70, _, hn, ho => st70 hn ho hl hI
  | 71, _, hn, ho => st71 hn ho hl hI
  | 72, _, hn, ho => st72 hn ho hl hI
  | 73, _, hn, ho => st73 hn ho hl hI
  | 74, _, hn, ho => st74 hn ho hl hI
  | 75, _, hn, ho => st75 hn ho hl hI
  | 76, _, hn, ho => st76 hn ho hl hI
  | 77, _, hn, ho => st77 hn ho hl hI
  | 78, _, hn, ho => st78 hn ho hl hI
  | 79, _, hn, ho => st79 hn ho hl hI
  | 80, _, hn, ho => st80 hn ho hl hI
  | 81, _, hn, ho => st81 hn ho hl hI
  | 82, _, hn, ho => st82 hn ho hl hI
  | 83, _, hn, ho => st83 hn ho hl hI
  | 84, _, hn, ho => st84 hn ho hl hI
  | 85, _, hn, ho => st85 hn ho hl hI
  | 86, _, hn, ho => st86 hn ho hl hI
  | 87, _, hn, ho => st87 hn ho hl hI
  | 88, _, hn, ho => st88 hn ho hl hI
  | 89, _, hn, ho => st89 hn ho hl hI
  | 90, _, hn, ho => st90 hn ho hl hI
  | 91, _, hn, ho => st91 hn ho hl hI
  | 92, _, hn, ho => st92 hn ho hl hI
  | 93, _, hn, ho => st93 hn ho hl hI
  | 94, _, hn, ho => st94 hn ho hl hI
  | 95, _, hn, ho => st95 hn ho hl hI
  | 96, _, hn, ho => st96 hn ho hl hI
  | 97, _, hn, ho => st97 hn ho hl hI
  | 98, _, hn, ho => st98 hn ho hl hI
  | 99, _, hn, ho => st99 hn ho hl hI
  | 100, _, hn, ho => st100 hn ho hl hI
  | 101, _, hn, ho => st101 hn ho hl hI
  | (n + 102), h, _, _ => absurd h (by omega)
theorem region_ops {P : Program} {id : Nat} {ops ops' : Array Oper} {d : Bool} {R : Exit → Act → World → Prop} {a : Act} {w : World} (h : ops = ops') (hw : (Code.region id ops' d).wp P R a w) : (Code.region id ops d).wp P R a w := h ▸ hw
theorem back_lt (i : Nat) (o : Oper) (ho : RG[i]? = some o) (e : Edge) (he : e ∈ o.after) : e.on < i := by
  have h1 := List.all_eq_true.1 rg_back (o, i) (by rw [List.mem_zipIdx_iff_getElem?]; simpa using ho)
  have h2 := Array.all_eq_true_iff_forall_mem.1 h1 e he
  simpa using h2
set_option maxHeartbeats 4000000 in
set_option maxRecDepth 100000 in
/-- ubx.layouts makes a map of the ten rows. -/
theorem ubx_layouts.calls (w : World) : Calls Try.prog 15 #[] w fun e w' => ∃ m, e = .returned (.map (some m)) ∧ IsLay w.heap.size w' m ∧ Below w.heap.size w w' := by
  go_enter Try.func15, Try.ntmps15
  go_wp2_with fail
  refine region_ops (ops' := RG) (by kernel_rfl) ?_
  refine wp_region_inv (by kernel_rfl) (Inv w) (fun i o ho e he _ => back_lt i o ho e he) ?_ (fun listed a W i o _ hi ho hn hl hI => st_all i (by rw [rg_size] at hi; exact hi) hn ho hl hI) ?_
  · have hz : ∀ j, (Array.replicate RG.size false).getD j false = false := by
      intro j
      simp only [Array.getD_eq_getD_getElem?, Array.getElem?_replicate]
      split <;> rfl
    refine ⟨rfl, by simp, below_drew1 (Below.refl _ _), fun f _ h => ?_, fun j r _ h => ?_, w.heap.size, fun j t s _ h => ?_, fun h => ?_, fun f _ h => ?_⟩ <;> (rw [hz] at h; simp at h)
  · intro listed a W hs hall hI
    obtain ⟨m, h1, h2, h3⟩ := hI.rest
    have hl : ∀ j, j < 102 → listed.getD j false = true := fun j hj => hall j (by rw [rg_size]; exact hj)
    obtain ⟨hb, es, clock, hm, he1, he2⟩ := h2 (hl 0 (by decide))
    have h0 := h3 (101, 0) (by simp [FN]) (hl 101 (by decide))
    go_wp2_with fail
    refine bodyPost_ret (v := .map (some m)) ?_ hI.defers ⟨m, rfl, ⟨es, clock, hm, fun e he => ?_, fun r hr => ?_⟩, hI.below⟩
    · have h0' : a.tmps.getD 0 undef = .map (some m) := by simp [Array.getD_eq_getD_getElem?, h0]
      rw [← h0']
      exact results_tmp rfl _ _ _
    · obtain ⟨j, r, _, hr, h⟩ := he1 e he
      refine ⟨r, ?_, h⟩
      have := List.all_eq_true.1 ir_tab _ (List.mem_of_getElem? hr)
      simpa using this
    · have h4 := List.all_eq_true.1 tab_ir r hr
      have h5 : some r ∈ IR := by simpa using h4
      obtain ⟨j, hj⟩ := List.getElem?_of_mem h5
      have hjl : j < 102 := by rw [← ir_len]; exact (List.getElem?_eq_some_iff.1 hj).1
      exact he2 j r (hl j hjl) hj
end Go.Proofs.Ytgfbhghnaipjhaa.QUbx
