/- Written by a program of this session out of the translation: Lean functions for the Go functions of one package, and proofs that the calls come to them. -/
import Derived.Test.YtoeompemgpaccaaQSirfx0
import Derived.Test.YtoeompemgpaccaaQSirfx8
import Derived.Test.YtoeompemgpaccaaQSirfx16
namespace Go.Proofs.Ytoeompemgpaccaa.QSirf
open Go.RowKit Go.Proofs.YtoeompemgpaccaaW.PrintWords Go.Proofs.YtoeompemgpaccaaW.PrintLast Go.Proofs.YtoeompemgpaccaaW.PrintMore
attribute [local go_sem] max2_int min2_int max_two min_two max_three min_three max_four min_four   -- for this text's walks alone
set_option linter.unusedVariables false
set_option linter.unusedSimpArgs false

/-! ### remontoireref13_Payload: function 11 -/
mutual
def remontoireref13_Payload.l0 : Nat → List Int → List Int → Int → Int → List Int → Option (List Int × Int)
  | 0, _, _, _, _, _ => none
  | k + 1, x5, x6, x7, x281000, x281001 => if x7 < (x281001.length : Int) then (if 0 ≤ (wrap64 ((wrap64 (2 * x7)) + 1)) then (if (wrap64 ((wrap64 (2 * x7)) + 1)) < (x5.length : Int) then (if 0 ≤ x7 then ((remontoireref12_Fits.f k (rd x281001 x7) (rd x5 (wrap64 ((wrap64 (2 * x7)) + 1)))).bind fun t291 => (if t291 = true then (if (rd x5 (wrap64 ((wrap64 (2 * x7)) + 1))) < 0 then (remontoireref13_Payload.j1 k x5 x6 x7 (wrap64 (-(rd x5 (wrap64 ((wrap64 (2 * x7)) + 1))))) x281000 x281001) else (remontoireref13_Payload.j1 k x5 x6 x7 (rd x5 (wrap64 ((wrap64 (2 * x7)) + 1))) x281000 x281001)) else (some (([] : List Int), 2)))) else (none)) else (none)) else (none)) else (some (x6, 0))
def remontoireref13_Payload.j1 : Nat → List Int → List Int → Int → Int → Int → List Int → Option (List Int × Int)
  | 0, _, _, _, _, _, _ => none
  | k + 1, x5, x6, x7, x8, x281000, x281001 => if 0 ≤ x7 then (if x7 < (x281001.length : Int) then (remontoireref13_Payload.l1 k x5 x6 x7 (rd x281001 x7) (wrap64 (x8 - 1)) x281000 x281001) else (none)) else (none)
def remontoireref13_Payload.l1 : Nat → List Int → List Int → Int → Int → Int → Int → List Int → Option (List Int × Int)
  | 0, _, _, _, _, _, _, _ => none
  | k + 1, x5, x6, x7, x9, x10, x281000, x281001 => if x10 ≥ 0 then (if (Int.tmod x9 256) < 0 then (if 0 ≤ (wrap64 (2 * x7)) then (if (wrap64 (2 * x7)) < (x5.length : Int) then (if 0 ≤ (wrap64 ((rd x5 (wrap64 (2 * x7))) + x10)) then (if (wrap64 ((rd x5 (wrap64 (2 * x7))) + x10)) < (x6.length : Int) then (remontoireref13_Payload.l1 k x5 (x6.set ((wrap64 ((rd x5 (wrap64 (2 * x7))) + x10)) : Int).toNat ((wrap64 ((Int.tmod x9 256) + 256)) % 256)) x7 (wrap64 (Int.tdiv (wrap64 (x9 - (wrap64 ((Int.tmod x9 256) + 256)))) 256)) (wrap64 (x10 - 1)) x281000 x281001) else (none)) else (none)) else (none)) else (none)) else (if 0 ≤ (wrap64 (2 * x7)) then (if (wrap64 (2 * x7)) < (x5.length : Int) then (if 0 ≤ (wrap64 ((rd x5 (wrap64 (2 * x7))) + x10)) then (if (wrap64 ((rd x5 (wrap64 (2 * x7))) + x10)) < (x6.length : Int) then (remontoireref13_Payload.l1 k x5 (x6.set ((wrap64 ((rd x5 (wrap64 (2 * x7))) + x10)) : Int).toNat ((Int.tmod x9 256) % 256)) x7 (wrap64 (Int.tdiv (wrap64 (x9 - (Int.tmod x9 256))) 256)) (wrap64 (x10 - 1)) x281000 x281001) else (none)) else (none)) else (none)) else (none))) else (remontoireref13_Payload.l0 k x5 x6 (wrap64 (x7 + 1)) x281000 x281001)
end
def remontoireref13_Payload.f (k : Nat) (a0_0 : Int) (l0_1 : List Int) : Option (List Int × Int) := (remontoireref13_Layout.f a0_0).bind fun bt281 => (if bt281.1 = 0 then (some (([] : List Int), 7)) else (if (wrap64 ((l0_1.length : Int) * 2)) = (bt281.2.length : Int) then (if 0 ≤ bt281.1 then (if (bt281.1 : Int).toNat ≤ 281474976710656 then ((some (List.replicate (bt281.1 : Int).toNat 0 : List Int)).bind fun y285 => (if 0 < (y285.length : Int) then (remontoireref13_Payload.l0 k bt281.2 (y285.set (0 : Int).toNat a0_0) 0 a0_0 l0_1) else (none))) else (none)) else (none)) else (some (([] : List Int), 2))))
theorem remontoireref13_Payload.mono_l : ∀ k, (∀ y0 y1 y2 y3 y4, LeO (remontoireref13_Payload.l0 k y0 y1 y2 y3 y4) (remontoireref13_Payload.l0 (k + 1) y0 y1 y2 y3 y4)) ∧ (∀ y0 y1 y2 y3 y4 y5, LeO (remontoireref13_Payload.j1 k y0 y1 y2 y3 y4 y5) (remontoireref13_Payload.j1 (k + 1) y0 y1 y2 y3 y4 y5)) ∧ (∀ y0 y1 y2 y3 y4 y5 y6, LeO (remontoireref13_Payload.l1 k y0 y1 y2 y3 y4 y5 y6) (remontoireref13_Payload.l1 (k + 1) y0 y1 y2 y3 y4 y5 y6))
  | 0 => ⟨fun _ _ _ _ _ r h => by simp [remontoireref13_Payload.l0] at h, fun _ _ _ _ _ _ r h => by simp [remontoireref13_Payload.j1] at h, fun _ _ _ _ _ _ _ r h => by simp [remontoireref13_Payload.l1] at h⟩
  | k + 1 => by
    obtain ⟨ih0, ih1, ih2⟩ := remontoireref13_Payload.mono_l k
    refine ⟨?_, ?_, ?_⟩
    · intro y0 y1 y2 y3 y4
      unfold remontoireref13_Payload.l0
      repeat' first
      | (with_reducible exact ih0 _ _ _ _ _)
      | (with_reducible exact ih1 _ _ _ _ _ _)
      | (with_reducible exact ih2 _ _ _ _ _ _ _)
      | (with_reducible exact remontoireref12_Fits.mono _ _ _)
      | (with_reducible exact LeO.refl _)
      | (with_reducible exact LeO.none _)
      | (with_reducible refine LeO.ite ?_ ?_)
      | (with_reducible refine LeO.bind ?_ (fun _ => ?_))
      | exact ih0 _ _ _ _ _
      | exact ih1 _ _ _ _ _ _
      | exact ih2 _ _ _ _ _ _ _
      | exact remontoireref12_Fits.mono _ _ _
      | exact LeO.none _
      | refine LeO.ite ?_ ?_
      | refine LeO.bind ?_ (fun _ => ?_)
    · intro y0 y1 y2 y3 y4 y5
      unfold remontoireref13_Payload.j1
      repeat' first
      | (with_reducible exact ih0 _ _ _ _ _)
      | (with_reducible exact ih1 _ _ _ _ _ _)
      | (with_reducible exact ih2 _ _ _ _ _ _ _)
      | (with_reducible exact remontoireref12_Fits.mono _ _ _)
      | (with_reducible exact LeO.refl _)
      | (with_reducible exact LeO.none _)
      | (with_reducible refine LeO.ite ?_ ?_)
      | (with_reducible refine LeO.bind ?_ (fun _ => ?_))
      | exact ih0 _ _ _ _ _
      | exact ih1 _ _ _ _ _ _
      | exact ih2 _ _ _ _ _ _ _
      | exact remontoireref12_Fits.mono _ _ _
      | exact LeO.none _
      | refine LeO.ite ?_ ?_
      | refine LeO.bind ?_ (fun _ => ?_)
    · intro y0 y1 y2 y3 y4 y5 y6
      unfold remontoireref13_Payload.l1
      repeat' first
      | (with_reducible exact ih0 _ _ _ _ _)
      | (with_reducible exact ih1 _ _ _ _ _ _)
      | (with_reducible exact ih2 _ _ _ _ _ _ _)
      | (with_reducible exact remontoireref12_Fits.mono _ _ _)
      | (with_reducible exact LeO.refl _)
      | (with_reducible exact LeO.none _)
      | (with_reducible refine LeO.ite ?_ ?_)
      | (with_reducible refine LeO.bind ?_ (fun _ => ?_))
      | exact ih0 _ _ _ _ _
      | exact ih1 _ _ _ _ _ _
      | exact ih2 _ _ _ _ _ _ _
      | exact remontoireref12_Fits.mono _ _ _
      | exact LeO.none _
      | refine LeO.ite ?_ ?_
      | refine LeO.bind ?_ (fun _ => ?_)
theorem remontoireref13_Payload.mono : ∀ a0 a1 k, LeO (remontoireref13_Payload.f k a0 a1) (remontoireref13_Payload.f (k + 1) a0 a1) := by
  intro a0 a1 k
  obtain ⟨ih0, ih1, ih2⟩ := remontoireref13_Payload.mono_l k
  unfold remontoireref13_Payload.f
  repeat' first
      | (with_reducible exact ih0 _ _ _ _ _)
      | (with_reducible exact ih1 _ _ _ _ _ _)
      | (with_reducible exact ih2 _ _ _ _ _ _ _)
      | (with_reducible exact remontoireref12_Fits.mono _ _ _)
      | (with_reducible exact LeO.refl _)
      | (with_reducible exact LeO.none _)
      | (with_reducible refine LeO.ite ?_ ?_)
      | (with_reducible refine LeO.bind ?_ (fun _ => ?_))
      | exact ih0 _ _ _ _ _
      | exact ih1 _ _ _ _ _ _
      | exact ih2 _ _ _ _ _ _ _
      | exact remontoireref12_Fits.mono _ _ _
      | exact LeO.none _
      | refine LeO.ite ?_ ?_
      | refine LeO.bind ?_ (fun _ => ?_)
set_option maxHeartbeats 8000000 in
set_option maxRecDepth 100000 in
theorem remontoireref13_Payload.calls (k : Nat) (a0_0 : Int) (A0_1 : Option Addr) (c0_1 : Nat) (l0_1 : List Int) (r1 : List Int) (r2 : Int) (w : World) (hr0_1 : Kd.C (Kd.int .i64) w A0_1 l0_1.length l0_1) (hc0_1 : l0_1.length ≤ c0_1) (h : remontoireref13_Payload.f k a0_0 l0_1 = some (r1, r2)) :
    Calls Try.prog 11 #[.agg #[.int .u8 a0_0, .slice A0_1 l0_1.length c0_1]] w fun e w' => ∃ v0_ : Value, e = .returned (.tuple #[v0_, .int .i64 r2]) ∧ Kd.R (Kd.int .u8) 5 w' w.heap.size (fun _ => True) v0_ r1 ∧ Below w.heap.size w w' := by
  have hu26 := Try.underlying26
  have HR0_1 := Aside0.mk hr0_1
  have HC0_1 := Aside0.mk hc0_1
  clear hr0_1 hc0_1
  have HB := Aside0.mk (Below.refl w.heap.size w)
  have H : ((remontoireref13_Layout.f a0_0).bind fun bt281 => (if bt281.1 = 0 then (some (([] : List Int), 7)) else (if (wrap64 ((l0_1.length : Int) * 2)) = (bt281.2.length : Int) then (if 0 ≤ bt281.1 then (if (bt281.1 : Int).toNat ≤ 281474976710656 then ((some (List.replicate (bt281.1 : Int).toNat 0 : List Int)).bind fun y285 => (if 0 < (y285.length : Int) then (remontoireref13_Payload.l0 k bt281.2 (y285.set (0 : Int).toNat a0_0) 0 a0_0 l0_1) else (none))) else (none)) else (none)) else (some (([] : List Int), 2))))) = some (r1, r2) := h
  clear h
  replace H := Option.bind_eq_some_iff.mp H
  obtain ⟨⟨t281, t282⟩, A20, H⟩ := H
  replace H : (if t281 = 0 then (some (([] : List Int), 7)) else (if (wrap64 ((l0_1.length : Int) * 2)) = (t282.length : Int) then (if 0 ≤ t281 then (if (t281 : Int).toNat ≤ 281474976710656 then ((some (List.replicate (t281 : Int).toNat 0 : List Int)).bind fun y285 => (if 0 < (y285.length : Int) then (remontoireref13_Payload.l0 k t282 (y285.set (0 : Int).toNat a0_0) 0 a0_0 l0_1) else (none))) else (none)) else (none)) else (some (([] : List Int), 2)))) = some (r1, r2) := H
  have A2 := Aside0.mk A20
  clear A20
  by_cases c3 : t281 = 0
  · rw [if_pos c3] at H
    have c3b0 : (t281 == 0) = true := beq_iff_eq.mpr c3
    have c3b1 : (t281 != 0) = false := bne_eq_false_iff_eq.mpr c3
    clear c3
    simp only [Option.some.injEq, Prod.mk.injEq] at H
    obtain ⟨rfl, rfl⟩ := H
    go_enter Try.func11, Try.ntmps11
    go_wp2_with (first | ((with_reducible refine gate_dst (N := 1) rfl ?_); refine box_event ?hg (N := 1) ?hd (cs := #[.int .u8 a0_0, .slice A0_1 l0_1.length c0_1]) (t := 26) ?hr ?_; (case hd => rfl); (case hg => rfl); (case hr => first | (go_simp; done) | (go_simp; rfl)); intro gb280 hg w4 hbox hb; have n0_ := Aside0.mk (below_step (by repeat (first | (with_reducible first | exact HB.out | apply below_alloc | apply pw_below_drewN | apply below_drew1) | exact HB.out)) hb); have n1_ := Aside0.mk (hbox); have n2_ := Aside0.mk ((by rw [hg]; exact (below_size (by repeat (first | (with_reducible first | exact HB.out | apply below_alloc | apply pw_below_drewN | apply below_drew1) | exact HB.out))) : w.heap.size ≤ gb280)); have n3_ := Aside0.mk ((by rw [hg]; exact (below_size (by repeat (first | (with_reducible first | exact HB.out | apply below_alloc | apply pw_below_drewN | apply below_drew1) | exact HB.out))) : w.heap.size ≤ gb280)); clear HB; have HB := n0_; have BK280 := n1_; have GW280 := n2_; have GE280 := n3_; clear n0_ n1_ n2_ n3_; clear hb hbox hg; have hcz5_0 : w4.cell? ⟨gb280, 0, none⟩ = some (.int .u8 a0_0) := (blk_cell BK280.out 0).trans rfl; have hcz5_1 : w4.cell? ⟨gb280, 1, none⟩ = some (.slice A0_1 l0_1.length c0_1) := (blk_cell BK280.out 1).trans rfl; have hfz5_0 := blk_frozen BK280.out 0; have hfz5_1 := blk_frozen BK280.out 1) | ((with_reducible refine gate_callee (f := 14) rfl ?_); refine goesL_ (some 15) rfl rfl Try.func14 (by kernel_rfl) rfl #[.int .u8 a0_0] rfl (by (try simp only [List.map_toArray, List.map_cons, List.map_nil]); first | done | rfl | (simp only [List.length_drop, List.length_take]; rfl)) ?_; (with_reducible refine (remontoireref13_Layout.calls a0_0 t281 t282 _ A2.out).mono ?_); rintro e w6 ⟨v283, rfl, ho0, hb⟩; refine ⟨_, rfl, ?_⟩; have n0_ := Aside0.mk (Kd.R_lower ho0 (below_size (by repeat (first | (with_reducible first | exact HB.out | apply below_alloc | apply pw_below_drewN | apply below_drew1 | refine below_set ?_ GE280.out) | exact HB.out)))); have n1_ := Aside0.mk (blk_below (g := gb280) (o := .cells #[.int .u8 a0_0, .slice A0_1 l0_1.length c0_1] 26 (0, 0)) (by (with_reducible repeat (first | refine blk_drewN ?_ _ | refine blk_drew ?_ | refine blk_alloc ?_ _)); exact BK280.out) hb); have n2_ := Aside0.mk (below_step (by repeat (first | (with_reducible first | exact HB.out | apply below_alloc | apply pw_below_drewN | apply below_drew1 | refine below_set ?_ GE280.out) | exact HB.out)) hb); clear BK280; clear HB; have HO284 := n0_; have BK280 := n1_; have HB := n2_; clear n0_ n1_ n2_; (try clear hb); (try clear hb2); (try clear hk); (try clear hi); (try clear ho0)))
    go_ret2
    exact ⟨_, by first | rfl | (simp [errW_none, errW_some] <;> rfl) | (simp [*, errW_none, errW_some] <;> rfl), by first | exact Kd.R_nil _ _ _ _ _ | exact Kd.N_nil _ _ _ _ _ | exact Kd.V_nil _ _ _ _ _ | exact Kd.Q_nil _ _ _ _ _ | exact Kd.S_nil _ _ _ _ _, by repeat (first | (with_reducible first | exact HB.out | apply below_alloc | apply pw_below_drewN | apply below_drew1 | refine below_set ?_ GE280.out) | exact HB.out)⟩
  · rw [if_neg c3] at H
    have c3b0 : (t281 == 0) = false := beq_eq_false_iff_ne.mpr c3
    have c3b1 : (t281 != 0) = true := bne_iff_ne.mpr c3
    by_cases c7 : (wrap64 ((l0_1.length : Int) * 2)) = (t282.length : Int)
    · rw [if_pos c7] at H
      have c7b0 : ((wrap64 ((l0_1.length : Int) * 2)) == (t282.length : Int)) = true := beq_iff_eq.mpr c7
      have c7b1 : ((wrap64 ((l0_1.length : Int) * 2)) != (t282.length : Int)) = false := bne_eq_false_iff_eq.mpr c7
      clear c7
      by_cases c8 : 0 ≤ t281
      · rw [if_pos c8] at H
        have c8b0 := eq_true c8
        have c8b1 : decide (0 ≤ t281) = true := decide_eq_true c8
        clear c8
        by_cases c9 : (t281 : Int).toNat ≤ 281474976710656
        · rw [if_pos c9] at H
          have c9b0 := eq_true c9
          have c9b1 : decide ((t281 : Int).toNat ≤ 281474976710656) = true := decide_eq_true c9
          clear c9
          obtain ⟨y285, hy285⟩ : ∃ y_ : List Int, y_ = (List.replicate (t281 : Int).toNat 0) := ⟨_, rfl⟩
          replace H : (if 0 < (y285.length : Int) then (remontoireref13_Payload.l0 k t282 (y285.set (0 : Int).toNat a0_0) 0 a0_0 l0_1) else (none)) = some (r1, r2) := by first | (rw [hy285]; with_reducible exact H) | (have H2_ := (Option.bind_some _ _).symm.trans H; rw [hy285]; with_reducible exact H2_) | (have H2_ := (Option.bind_some _ _).symm.trans H; with_reducible exact H2_) | with_reducible exact H | (rw [hy285]; exact H) | exact H
          have Ny285 := Aside0.mk hy285
          clear hy285
          by_cases c10 : 0 < (y285.length : Int)
          · rw [if_pos c10] at H
            have c10b0 : decide (0 < (y285.length : Int)) = true := decide_eq_true c10
            have c10b1 : decide (0 < y285.length) = true := decide_eq_true (by omega)
            clear c10
            obtain ⟨y288, hy288⟩ : ∃ y_ : List Int, y_ = (y285.set (0 : Int).toNat a0_0) := ⟨_, rfl⟩
            replace H : (remontoireref13_Payload.l0 k t282 y288 0 a0_0 l0_1) = some (r1, r2) := by first | (rw [hy288]; with_reducible exact H) | (have H2_ := (Option.bind_some _ _).symm.trans H; rw [hy288]; with_reducible exact H2_) | (have H2_ := (Option.bind_some _ _).symm.trans H; with_reducible exact H2_) | with_reducible exact H | (rw [hy288]; exact H) | exact H
            have Ny288 := Aside0.mk hy288
            clear hy288
            have H' := Aside0.mk H
            clear H
            go_enter Try.func11, Try.ntmps11
            go_wp2_with (first | ((with_reducible refine gate_dst (N := 1) rfl ?_); refine box_event ?hg (N := 1) ?hd (cs := #[.int .u8 a0_0, .slice A0_1 l0_1.length c0_1]) (t := 26) ?hr ?_; (case hd => rfl); (case hg => rfl); (case hr => first | (go_simp; done) | (go_simp; rfl)); intro gb280 hg w12 hbox hb; have n0_ := Aside0.mk (below_step (by repeat (first | (with_reducible first | exact HB.out | apply below_alloc | apply pw_below_drewN | apply below_drew1) | exact HB.out)) hb); have n1_ := Aside0.mk (hbox); have n2_ := Aside0.mk ((by rw [hg]; exact (below_size (by repeat (first | (with_reducible first | exact HB.out | apply below_alloc | apply pw_below_drewN | apply below_drew1) | exact HB.out))) : w.heap.size ≤ gb280)); have n3_ := Aside0.mk ((by rw [hg]; exact (below_size (by repeat (first | (with_reducible first | exact HB.out | apply below_alloc | apply pw_below_drewN | apply below_drew1) | exact HB.out))) : w.heap.size ≤ gb280)); clear HB; have HB := n0_; have BK280 := n1_; have GW280 := n2_; have GE280 := n3_; clear n0_ n1_ n2_ n3_; clear hb hbox hg; have hcz13_0 : w12.cell? ⟨gb280, 0, none⟩ = some (.int .u8 a0_0) := (blk_cell BK280.out 0).trans rfl; have hcz13_1 : w12.cell? ⟨gb280, 1, none⟩ = some (.slice A0_1 l0_1.length c0_1) := (blk_cell BK280.out 1).trans rfl; have hfz13_0 := blk_frozen BK280.out 0; have hfz13_1 := blk_frozen BK280.out 1) | ((with_reducible refine gate_callee (f := 14) rfl ?_); refine goesL_ (some 15) rfl rfl Try.func14 (by kernel_rfl) rfl #[.int .u8 a0_0] rfl (by (try simp only [List.map_toArray, List.map_cons, List.map_nil]); first | done | rfl | (simp only [List.length_drop, List.length_take]; rfl)) ?_; (with_reducible refine (remontoireref13_Layout.calls a0_0 t281 t282 _ A2.out).mono ?_); rintro e w14 ⟨v283, rfl, ho0, hb⟩; refine ⟨_, rfl, ?_⟩; have n0_ := Aside0.mk (Kd.R_lower ho0 (below_size (by repeat (first | (with_reducible first | exact HB.out | apply below_alloc | apply pw_below_drewN | apply below_drew1 | refine below_set ?_ GE280.out) | exact HB.out)))); have n1_ := Aside0.mk (blk_below (g := gb280) (o := .cells #[.int .u8 a0_0, .slice A0_1 l0_1.length c0_1] 26 (0, 0)) (by (with_reducible repeat (first | refine blk_drewN ?_ _ | refine blk_drew ?_ | refine blk_alloc ?_ _)); exact BK280.out) hb); have n2_ := Aside0.mk (below_step (by repeat (first | (with_reducible first | exact HB.out | apply below_alloc | apply pw_below_drewN | apply below_drew1 | refine below_set ?_ GE280.out) | exact HB.out)) hb); clear BK280; clear HB; have HO284 := n0_; have BK280 := n1_; have HB := n2_; clear n0_ n1_ n2_; (try clear hb); (try clear hb2); (try clear hk); (try clear hi); (try clear ho0); have hcz15_0 : w14.cell? ⟨gb280, 0, none⟩ = some (.int .u8 a0_0) := (blk_cell BK280.out 0).trans rfl; have hcz15_1 : w14.cell? ⟨gb280, 1, none⟩ = some (.slice A0_1 l0_1.length c0_1) := (blk_cell BK280.out 1).trans rfl; have hfz15_0 := blk_frozen BK280.out 0; have hfz15_1 := blk_frozen BK280.out 1; obtain ⟨Ao16, co16, eo16⟩ := Kd.R_slice HO284.out; subst eo16) | ((with_reducible refine gate_dst (N := 28) rfl ?_); refine Kd.R_make (Kd.int .u8) _ 5 rfl (N := 28) rfl 22 _ _ rfl t281 rfl rfl Try.underlying22 (.int .u8 0) 1 info5 rfl (by decide) (by omega) 0 (ok := fun _ => True) (okp := fun _ => True) rfl (fun _ hk => hk) trivial (of_decide_eq_true (by first | (with_reducible assumption) | assumption)) (Nat.le_trans (Nat.mul_le_mul_right _ (of_decide_eq_true (by first | (with_reducible assumption) | assumption) : t281.toNat ≤ 281474976710656)) (by omega)) (Below.refl _ _) (Nat.le_refl _) ?_; intro v286 w17 ho18 hb hg_ hnew_; clear hg_ hnew_; (first | rw [← Ny285.out] at ho18 | (simp only [Int.reduceToNat] at ho18; rw [← Ny285.out] at ho18)); have n0_ := Aside0.mk (Kd.R_below (by (with_reducible repeat (first | apply Kd.R_alloc | apply Kd.R_drewN | apply Kd.R_drew)); exact HO284.out) hb); have n1_ := Aside0.mk (Kd.R_lower ho18 (below_size (by repeat (first | (with_reducible first | exact HB.out | apply below_alloc | apply pw_below_drewN | apply below_drew1 | refine below_set ?_ GE280.out) | exact HB.out)))); have n2_ := Aside0.mk (blk_below (g := gb280) (o := .cells #[.int .u8 a0_0, .slice A0_1 l0_1.length c0_1] 26 (0, 0)) (by (with_reducible repeat (first | refine blk_drewN ?_ _ | refine blk_drew ?_ | refine blk_alloc ?_ _)); exact BK280.out) hb); have n3_ := Aside0.mk (below_step (by repeat (first | (with_reducible first | exact HB.out | apply below_alloc | apply pw_below_drewN | apply below_drew1 | refine below_set ?_ GE280.out) | exact HB.out)) hb); clear HO284; clear BK280; clear HB; have HO284 := n0_; have HO287 := n1_; have BK280 := n2_; have HB := n3_; clear n0_ n1_ n2_ n3_; clear hb ho18; have hcz19_0 : w17.cell? ⟨gb280, 0, none⟩ = some (.int .u8 a0_0) := (blk_cell BK280.out 0).trans rfl; have hcz19_1 : w17.cell? ⟨gb280, 1, none⟩ = some (.slice A0_1 l0_1.length c0_1) := (blk_cell BK280.out 1).trans rfl; have hfz19_0 := blk_frozen BK280.out 0; have hfz19_1 := blk_frozen BK280.out 1; have p11 : 0 ≤ (0 : Int) := (by omega); have q11 : (0 : Int) < ((y285.length : Int) : Int) := of_decide_eq_true (by first | (with_reducible assumption) | assumption); have qi11 : (0 < y285.length) = True := eq_true (by omega); obtain ⟨go11, co11, eo11, gb11, gl11, cl11, HG11⟩ := Kd.R_form HO287.out (by omega); (first | cases eo11 | (injection eo11 with ea_ en_ ec_; (first | subst ea_ | (injection ea_ with ea_; subst ea_)); subst ec_; clear en_)); have GB11 := Aside0.mk gb11; have GG11 := Aside0.mk HG11; clear gb11 gl11 HG11; obtain ⟨hx11_0, hf11_0⟩ := Kd.R_celln 0 HO287.out (0 : Int) p11 q11; (try rw [show ((0 : Int)).toNat = 0 from rfl] at hx11_0); (try simp only [Nat.reduceMul, Nat.zero_mul, Nat.zero_add, Nat.reduceAdd] at hx11_0); (try rw [show ((0 : Int)).toNat = 0 from rfl] at hf11_0); (try simp only [Nat.reduceMul, Nat.zero_mul, Nat.zero_add, Nat.reduceAdd] at hf11_0); replace p11 := eq_true p11; replace q11 := eq_true q11; obtain ⟨hy20_, hz20_⟩ := Kd.R_celln 0 HO287.out (0 : Int) (by omega) (of_decide_eq_true (by first | (with_reducible assumption) | assumption)); (try simp only [Int.reduceToNat, Int.toNat_zero, Int.toNat_ofNat, Nat.reduceMul, Nat.zero_mul, Nat.zero_add] at hy20_ hz20_); (try rw [show ((0 : Int)).toNat = 0 from rfl] at hy20_); (try rw [show ((0 : Int)).toNat = 0 from rfl] at hz20_); have HP20 := Kd.R_putg HO287.out (0 : Int) a0_0) | ((with_reducible refine gate_store (t := 5) (p := 32) rfl ?_); refine store_event (t := 5) (p := 32) (v := ?vo_w21) (w1 := (w17.setCell ⟨go11, (0 : Int).toNat, none⟩ (.int .u8 a0_0))) ?hg ?ho ?hn ?hr ?_; (case ho => rfl); (case hg => rfl); (case hn => rfl); (case hr => first | (go_simp; done) | (go_simp; rfl)); intro w21 hw; have hg : w17.grownBy w21 (some go11) := (by rw [hw]; exact HP20.2); have hp_ : Kd.R (Kd.int .u8) 5 w21 w.heap.size (fun _ => True) (.slice (some ⟨go11, 0, none⟩) y285.length co11) y288 := (by rw [hw, Ny288.out]; exact HP20.1); clear HP20; have n0_ := Aside0.mk (blk_grown (g := gb280) (o := .cells #[.int .u8 a0_0, .slice A0_1 l0_1.length c0_1] 26 (0, 0)) (by (with_reducible repeat (first | refine blk_drewN ?_ _ | refine blk_drew ?_ | refine blk_alloc ?_ _)); exact BK280.out) hg (Kd.R_ne HO287.out BK280.out (by decide))); have n1_ := Aside0.mk (Kd.R_over' (v := (.slice (some ⟨go11, 0, none⟩) y285.length co11)) (by (with_reducible repeat (first | apply Kd.R_alloc | apply Kd.R_drewN | apply Kd.R_drew)); exact HO284.out) (Kd.R_typed HO287.out) (by decide) hg); have n2_ := Aside0.mk (hp_); have n3_ := Aside0.mk ((by rw [hw]; exact below_set (HB.out) GB11.out : Below w.heap.size w w21)); clear BK280; clear HO284; clear HO287; clear HB; have BK280 := n0_; have HO284 := n1_; have HO287 := n2_; have HB := n3_; clear n0_ n1_ n2_ n3_; clear hg hw hp_))
            go_loopg [7] k (fun kq v7 w' => ∃ (x6_1 : List Int) (x7_1 : Int), v7 = .int .i64 x7_1 ∧ Aside0 (remontoireref13_Payload.l0 kq t282 x6_1 x7_1 a0_0 l0_1 = some (r1, r2)) ∧ Aside0 (kq ≤ k) ∧ Aside0 (Kd.R (Kd.int .i64) 3 w' w.heap.size (fun _ => True) (.slice Ao16 t282.length co16) t282) ∧ Aside0 (Kd.R (Kd.int .u8) 5 w' w.heap.size (fun _ => True) (.slice (some ⟨go11, 0, none⟩) y285.length co11) x6_1) ∧ Aside0 (w'.heap[gb280]? = some (.cells #[.int .u8 a0_0, (.slice A0_1 l0_1.length c0_1)] 26 (0, 0))) ∧ Aside0 (Below w.heap.size w w'))
            case atStart => exact ⟨(y288), (0), (by first | rfl | (simp; done) | (simp [*]; done)), H', ⟨Nat.le_refl _⟩, ⟨by (with_reducible repeat (first | apply Kd.R_alloc | apply Kd.R_drewN | apply Kd.R_drew)); exact HO284.out⟩, ⟨by (with_reducible repeat (first | apply Kd.R_alloc | apply Kd.R_drewN | apply Kd.R_drew)); exact HO287.out⟩, ⟨by (with_reducible repeat (first | refine blk_drewN ?_ _ | refine blk_drew ?_ | refine blk_alloc ?_ _)); exact BK280.out⟩, ⟨by repeat (first | (with_reducible first | exact HB.out | apply below_alloc | apply pw_below_drewN | apply below_drew1 | refine below_set ?_ GE280.out) | exact HB.out)⟩⟩
            case round =>
              clear H'
              try clear c1
              try clear p1
              try clear q1
              try clear hx1
              try clear qi1
              try clear hf1
              try clear p2
              try clear c3
              try clear c3b0
              try clear c3b1
              try clear p6
              try clear c7
              try clear c7b0
              try clear c7b1
              try clear c8
              try clear c8b0
              try clear c8b1
              try clear c9
              try clear c9b0
              try clear c9b1
              try clear c10
              try clear c10b0
              try clear c10b1
              try clear c11
              try clear p11
              try clear q11
              try clear hx11
              try clear qi11
              try clear hf11
              try clear c14
              try clear hcz13_0
              try clear hcz13_1
              try clear hcz15_0
              try clear hcz15_1
              try clear hcz19_0
              try clear hcz19_1
              try clear hcz5_0
              try clear hcz5_1
              try clear hfz13_0
              try clear hfz13_1
              try clear hfz15_0
              try clear hfz15_1
              try clear hfz19_0
              try clear hfz19_1
              try clear hfz5_0
              try clear hfz5_1
              try clear hx11_0
              try clear p11
              try clear q11
              obtain ⟨x6_1, x7_1, rfl, HA, HK1, HO_5, HO_6, BK280, HB⟩ := hrel
              have hl6_1 := (Kd.R_reads' HO_6.out).1
              rw [hl6_1] at HO_6
              (try simp only [hl6_1])
              (try simp only [hl6_1] at BK280)
              (try simp only [hl6_1] at HO_5)
              cases gk with
              | zero => exact absurd HA.out (by simp [remontoireref13_Payload.l0])
              | succ k1 =>
                have H := HA.out
                clear HA
                simp only [remontoireref13_Payload.l0] at H
                by_cases c22 : x7_1 < (l0_1.length : Int)
                · rw [if_pos c22] at H
                  have c22b0 : decide (x7_1 < (l0_1.length : Int)) = true := decide_eq_true c22
                  clear c22
                  obtain ⟨ji23, hji23⟩ : ∃ j_ : Int, (wrap64 ((wrap64 (2 * x7_1)) + 1)) = j_ := ⟨_, rfl⟩
                  replace H : (if 0 ≤ (ji23) then (if (ji23) < (t282.length : Int) then (if 0 ≤ x7_1 then ((remontoireref12_Fits.f k1 (rd l0_1 x7_1) (rd t282 (ji23))).bind fun t291 => (if t291 = true then (if (rd t282 (ji23)) < 0 then (remontoireref13_Payload.j1 k1 t282 x6_1 x7_1 (wrap64 (-(rd t282 (ji23)))) a0_0 l0_1) else (remontoireref13_Payload.j1 k1 t282 x6_1 x7_1 (rd t282 (ji23)) a0_0 l0_1)) else (some (([] : List Int), 2)))) else (none)) else (none)) else (none)) = some (r1, r2) := by first | (rw [hji23] at H; exact H) | (simp only [hji23] at H ⊢; exact H)
                  have hji23w : (IntKind.i64.wrap ((wrap64 (2 * x7_1)) + 1)) = ji23 := (i64_w _).trans hji23
                  by_cases c24 : 0 ≤ (ji23)
                  · rw [if_pos c24] at H
                    have c24b0 : decide (0 ≤ (ji23)) = true := decide_eq_true c24
                    clear c24
                    by_cases c25 : (ji23) < (t282.length : Int)
                    · rw [if_pos c25] at H
                      have c25b0 : decide ((ji23) < (t282.length : Int)) = true := decide_eq_true c25
                      clear c25
                      by_cases c26 : 0 ≤ x7_1
                      · rw [if_pos c26] at H
                        have c26b0 : decide (0 ≤ x7_1) = true := decide_eq_true c26
                        clear c26
                        replace H := Option.bind_eq_some_iff.mp H
                        obtain ⟨t291, A270, H⟩ := H
                        replace H : (if t291 = true then (if (rd t282 (ji23)) < 0 then (remontoireref13_Payload.j1 k1 t282 x6_1 x7_1 (wrap64 (-(rd t282 (ji23)))) a0_0 l0_1) else (remontoireref13_Payload.j1 k1 t282 x6_1 x7_1 (rd t282 (ji23)) a0_0 l0_1)) else (some (([] : List Int), 2))) = some (r1, r2) := H
                        have A27 := Aside0.mk A270
                        clear A270
                        by_cases c28 : t291 = true
                        · subst c28
                          have H1 : (if (rd t282 (ji23)) < 0 then (remontoireref13_Payload.j1 k1 t282 x6_1 x7_1 (wrap64 (-(rd t282 (ji23)))) a0_0 l0_1) else (remontoireref13_Payload.j1 k1 t282 x6_1 x7_1 (rd t282 (ji23)) a0_0 l0_1)) = some (r1, r2) := by rw [if_pos rfl] at H; exact H
                          clear H
                          have H := H1
                          clear H1
                          have HC29 := Aside0.mk H
                          clear H
                          have hcz30_0 : wr.cell? ⟨gb280, 0, none⟩ = some (.int .u8 a0_0) := (blk_cell BK280.out 0).trans rfl
                          have hcz30_1 : wr.cell? ⟨gb280, 1, none⟩ = some (.slice A0_1 l0_1.length c0_1) := (blk_cell BK280.out 1).trans rfl
                          have hfz30_0 := blk_frozen BK280.out 0
                          have hfz30_1 := blk_frozen BK280.out 1
                          have p289 : 0 ≤ ((ji23) : Int) := of_decide_eq_true (by first | (with_reducible assumption) | assumption)
                          have q289 : (ji23) < (t282.length : Int) := of_decide_eq_true (by first | (with_reducible assumption) | assumption)
                          obtain ⟨ad289, e289, hx289_0⟩ := Kd.at_int (Kd.R_reads' HO_5.out).2.2 (ji23) p289 q289
                          cases e289
                          replace p289 := eq_true p289
                          replace q289 := eq_true q289
                          have p290 : 0 ≤ (x7_1 : Int) := of_decide_eq_true (by first | (with_reducible assumption) | assumption)
                          have q290 : x7_1 < (l0_1.length : Int) := of_decide_eq_true (by first | (with_reducible assumption) | assumption)
                          obtain ⟨ad290, e290, hx290_0⟩ := Kd.at_int HR0_1.out x7_1 p290 q290
                          cases e290
                          replace hx290_0 := (HB.out.cell (World.block_lt_of_cell? w _ hx290_0)).trans hx290_0
                          replace p290 := eq_true p290
                          replace q290 := eq_true q290
                          go_upto_if 55 with (first | ((with_reducible refine gate_callee (f := 21) rfl ?_); refine goesL_ (some 52) rfl rfl Try.func21 (by kernel_rfl) rfl #[.int .i64 (rd l0_1 x7_1), .int .i64 (rd t282 (ji23))] rfl (by (try simp only [List.map_toArray, List.map_cons, List.map_nil]); first | done | (simp only [hji23]; rfl) | rfl | (simp only [List.length_drop, List.length_take]; rfl)) ?_; (with_reducible refine (remontoireref12_Fits.calls k1 (rd l0_1 x7_1) (rd t282 (ji23)) true _ A27.out).mono ?_); rintro e w' ⟨rfl, ⟨nd, rfl⟩⟩; refine ⟨_, rfl, ?_⟩))
                          (try simp only [Act.put, List.setIfInBounds_toArray, List.set_cons_zero, List.set_cons_succ])
                          go_cut [8] (fun v8 wc => ∃ (kq : Nat) (x8_28 : Int), v8 = .int .i64 x8_28 ∧ Aside0 (remontoireref13_Payload.j1 kq t282 x6_1 x7_1 x8_28 a0_0 l0_1 = some (r1, r2)) ∧ Aside0 (kq ≤ k1) ∧ Aside0 (Kd.R (Kd.int .i64) 3 wc w.heap.size (fun _ => True) (.slice (some ad289) t282.length co16) t282) ∧ Aside0 (Kd.R (Kd.int .u8) 5 wc w.heap.size (fun _ => True) (.slice (some ⟨go11, 0, none⟩) x6_1.length co11) x6_1) ∧ Aside0 (wc.heap[gb280]? = some (.cells #[.int .u8 a0_0, (.slice (some ad290) l0_1.length c0_1)] 26 (0, 0))) ∧ Aside0 (Below w.heap.size w wc))
                          case first =>
                            have H := HC29.out
                            clear HC29
                            by_cases c31 : (rd t282 (ji23)) < 0
                            · rw [if_pos c31] at H
                              have c31b0 : decide ((rd t282 (ji23)) < 0) = true := decide_eq_true c31
                              clear c31
                              (first | rw [c31b0] | (simp only [i64_w, i32_w]; rw [c31b0]) | skip)
                              have H' := Aside0.mk H
                              clear H
                              go_wp2
                              go_meet
                              case rel => exact ⟨_, (wrap64 (-(rd t282 (ji23)))), (by first | rfl | (simp; done) | (simp only [← hji23] <;> (first | rfl | simp)) | (simp [*]; done)), H', ⟨by have := HK1.out; first | omega | exact Nat.le_refl _⟩, ⟨by (try simp only [hl6_1]); (with_reducible repeat (first | apply Kd.R_alloc | apply Kd.R_drewN | apply Kd.R_drew)); exact HO_5.out⟩, ⟨by (try simp only [hl6_1]); (with_reducible repeat (first | apply Kd.R_alloc | apply Kd.R_drewN | apply Kd.R_drew)); exact HO_6.out⟩, ⟨by (try simp only [hl6_1]); (with_reducible repeat (first | refine blk_drewN ?_ _ | refine blk_drew ?_ | refine blk_alloc ?_ _)); exact BK280.out⟩, ⟨by repeat (first | (with_reducible first | exact HB.out | apply below_alloc | apply pw_below_drewN | apply below_drew1 | refine below_set ?_ GE280.out) | exact HB.out)⟩⟩
                            · rw [if_neg c31] at H
                              have c31b0 : decide ((rd t282 (ji23)) < 0) = false := decide_eq_false c31
                              clear c31
                              (first | rw [c31b0] | (simp only [i64_w, i32_w]; rw [c31b0]) | skip)
                              have H' := Aside0.mk H
                              clear H
                              go_wp2
                              go_meet
                              case rel => exact ⟨_, (rd t282 (ji23)), (by first | rfl | (simp; done) | (simp only [← hji23] <;> (first | rfl | simp)) | (simp [*]; done)), H', ⟨by have := HK1.out; first | omega | exact Nat.le_refl _⟩, ⟨by (try simp only [hl6_1]); (with_reducible repeat (first | apply Kd.R_alloc | apply Kd.R_drewN | apply Kd.R_drew)); exact HO_5.out⟩, ⟨by (try simp only [hl6_1]); (with_reducible repeat (first | apply Kd.R_alloc | apply Kd.R_drewN | apply Kd.R_drew)); exact HO_6.out⟩, ⟨by (try simp only [hl6_1]); (with_reducible repeat (first | refine blk_drewN ?_ _ | refine blk_drew ?_ | refine blk_alloc ?_ _)); exact BK280.out⟩, ⟨by repeat (first | (with_reducible first | exact HB.out | apply below_alloc | apply pw_below_drewN | apply below_drew1 | refine below_set ?_ GE280.out) | exact HB.out)⟩⟩
                          case rest =>
                            clear HC29
                            try clear c1
                            try clear p1
                            try clear q1
                            try clear hx1
                            try clear qi1
                            try clear hf1
                            try clear c2
                            try clear p2
                            try clear q2
                            try clear hx2
                            try clear c3
                            try clear c3b0
                            try clear c3b1
                            try clear p6
                            try clear c7
                            try clear c7b0
                            try clear c7b1
                            try clear c8
                            try clear c8b0
                            try clear c8b1
                            try clear c9
                            try clear c9b0
                            try clear c9b1
                            try clear c10
                            try clear c10b0
                            try clear c10b1
                            try clear c11
                            try clear p11
                            try clear q11
                            try clear hx11
                            try clear qi11
                            try clear hf11
                            try clear c14
                            try clear c21
                            try clear c22
                            try clear c22b0
                            try clear c24
                            try clear c24b0
                            try clear c25
                            try clear c25b0
                            try clear c26
                            try clear c26b0
                            try clear c28
                            try clear p28
                            try clear q28
                            try clear hx28
                            try clear p29
                            try clear q29
                            try clear hx29
                            try clear c31
                            try clear c31b0
                            try clear hcz13_0
                            try clear hcz13_1
                            try clear hcz15_0
                            try clear hcz15_1
                            try clear hcz19_0
                            try clear hcz19_1
                            try clear hcz30_0
                            try clear hcz30_1
                            try clear hcz5_0
                            try clear hcz5_1
                            try clear hfz13_0
                            try clear hfz13_1
                            try clear hfz15_0
                            try clear hfz15_1
                            try clear hfz19_0
                            try clear hfz19_1
                            try clear hfz30_0
                            try clear hfz30_1
                            try clear hfz5_0
                            try clear hfz5_1
                            try clear hx11_0
                            try clear hx289_0
                            try clear hx290_0
                            try clear p1
                            try clear p11
                            try clear p2
                            try clear p289
                            try clear p290
                            try clear p6
                            try clear q1
                            try clear q11
                            try clear q289
                            try clear q290
                            obtain ⟨kq, x8_28, rfl, HA, HJ28, HO_5, HO_6, BK280, HB⟩ := hcut
                            cases kq with
                            | zero => exact absurd HA.out (by simp [remontoireref13_Payload.j1])
                            | succ kj28 =>
                              have H := HA.out
                              clear HA
                              simp only [remontoireref13_Payload.j1] at H
                              by_cases c32 : 0 ≤ x7_1
                              · rw [if_pos c32] at H
                                have c32b0 : decide (0 ≤ x7_1) = true := decide_eq_true c32
                                clear c32
                                by_cases c33 : x7_1 < (l0_1.length : Int)
                                · rw [if_pos c33] at H
                                  have c33b0 : decide (x7_1 < (l0_1.length : Int)) = true := decide_eq_true c33
                                  clear c33
                                  have H' := Aside0.mk H
                                  clear H
                                  have hcz34_0 : wc.cell? ⟨gb280, 0, none⟩ = some (.int .u8 a0_0) := (blk_cell BK280.out 0).trans rfl
                                  have hcz34_1 : wc.cell? ⟨gb280, 1, none⟩ = some (.slice (some ad290) l0_1.length c0_1) := (blk_cell BK280.out 1).trans rfl
                                  have hfz34_0 := blk_frozen BK280.out 0
                                  have hfz34_1 := blk_frozen BK280.out 1
                                  have p292 : 0 ≤ (x7_1 : Int) := of_decide_eq_true (by first | (with_reducible assumption) | assumption)
                                  have q292 : x7_1 < (l0_1.length : Int) := of_decide_eq_true (by first | (with_reducible assumption) | assumption)
                                  obtain ⟨ad292, e292, hx292_0⟩ := Kd.at_int HR0_1.out x7_1 p292 q292
                                  obtain rfl : ad290 = ad292 := (by injection e292)
                                  replace hx292_0 := (HB.out.cell (World.block_lt_of_cell? w _ hx292_0)).trans hx292_0
                                  replace p292 := eq_true p292
                                  replace q292 := eq_true q292
                                  go_wp2
                                  go_loopg [9, 10] kj28 (fun kq v9 v10 w' => ∃ (x6_3 : List Int) (x9_3 : Int) (x10_3 : Int), v9 = .int .i64 x9_3 ∧ v10 = .int .i64 x10_3 ∧ Aside0 (remontoireref13_Payload.l1 kq t282 x6_3 x7_1 x9_3 x10_3 a0_0 l0_1 = some (r1, r2)) ∧ Aside0 (kq ≤ kj28) ∧ Aside0 (Kd.R (Kd.int .i64) 3 w' w.heap.size (fun _ => True) (.slice (some ad289) t282.length co16) t282) ∧ Aside0 (Kd.R (Kd.int .u8) 5 w' w.heap.size (fun _ => True) (.slice (some ⟨go11, 0, none⟩) x6_1.length co11) x6_3) ∧ Aside0 (w'.heap[gb280]? = some (.cells #[.int .u8 a0_0, (.slice (some ad290) l0_1.length c0_1)] 26 (0, 0))) ∧ Aside0 (Below w.heap.size w w'))
                                  case atStart => exact ⟨(x6_1), (rd l0_1 x7_1), (wrap64 (x8_28 - 1)), (by first | rfl | (simp; done) | (simp [*]; done)), (by first | rfl | (simp; done) | (simp [*]; done)), H', ⟨Nat.le_refl _⟩, ⟨by (try simp only [hl6_1]); (with_reducible repeat (first | apply Kd.R_alloc | apply Kd.R_drewN | apply Kd.R_drew)); exact HO_5.out⟩, ⟨by (try simp only [hl6_1]); (with_reducible repeat (first | apply Kd.R_alloc | apply Kd.R_drewN | apply Kd.R_drew)); exact HO_6.out⟩, ⟨by (try simp only [hl6_1]); (with_reducible repeat (first | refine blk_drewN ?_ _ | refine blk_drew ?_ | refine blk_alloc ?_ _)); exact BK280.out⟩, ⟨by repeat (first | (with_reducible first | exact HB.out | apply below_alloc | apply pw_below_drewN | apply below_drew1 | refine below_set ?_ GE280.out) | exact HB.out)⟩⟩
                                  case round =>
                                    clear H'
                                    try clear c1
                                    try clear p1
                                    try clear q1
                                    try clear hx1
                                    try clear qi1
                                    try clear hf1
                                    try clear c2
                                    try clear p2
                                    try clear q2
                                    try clear hx2
                                    try clear c3
                                    try clear c3b0
                                    try clear c3b1
                                    try clear p6
                                    try clear c7
                                    try clear c7b0
                                    try clear c7b1
                                    try clear c8
                                    try clear c8b0
                                    try clear c8b1
                                    try clear c9
                                    try clear c9b0
                                    try clear c9b1
                                    try clear c10
                                    try clear c10b0
                                    try clear c10b1
                                    try clear c11
                                    try clear p11
                                    try clear q11
                                    try clear hx11
                                    try clear qi11
                                    try clear hf11
                                    try clear c14
                                    try clear c21
                                    try clear c22
                                    try clear c22b0
                                    try clear c24
                                    try clear c24b0
                                    try clear c25
                                    try clear c25b0
                                    try clear c26
                                    try clear c26b0
                                    try clear c28
                                    try clear p28
                                    try clear q28
                                    try clear hx28
                                    try clear p29
                                    try clear q29
                                    try clear hx29
                                    try clear c31
                                    try clear c31b0
                                    try clear c32
                                    try clear c32b0
                                    try clear c33
                                    try clear c33b0
                                    try clear hcz13_0
                                    try clear hcz13_1
                                    try clear hcz15_0
                                    try clear hcz15_1
                                    try clear hcz19_0
                                    try clear hcz19_1
                                    try clear hcz30_0
                                    try clear hcz30_1
                                    try clear hcz34_0
                                    try clear hcz34_1
                                    try clear hcz5_0
                                    try clear hcz5_1
                                    try clear hfz13_0
                                    try clear hfz13_1
                                    try clear hfz15_0
                                    try clear hfz15_1
                                    try clear hfz19_0
                                    try clear hfz19_1
                                    try clear hfz30_0
                                    try clear hfz30_1
                                    try clear hfz34_0
                                    try clear hfz34_1
                                    try clear hfz5_0
                                    try clear hfz5_1
                                    try clear hx11_0
                                    try clear hx289_0
                                    try clear hx290_0
                                    try clear hx292_0
                                    try clear p1
                                    try clear p11
                                    try clear p2
                                    try clear p28
                                    try clear p289
                                    try clear p29
                                    try clear p290
                                    try clear p292
                                    try clear p6
                                    try clear q1
                                    try clear q11
                                    try clear q2
                                    try clear q28
                                    try clear q289
                                    try clear q29
                                    try clear q290
                                    try clear q292
                                    obtain ⟨x6_3, x9_3, x10_3, rfl, rfl, HA, HK3, HO_5, HO_6, BK280, HB⟩ := hrel
                                    have hl6_3 := (Kd.R_reads' HO_6.out).1
                                    rw [hl6_3] at HO_6
                                    (try simp only [hl6_3])
                                    (try simp only [hl6_3] at BK280)
                                    (try simp only [hl6_3] at HO_5)
                                    cases gk with
                                    | zero => exact absurd HA.out (by simp [remontoireref13_Payload.l1])
                                    | succ k3 =>
                                      have H := HA.out
                                      clear HA
                                      simp only [remontoireref13_Payload.l1] at H
                                      by_cases c35 : x10_3 ≥ 0
                                      · rw [if_pos c35] at H
                                        have c35b0 : decide (0 ≤ x10_3) = true := decide_eq_true c35
                                        clear c35
                                        by_cases c36 : (Int.tmod x9_3 256) < 0
                                        · rw [if_pos c36] at H
                                          have c36b0 : decide ((Int.tmod x9_3 256) < 0) = true := decide_eq_true c36
                                          clear c36
                                          obtain ⟨ji37, hji37⟩ : ∃ j_ : Int, (wrap64 (2 * x7_1)) = j_ := ⟨_, rfl⟩
                                          replace H : (if 0 ≤ (ji37) then (if (ji37) < (t282.length : Int) then (if 0 ≤ (wrap64 ((rd t282 (ji37)) + x10_3)) then (if (wrap64 ((rd t282 (ji37)) + x10_3)) < (x6_3.length : Int) then (remontoireref13_Payload.l1 k3 t282 (x6_3.set ((wrap64 ((rd t282 (ji37)) + x10_3)) : Int).toNat ((wrap64 ((Int.tmod x9_3 256) + 256)) % 256)) x7_1 (wrap64 (Int.tdiv (wrap64 (x9_3 - (wrap64 ((Int.tmod x9_3 256) + 256)))) 256)) (wrap64 (x10_3 - 1)) a0_0 l0_1) else (none)) else (none)) else (none)) else (none)) = some (r1, r2) := by first | (rw [hji37] at H; exact H) | (simp only [hji37] at H ⊢; exact H)
                                          have hji37w : (IntKind.i64.wrap (2 * x7_1)) = ji37 := (i64_w _).trans hji37
                                          by_cases c38 : 0 ≤ (ji37)
                                          · rw [if_pos c38] at H
                                            have c38b0 : decide (0 ≤ (ji37)) = true := decide_eq_true c38
                                            clear c38
                                            by_cases c39 : (ji37) < (t282.length : Int)
                                            · rw [if_pos c39] at H
                                              have c39b0 : decide ((ji37) < (t282.length : Int)) = true := decide_eq_true c39
                                              clear c39
                                              obtain ⟨ji40, hji40⟩ : ∃ j_ : Int, (wrap64 ((rd t282 (ji37)) + x10_3)) = j_ := ⟨_, rfl⟩
                                              replace H : (if 0 ≤ (ji40) then (if (ji40) < (x6_3.length : Int) then (remontoireref13_Payload.l1 k3 t282 (x6_3.set ((ji40) : Int).toNat ((wrap64 ((Int.tmod x9_3 256) + 256)) % 256)) x7_1 (wrap64 (Int.tdiv (wrap64 (x9_3 - (wrap64 ((Int.tmod x9_3 256) + 256)))) 256)) (wrap64 (x10_3 - 1)) a0_0 l0_1) else (none)) else (none)) = some (r1, r2) := by first | (rw [hji40] at H; exact H) | (simp only [hji40] at H ⊢; exact H)
                                              have hji40w : (IntKind.i64.wrap ((rd t282 (ji37)) + x10_3)) = ji40 := (i64_w _).trans hji40
                                              by_cases c41 : 0 ≤ (ji40)
                                              · rw [if_pos c41] at H
                                                have c41b0 : decide (0 ≤ (ji40)) = true := decide_eq_true c41
                                                clear c41
                                                by_cases c42 : (ji40) < (x6_3.length : Int)
                                                · rw [if_pos c42] at H
                                                  have c42b0 : decide ((ji40) < (x6_3.length : Int)) = true := decide_eq_true c42
                                                  clear c42
                                                  obtain ⟨y294, hy294⟩ : ∃ y_ : List Int, y_ = (x6_3.set ((ji40) : Int).toNat ((wrap64 ((Int.tmod x9_3 256) + 256)) % 256)) := ⟨_, rfl⟩
                                                  replace H : (remontoireref13_Payload.l1 k3 t282 y294 x7_1 (wrap64 (Int.tdiv (wrap64 (x9_3 - (wrap64 ((Int.tmod x9_3 256) + 256)))) 256)) (wrap64 (x10_3 - 1)) a0_0 l0_1) = some (r1, r2) := by first | (rw [hy294]; with_reducible exact H) | (have H2_ := (Option.bind_some _ _).symm.trans H; rw [hy294]; with_reducible exact H2_) | (have H2_ := (Option.bind_some _ _).symm.trans H; with_reducible exact H2_) | with_reducible exact H | (rw [hy294]; exact H) | exact H
                                                  have Ny294 := Aside0.mk hy294
                                                  clear hy294
                                                  have H' := Aside0.mk H
                                                  clear H
                                                  have p293 : 0 ≤ ((ji37) : Int) := of_decide_eq_true (by first | (with_reducible assumption) | assumption)
                                                  have q293 : (ji37) < (t282.length : Int) := of_decide_eq_true (by first | (with_reducible assumption) | assumption)
                                                  obtain ⟨ad293, e293, hx293_0⟩ := Kd.at_int (Kd.R_reads' HO_5.out).2.2 (ji37) p293 q293
                                                  obtain rfl : ad289 = ad293 := (by injection e293)
                                                  replace p293 := eq_true p293
                                                  replace q293 := eq_true q293
                                                  have p43 : 0 ≤ ((ji40) : Int) := of_decide_eq_true (by first | (with_reducible assumption) | assumption)
                                                  have q43 : ((ji40) : Int) < ((x6_3.length : Int) : Int) := of_decide_eq_true (by first | (with_reducible assumption) | assumption)
                                                  obtain ⟨hx43_0, hf43_0⟩ := Kd.R_celln 0 HO_6.out ((ji40) : Int) p43 q43
                                                  replace p43 := eq_true p43
                                                  replace q43 := eq_true q43
                                                  have HP44 := Kd.R_putg HO_6.out ((ji40) : Int) ((wrap64 ((Int.tmod x9_3 256) + 256)) % 256)
                                                  go_wp2_with (first | ((with_reducible refine gate_store (t := 5) (p := 85) rfl ?_); refine store_event (t := 5) (p := 85) (v := ?vo_w45) (w1 := (wr.setCell ⟨go11, ((ji40) : Int).toNat, none⟩ (.int .u8 ((wrap64 ((Int.tmod x9_3 256) + 256)) % 256)))) ?hg ?ho ?hn ?hr ?_; (case ho => rfl); (case hg => rfl); (case hn => rfl); (case hr => first | (go_simp; done) | (go_simp; rfl)); intro w45 hw; have hg : wr.grownBy w45 (some go11) := (by rw [hw]; exact HP44.2); have hp_ : Kd.R (Kd.int .u8) 5 w45 w.heap.size (fun _ => True) (.slice (some ⟨go11, 0, none⟩) x6_3.length co11) y294 := (by rw [hw, Ny294.out]; exact HP44.1); clear HP44; have n0_ := Aside0.mk (Kd.R_over' (v := (.slice (some ⟨go11, 0, none⟩) x6_3.length co11)) (by (with_reducible repeat (first | apply Kd.R_alloc | apply Kd.R_drewN | apply Kd.R_drew)); exact HO_5.out) (Kd.R_typed HO_6.out) (by decide) hg); have n1_ := Aside0.mk (hp_); have n2_ := Aside0.mk (blk_grown (g := gb280) (o := .cells #[.int .u8 a0_0, .slice (some ad290) l0_1.length c0_1] 26 (0, 0)) (by (with_reducible repeat (first | refine blk_drewN ?_ _ | refine blk_drew ?_ | refine blk_alloc ?_ _)); exact BK280.out) hg (Kd.R_ne HO_6.out BK280.out (by decide))); have n3_ := Aside0.mk ((by rw [hw]; exact below_set (HB.out) GB11.out : Below w.heap.size w w45)); clear HO_5; clear HO_6; clear BK280; clear HB; have HO_5 := n0_; have HO_6 := n1_; have BK280 := n2_; have HB := n3_; clear n0_ n1_ n2_ n3_; clear hg hw hp_))
                                                  (try simp only [← hl6_3])
                                                  go_roundg k3
                                                  case measure => have := HK1.out; have := HJ28.out; have := HK3.out; omega
                                                  case rel => exact ⟨(y294), (wrap64 (Int.tdiv (wrap64 (x9_3 - (wrap64 ((Int.tmod x9_3 256) + 256)))) 256)), (wrap64 (x10_3 - 1)), (by first | rfl | (simp; done) | (simp [*]; done)), (by first | rfl | (simp; done) | (simp [*]; done)), H', ⟨by have := HK1.out; have := HJ28.out; have := HK3.out; omega⟩, ⟨by (try simp only [hl6_1]); (try simp only [hl6_3]); (with_reducible repeat (first | apply Kd.R_alloc | apply Kd.R_drewN | apply Kd.R_drew)); exact HO_5.out⟩, ⟨by (try simp only [hl6_1]); (try simp only [hl6_3]); (with_reducible repeat (first | apply Kd.R_alloc | apply Kd.R_drewN | apply Kd.R_drew)); exact HO_6.out⟩, ⟨by (try simp only [hl6_1]); (try simp only [hl6_3]); (with_reducible repeat (first | refine blk_drewN ?_ _ | refine blk_drew ?_ | refine blk_alloc ?_ _)); exact BK280.out⟩, ⟨by repeat (first | (with_reducible first | exact HB.out | apply below_alloc | apply pw_below_drewN | apply below_drew1 | refine below_set ?_ GE280.out) | exact HB.out)⟩⟩
                                                · rw [if_neg c42] at H
                                                  exact absurd H (by simp)
                                              · rw [if_neg c41] at H
                                                exact absurd H (by simp)
                                            · rw [if_neg c39] at H
                                              exact absurd H (by simp)
                                          · rw [if_neg c38] at H
                                            exact absurd H (by simp)
                                        · rw [if_neg c36] at H
                                          have c36b0 : decide ((Int.tmod x9_3 256) < 0) = false := decide_eq_false c36
                                          clear c36
                                          obtain ⟨ji46, hji46⟩ : ∃ j_ : Int, (wrap64 (2 * x7_1)) = j_ := ⟨_, rfl⟩
                                          replace H : (if 0 ≤ (ji46) then (if (ji46) < (t282.length : Int) then (if 0 ≤ (wrap64 ((rd t282 (ji46)) + x10_3)) then (if (wrap64 ((rd t282 (ji46)) + x10_3)) < (x6_3.length : Int) then (remontoireref13_Payload.l1 k3 t282 (x6_3.set ((wrap64 ((rd t282 (ji46)) + x10_3)) : Int).toNat ((Int.tmod x9_3 256) % 256)) x7_1 (wrap64 (Int.tdiv (wrap64 (x9_3 - (Int.tmod x9_3 256))) 256)) (wrap64 (x10_3 - 1)) a0_0 l0_1) else (none)) else (none)) else (none)) else (none)) = some (r1, r2) := by first | (rw [hji46] at H; exact H) | (simp only [hji46] at H ⊢; exact H)
                                          have hji46w : (IntKind.i64.wrap (2 * x7_1)) = ji46 := (i64_w _).trans hji46
                                          by_cases c47 : 0 ≤ (ji46)
                                          · rw [if_pos c47] at H
                                            have c47b0 : decide (0 ≤ (ji46)) = true := decide_eq_true c47
                                            clear c47
                                            by_cases c48 : (ji46) < (t282.length : Int)
                                            · rw [if_pos c48] at H
                                              have c48b0 : decide ((ji46) < (t282.length : Int)) = true := decide_eq_true c48
                                              clear c48
                                              obtain ⟨ji49, hji49⟩ : ∃ j_ : Int, (wrap64 ((rd t282 (ji46)) + x10_3)) = j_ := ⟨_, rfl⟩
                                              replace H : (if 0 ≤ (ji49) then (if (ji49) < (x6_3.length : Int) then (remontoireref13_Payload.l1 k3 t282 (x6_3.set ((ji49) : Int).toNat ((Int.tmod x9_3 256) % 256)) x7_1 (wrap64 (Int.tdiv (wrap64 (x9_3 - (Int.tmod x9_3 256))) 256)) (wrap64 (x10_3 - 1)) a0_0 l0_1) else (none)) else (none)) = some (r1, r2) := by first | (rw [hji49] at H; exact H) | (simp only [hji49] at H ⊢; exact H)
                                              have hji49w : (IntKind.i64.wrap ((rd t282 (ji46)) + x10_3)) = ji49 := (i64_w _).trans hji49
                                              by_cases c50 : 0 ≤ (ji49)
                                              · rw [if_pos c50] at H
                                                have c50b0 : decide (0 ≤ (ji49)) = true := decide_eq_true c50
                                                clear c50
                                                by_cases c51 : (ji49) < (x6_3.length : Int)
                                                · rw [if_pos c51] at H
                                                  have c51b0 : decide ((ji49) < (x6_3.length : Int)) = true := decide_eq_true c51
                                                  clear c51
                                                  obtain ⟨y296, hy296⟩ : ∃ y_ : List Int, y_ = (x6_3.set ((ji49) : Int).toNat ((Int.tmod x9_3 256) % 256)) := ⟨_, rfl⟩
                                                  replace H : (remontoireref13_Payload.l1 k3 t282 y296 x7_1 (wrap64 (Int.tdiv (wrap64 (x9_3 - (Int.tmod x9_3 256))) 256)) (wrap64 (x10_3 - 1)) a0_0 l0_1) = some (r1, r2) := by first | (rw [hy296]; with_reducible exact H) | (have H2_ := (Option.bind_some _ _).symm.trans H; rw [hy296]; with_reducible exact H2_) | (have H2_ := (Option.bind_some _ _).symm.trans H; with_reducible exact H2_) | with_reducible exact H | (rw [hy296]; exact H) | exact H
                                                  have Ny296 := Aside0.mk hy296
                                                  clear hy296
                                                  have H' := Aside0.mk H
                                                  clear H
                                                  have p295 : 0 ≤ ((ji46) : Int) := of_decide_eq_true (by first | (with_reducible assumption) | assumption)
                                                  have q295 : (ji46) < (t282.length : Int) := of_decide_eq_true (by first | (with_reducible assumption) | assumption)
                                                  obtain ⟨ad295, e295, hx295_0⟩ := Kd.at_int (Kd.R_reads' HO_5.out).2.2 (ji46) p295 q295
                                                  obtain rfl : ad289 = ad295 := (by injection e295)
                                                  replace p295 := eq_true p295
                                                  replace q295 := eq_true q295
                                                  have p52 : 0 ≤ ((ji49) : Int) := of_decide_eq_true (by first | (with_reducible assumption) | assumption)
                                                  have q52 : ((ji49) : Int) < ((x6_3.length : Int) : Int) := of_decide_eq_true (by first | (with_reducible assumption) | assumption)
                                                  obtain ⟨hx52_0, hf52_0⟩ := Kd.R_celln 0 HO_6.out ((ji49) : Int) p52 q52
                                                  replace p52 := eq_true p52
                                                  replace q52 := eq_true q52
                                                  have HP53 := Kd.R_putg HO_6.out ((ji49) : Int) ((Int.tmod x9_3 256) % 256)
                                                  go_wp2_with (first | ((with_reducible refine gate_store (t := 5) (p := 85) rfl ?_); refine store_event (t := 5) (p := 85) (v := ?vo_w54) (w1 := (wr.setCell ⟨go11, ((ji49) : Int).toNat, none⟩ (.int .u8 ((Int.tmod x9_3 256) % 256)))) ?hg ?ho ?hn ?hr ?_; (case ho => rfl); (case hg => rfl); (case hn => rfl); (case hr => first | (go_simp; done) | (go_simp; rfl)); intro w54 hw; have hg : wr.grownBy w54 (some go11) := (by rw [hw]; exact HP53.2); have hp_ : Kd.R (Kd.int .u8) 5 w54 w.heap.size (fun _ => True) (.slice (some ⟨go11, 0, none⟩) x6_3.length co11) y296 := (by rw [hw, Ny296.out]; exact HP53.1); clear HP53; have n0_ := Aside0.mk (Kd.R_over' (v := (.slice (some ⟨go11, 0, none⟩) x6_3.length co11)) (by (with_reducible repeat (first | apply Kd.R_alloc | apply Kd.R_drewN | apply Kd.R_drew)); exact HO_5.out) (Kd.R_typed HO_6.out) (by decide) hg); have n1_ := Aside0.mk (hp_); have n2_ := Aside0.mk (blk_grown (g := gb280) (o := .cells #[.int .u8 a0_0, .slice (some ad290) l0_1.length c0_1] 26 (0, 0)) (by (with_reducible repeat (first | refine blk_drewN ?_ _ | refine blk_drew ?_ | refine blk_alloc ?_ _)); exact BK280.out) hg (Kd.R_ne HO_6.out BK280.out (by decide))); have n3_ := Aside0.mk ((by rw [hw]; exact below_set (HB.out) GB11.out : Below w.heap.size w w54)); clear HO_5; clear HO_6; clear BK280; clear HB; have HO_5 := n0_; have HO_6 := n1_; have BK280 := n2_; have HB := n3_; clear n0_ n1_ n2_ n3_; clear hg hw hp_))
                                                  (try simp only [← hl6_3])
                                                  go_roundg k3
                                                  case measure => have := HK1.out; have := HJ28.out; have := HK3.out; omega
                                                  case rel => exact ⟨(y296), (wrap64 (Int.tdiv (wrap64 (x9_3 - (Int.tmod x9_3 256))) 256)), (wrap64 (x10_3 - 1)), (by first | rfl | (simp; done) | (simp [*]; done)), (by first | rfl | (simp; done) | (simp [*]; done)), H', ⟨by have := HK1.out; have := HJ28.out; have := HK3.out; omega⟩, ⟨by (try simp only [hl6_1]); (try simp only [hl6_3]); (with_reducible repeat (first | apply Kd.R_alloc | apply Kd.R_drewN | apply Kd.R_drew)); exact HO_5.out⟩, ⟨by (try simp only [hl6_1]); (try simp only [hl6_3]); (with_reducible repeat (first | apply Kd.R_alloc | apply Kd.R_drewN | apply Kd.R_drew)); exact HO_6.out⟩, ⟨by (try simp only [hl6_1]); (try simp only [hl6_3]); (with_reducible repeat (first | refine blk_drewN ?_ _ | refine blk_drew ?_ | refine blk_alloc ?_ _)); exact BK280.out⟩, ⟨by repeat (first | (with_reducible first | exact HB.out | apply below_alloc | apply pw_below_drewN | apply below_drew1 | refine below_set ?_ GE280.out) | exact HB.out)⟩⟩
                                                · rw [if_neg c51] at H
                                                  exact absurd H (by simp)
                                              · rw [if_neg c50] at H
                                                exact absurd H (by simp)
                                            · rw [if_neg c48] at H
                                              exact absurd H (by simp)
                                          · rw [if_neg c47] at H
                                            exact absurd H (by simp)
                                      · rw [if_neg c35] at H
                                        have c35b0 : decide (0 ≤ x10_3) = false := decide_eq_false c35
                                        clear c35
                                        have H' := Aside0.mk H
                                        clear H
                                        go_wp2
                                        (try simp only [← hl6_1, ← hl6_3])
                                        go_roundg k3
                                        case measure => have := HK1.out; have := HJ28.out; have := HK3.out; omega
                                        case rel => exact ⟨(x6_3), (wrap64 (x7_1 + 1)), (by first | rfl | (simp; done) | (simp [*]; done)), H', ⟨by have := HK1.out; have := HJ28.out; have := HK3.out; omega⟩, ⟨by (try simp only [hl6_1]); (try simp only [hl6_3]); (with_reducible repeat (first | apply Kd.R_alloc | apply Kd.R_drewN | apply Kd.R_drew)); exact HO_5.out⟩, ⟨by (try simp only [hl6_1]); (try simp only [hl6_3]); (with_reducible repeat (first | apply Kd.R_alloc | apply Kd.R_drewN | apply Kd.R_drew)); exact HO_6.out⟩, ⟨by (try simp only [hl6_1]); (try simp only [hl6_3]); (with_reducible repeat (first | refine blk_drewN ?_ _ | refine blk_drew ?_ | refine blk_alloc ?_ _)); exact BK280.out⟩, ⟨by repeat (first | (with_reducible first | exact HB.out | apply below_alloc | apply pw_below_drewN | apply below_drew1 | refine below_set ?_ GE280.out) | exact HB.out)⟩⟩
                                · rw [if_neg c33] at H
                                  exact absurd H (by simp)
                              · rw [if_neg c32] at H
                                exact absurd H (by simp)
                        · replace c28 := Bool.eq_false_iff.mpr c28
                          subst c28
                          have H1 : (some (([] : List Int), 2)) = some (r1, r2) := by rw [if_neg (show ¬ (false = true) by decide)] at H; exact H
                          clear H
                          have H := H1
                          clear H1
                          simp only [Option.some.injEq, Prod.mk.injEq] at H
                          obtain ⟨rfl, rfl⟩ := H
                          have hcz55_0 : wr.cell? ⟨gb280, 0, none⟩ = some (.int .u8 a0_0) := (blk_cell BK280.out 0).trans rfl
                          have hcz55_1 : wr.cell? ⟨gb280, 1, none⟩ = some (.slice A0_1 l0_1.length c0_1) := (blk_cell BK280.out 1).trans rfl
                          have hfz55_0 := blk_frozen BK280.out 0
                          have hfz55_1 := blk_frozen BK280.out 1
                          have p289 : 0 ≤ ((ji23) : Int) := of_decide_eq_true (by first | (with_reducible assumption) | assumption)
                          have q289 : (ji23) < (t282.length : Int) := of_decide_eq_true (by first | (with_reducible assumption) | assumption)
                          obtain ⟨ad289, e289, hx289_0⟩ := Kd.at_int (Kd.R_reads' HO_5.out).2.2 (ji23) p289 q289
                          cases e289
                          replace p289 := eq_true p289
                          replace q289 := eq_true q289
                          have p290 : 0 ≤ (x7_1 : Int) := of_decide_eq_true (by first | (with_reducible assumption) | assumption)
                          have q290 : x7_1 < (l0_1.length : Int) := of_decide_eq_true (by first | (with_reducible assumption) | assumption)
                          obtain ⟨ad290, e290, hx290_0⟩ := Kd.at_int HR0_1.out x7_1 p290 q290
                          cases e290
                          replace hx290_0 := (HB.out.cell (World.block_lt_of_cell? w _ hx290_0)).trans hx290_0
                          replace p290 := eq_true p290
                          replace q290 := eq_true q290
                          go_wp2_with (first | ((with_reducible refine gate_callee (f := 21) rfl ?_); refine goesL_ (some 52) rfl rfl Try.func21 (by kernel_rfl) rfl #[.int .i64 (rd l0_1 x7_1), .int .i64 (rd t282 (ji23))] rfl (by (try simp only [List.map_toArray, List.map_cons, List.map_nil]); first | done | (simp only [hji23]; rfl) | rfl | (simp only [List.length_drop, List.length_take]; rfl)) ?_; (with_reducible refine (remontoireref12_Fits.calls k1 (rd l0_1 x7_1) (rd t282 (ji23)) false _ A27.out).mono ?_); rintro e w' ⟨rfl, ⟨nd, rfl⟩⟩; refine ⟨_, rfl, ?_⟩))
                          go_ret2
                          exact ⟨_, by first | rfl | (simp [errW_none, errW_some] <;> rfl) | (simp only [← hji23]; first | rfl | (simp [errW_none, errW_some] <;> rfl)) | (simp [*, errW_none, errW_some] <;> rfl), by first | exact Kd.R_nil _ _ _ _ _ | exact Kd.N_nil _ _ _ _ _ | exact Kd.V_nil _ _ _ _ _ | exact Kd.Q_nil _ _ _ _ _ | exact Kd.S_nil _ _ _ _ _, by repeat (first | (with_reducible first | exact HB.out | apply below_alloc | apply pw_below_drewN | apply below_drew1 | refine below_set ?_ GE280.out) | exact HB.out)⟩
                      · rw [if_neg c26] at H
                        exact absurd H (by simp)
                    · rw [if_neg c25] at H
                      exact absurd H (by simp)
                  · rw [if_neg c24] at H
                    exact absurd H (by simp)
                · rw [if_neg c22] at H
                  have c22b0 : decide (x7_1 < (l0_1.length : Int)) = false := decide_eq_false c22
                  clear c22
                  simp only [Option.some.injEq, Prod.mk.injEq] at H
                  obtain ⟨rfl, rfl⟩ := H
                  have hcz56_0 : wr.cell? ⟨gb280, 0, none⟩ = some (.int .u8 a0_0) := (blk_cell BK280.out 0).trans rfl
                  have hcz56_1 : wr.cell? ⟨gb280, 1, none⟩ = some (.slice A0_1 l0_1.length c0_1) := (blk_cell BK280.out 1).trans rfl
                  have hfz56_0 := blk_frozen BK280.out 0
                  have hfz56_1 := blk_frozen BK280.out 1
                  go_wp2
                  go_ret2
                  exact ⟨_, by first | rfl | (simp [errW_none, errW_some] <;> rfl) | (simp [*, errW_none, errW_some] <;> rfl), by (with_reducible repeat (first | apply Kd.R_alloc | apply Kd.R_drewN | apply Kd.R_drew)); exact HO_6.out, by repeat (first | (with_reducible first | exact HB.out | apply below_alloc | apply pw_below_drewN | apply below_drew1 | refine below_set ?_ GE280.out) | exact HB.out)⟩
          · rw [if_neg c10] at H
            exact absurd H (by simp)
        · rw [if_neg c9] at H
          exact absurd H (by simp)
      · rw [if_neg c8] at H
        exact absurd H (by simp)
    · rw [if_neg c7] at H
      have c7b0 : ((wrap64 ((l0_1.length : Int) * 2)) == (t282.length : Int)) = false := beq_eq_false_iff_ne.mpr c7
      have c7b1 : ((wrap64 ((l0_1.length : Int) * 2)) != (t282.length : Int)) = true := bne_iff_ne.mpr c7
      simp only [Option.some.injEq, Prod.mk.injEq] at H
      obtain ⟨rfl, rfl⟩ := H
      go_enter Try.func11, Try.ntmps11
      go_wp2_with (first | ((with_reducible refine gate_dst (N := 1) rfl ?_); refine box_event ?hg (N := 1) ?hd (cs := #[.int .u8 a0_0, .slice A0_1 l0_1.length c0_1]) (t := 26) ?hr ?_; (case hd => rfl); (case hg => rfl); (case hr => first | (go_simp; done) | (go_simp; rfl)); intro gb280 hg w57 hbox hb; have n0_ := Aside0.mk (below_step (by repeat (first | (with_reducible first | exact HB.out | apply below_alloc | apply pw_below_drewN | apply below_drew1) | exact HB.out)) hb); have n1_ := Aside0.mk (hbox); have n2_ := Aside0.mk ((by rw [hg]; exact (below_size (by repeat (first | (with_reducible first | exact HB.out | apply below_alloc | apply pw_below_drewN | apply below_drew1) | exact HB.out))) : w.heap.size ≤ gb280)); have n3_ := Aside0.mk ((by rw [hg]; exact (below_size (by repeat (first | (with_reducible first | exact HB.out | apply below_alloc | apply pw_below_drewN | apply below_drew1) | exact HB.out))) : w.heap.size ≤ gb280)); clear HB; have HB := n0_; have BK280 := n1_; have GW280 := n2_; have GE280 := n3_; clear n0_ n1_ n2_ n3_; clear hb hbox hg; have hcz58_0 : w57.cell? ⟨gb280, 0, none⟩ = some (.int .u8 a0_0) := (blk_cell BK280.out 0).trans rfl; have hcz58_1 : w57.cell? ⟨gb280, 1, none⟩ = some (.slice A0_1 l0_1.length c0_1) := (blk_cell BK280.out 1).trans rfl; have hfz58_0 := blk_frozen BK280.out 0; have hfz58_1 := blk_frozen BK280.out 1) | ((with_reducible refine gate_callee (f := 14) rfl ?_); refine goesL_ (some 15) rfl rfl Try.func14 (by kernel_rfl) rfl #[.int .u8 a0_0] rfl (by (try simp only [List.map_toArray, List.map_cons, List.map_nil]); first | done | rfl | (simp only [List.length_drop, List.length_take]; rfl)) ?_; (with_reducible refine (remontoireref13_Layout.calls a0_0 t281 t282 _ A2.out).mono ?_); rintro e w59 ⟨v283, rfl, ho0, hb⟩; refine ⟨_, rfl, ?_⟩; have n0_ := Aside0.mk (Kd.R_lower ho0 (below_size (by repeat (first | (with_reducible first | exact HB.out | apply below_alloc | apply pw_below_drewN | apply below_drew1 | refine below_set ?_ GE280.out) | exact HB.out)))); have n1_ := Aside0.mk (blk_below (g := gb280) (o := .cells #[.int .u8 a0_0, .slice A0_1 l0_1.length c0_1] 26 (0, 0)) (by (with_reducible repeat (first | refine blk_drewN ?_ _ | refine blk_drew ?_ | refine blk_alloc ?_ _)); exact BK280.out) hb); have n2_ := Aside0.mk (below_step (by repeat (first | (with_reducible first | exact HB.out | apply below_alloc | apply pw_below_drewN | apply below_drew1 | refine below_set ?_ GE280.out) | exact HB.out)) hb); clear BK280; clear HB; have HO284 := n0_; have BK280 := n1_; have HB := n2_; clear n0_ n1_ n2_; (try clear hb); (try clear hb2); (try clear hk); (try clear hi); (try clear ho0); have hcz60_0 : w59.cell? ⟨gb280, 0, none⟩ = some (.int .u8 a0_0) := (blk_cell BK280.out 0).trans rfl; have hcz60_1 : w59.cell? ⟨gb280, 1, none⟩ = some (.slice A0_1 l0_1.length c0_1) := (blk_cell BK280.out 1).trans rfl; have hfz60_0 := blk_frozen BK280.out 0; have hfz60_1 := blk_frozen BK280.out 1; obtain ⟨Ao61, co61, eo61⟩ := Kd.R_slice HO284.out; subst eo61))
      go_ret2
      exact ⟨_, by first | rfl | (simp [errW_none, errW_some] <;> rfl) | (simp [*, errW_none, errW_some] <;> rfl), by first | exact Kd.R_nil _ _ _ _ _ | exact Kd.N_nil _ _ _ _ _ | exact Kd.V_nil _ _ _ _ _ | exact Kd.Q_nil _ _ _ _ _ | exact Kd.S_nil _ _ _ _ _, by repeat (first | (with_reducible first | exact HB.out | apply below_alloc | apply pw_below_drewN | apply below_drew1 | refine below_set ?_ GE280.out) | exact HB.out)⟩

end Go.Proofs.Ytoeompemgpaccaa.QSirf
