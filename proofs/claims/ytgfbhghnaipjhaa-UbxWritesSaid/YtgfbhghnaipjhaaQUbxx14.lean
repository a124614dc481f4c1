/- Written by a program of this session out of the translation: Lean functions for the Go functions of one package, and proofs that the calls come to them. -/
import Derived.Test.YtgfbhghnaipjhaaQUbxx0
import Derived.Test.YtgfbhghnaipjhaaQUbxx7
import Derived.Test.YtgfbhghnaipjhaaQUbxx8
import Derived.Test.YtgfbhghnaipjhaaQUbxx13
namespace Go.Proofs.Ytgfbhghnaipjhaa.QUbx
open Go.RowKit Go.Proofs.YtgfbhghnaipjhaaW.PrintWords Go.Proofs.YtgfbhghnaipjhaaW.PrintLast Go.Proofs.YtgfbhghnaipjhaaW.PrintMore
attribute [local go_sem] max2_int min2_int max_two min_two max_three min_three max_four min_four   -- for this text's walks alone
set_option linter.unusedVariables false
set_option linter.unusedSimpArgs false

/-! ### remontoireref12_Payload: function 11 -/
mutual
def remontoireref12_Payload.l0 : Nat → List Int → List Int → Int → Int → Int → List Int → Option (List Int × Int)
  | 0, _, _, _, _, _, _ => none
  | k + 1, x5, x6, x7, x269000, x269001, x269002 => if x7 < (x269002.length : Int) then (if 0 ≤ (wrap64 ((wrap64 (2 * x7)) + 1)) then (if (wrap64 ((wrap64 (2 * x7)) + 1)) < (x5.length : Int) then (if 0 ≤ x7 then ((remontoireref12_Fits.f k (rd x269002 x7) (rd x5 (wrap64 ((wrap64 (2 * x7)) + 1)))).bind fun t278 => (if t278 = true then (if (rd x5 (wrap64 ((wrap64 (2 * x7)) + 1))) < 0 then (remontoireref12_Payload.j1 k x5 x6 x7 (wrap64 (-(rd x5 (wrap64 ((wrap64 (2 * x7)) + 1))))) x269000 x269001 x269002) else (remontoireref12_Payload.j1 k x5 x6 x7 (rd x5 (wrap64 ((wrap64 (2 * x7)) + 1))) x269000 x269001 x269002)) else (some (([] : List Int), 2)))) else (none)) else (none)) else (none)) else (some (x6, 0))
def remontoireref12_Payload.j1 : Nat → List Int → List Int → Int → Int → Int → Int → List Int → Option (List Int × Int)
  | 0, _, _, _, _, _, _, _ => none
  | k + 1, x5, x6, x7, x8, x269000, x269001, x269002 => if 0 ≤ x7 then (if x7 < (x269002.length : Int) then (if (rd x269002 x7) < 0 then ((remontoireref12_power.f k x8).bind fun t280 => (remontoireref12_Payload.j2 k x5 x6 x7 x8 (wrap64 ((rd x269002 x7) + t280)) x269000 x269001 x269002)) else (remontoireref12_Payload.j2 k x5 x6 x7 x8 (rd x269002 x7) x269000 x269001 x269002)) else (none)) else (none)
def remontoireref12_Payload.j2 : Nat → List Int → List Int → Int → Int → Int → Int → Int → List Int → Option (List Int × Int)
  | 0, _, _, _, _, _, _, _, _ => none
  | k + 1, x5, x6, x7, x8, x9, x269000, x269001, x269002 => remontoireref12_Payload.l1 k x5 x6 x7 x8 x9 0 x269000 x269001 x269002
def remontoireref12_Payload.l1 : Nat → List Int → List Int → Int → Int → Int → Int → Int → Int → List Int → Option (List Int × Int)
  | 0, _, _, _, _, _, _, _, _, _ => none
  | k + 1, x5, x6, x7, x8, x9, x10, x269000, x269001, x269002 => if x10 < x8 then (if 0 ≤ (wrap64 (2 * x7)) then (if (wrap64 (2 * x7)) < (x5.length : Int) then (if 0 ≤ (wrap64 ((rd x5 (wrap64 (2 * x7))) + x10)) then (if (wrap64 ((rd x5 (wrap64 (2 * x7))) + x10)) < (x6.length : Int) then (remontoireref12_Payload.l1 k x5 (x6.set ((wrap64 ((rd x5 (wrap64 (2 * x7))) + x10)) : Int).toNat ((Int.tmod x9 256) % 256)) x7 x8 (wrap64 (Int.tdiv x9 256)) (wrap64 (x10 + 1)) x269000 x269001 x269002) else (none)) else (none)) else (none)) else (none)) else (remontoireref12_Payload.l0 k x5 x6 (wrap64 (x7 + 1)) x269000 x269001 x269002)
end
def remontoireref12_Payload.f (k : Nat) (a0_0 : Int) (a0_1 : Int) (l0_2 : List Int) : Option (List Int × Int) := (remontoireref12_Layout.f a0_0 a0_1).bind fun bt269 => (if bt269.1 = 0 then (some (([] : List Int), 7)) else (if (wrap64 ((l0_2.length : Int) * 2)) = (bt269.2.length : Int) then (if 0 ≤ bt269.1 then (if (bt269.1 : Int).toNat ≤ 281474976710656 then (remontoireref12_Payload.l0 k bt269.2 (List.replicate (bt269.1 : Int).toNat 0) 0 a0_0 a0_1 l0_2) else (none)) else (none)) else (some (([] : List Int), 2))))
theorem remontoireref12_Payload.mono_l : ∀ k, (∀ y0 y1 y2 y3 y4 y5, LeO (remontoireref12_Payload.l0 k y0 y1 y2 y3 y4 y5) (remontoireref12_Payload.l0 (k + 1) y0 y1 y2 y3 y4 y5)) ∧ (∀ y0 y1 y2 y3 y4 y5 y6, LeO (remontoireref12_Payload.j1 k y0 y1 y2 y3 y4 y5 y6) (remontoireref12_Payload.j1 (k + 1) y0 y1 y2 y3 y4 y5 y6)) ∧ (∀ y0 y1 y2 y3 y4 y5 y6 y7, LeO (remontoireref12_Payload.j2 k y0 y1 y2 y3 y4 y5 y6 y7) (remontoireref12_Payload.j2 (k + 1) y0 y1 y2 y3 y4 y5 y6 y7)) ∧ (∀ y0 y1 y2 y3 y4 y5 y6 y7 y8, LeO (remontoireref12_Payload.l1 k y0 y1 y2 y3 y4 y5 y6 y7 y8) (remontoireref12_Payload.l1 (k + 1) y0 y1 y2 y3 y4 y5 y6 y7 y8))
  | 0 => ⟨fun _ _ _ _ _ _ r h => by simp [remontoireref12_Payload.l0] at h, fun _ _ _ _ _ _ _ r h => by simp [remontoireref12_Payload.j1] at h, fun _ _ _ _ _ _ _ _ r h => by simp [remontoireref12_Payload.j2] at h, fun _ _ _ _ _ _ _ _ _ r h => by simp [remontoireref12_Payload.l1] at h⟩
  | k + 1 => by
    obtain ⟨ih0, ih1, ih2, ih3⟩ := remontoireref12_Payload.mono_l k
    refine ⟨?_, ?_, ?_, ?_⟩
    · intro y0 y1 y2 y3 y4 y5
      unfold remontoireref12_Payload.l0
      repeat' first
      | (with_reducible exact ih0 _ _ _ _ _ _)
      | (with_reducible exact ih1 _ _ _ _ _ _ _)
      | (with_reducible exact ih2 _ _ _ _ _ _ _ _)
      | (with_reducible exact ih3 _ _ _ _ _ _ _ _ _)
      | (with_reducible exact remontoireref12_Fits.mono _ _ _)
      | (with_reducible exact remontoireref12_power.mono _ _)
      | (with_reducible exact LeO.refl _)
      | (with_reducible exact LeO.none _)
      | (with_reducible refine LeO.ite ?_ ?_)
      | (with_reducible refine LeO.bind ?_ (fun _ => ?_))
      | exact ih0 _ _ _ _ _ _
      | exact ih1 _ _ _ _ _ _ _
      | exact ih2 _ _ _ _ _ _ _ _
      | exact ih3 _ _ _ _ _ _ _ _ _
      | exact remontoireref12_Fits.mono _ _ _
      | exact remontoireref12_power.mono _ _
      | exact LeO.none _
      | refine LeO.ite ?_ ?_
      | refine LeO.bind ?_ (fun _ => ?_)
    · intro y0 y1 y2 y3 y4 y5 y6
      unfold remontoireref12_Payload.j1
      repeat' first
      | (with_reducible exact ih0 _ _ _ _ _ _)
      | (with_reducible exact ih1 _ _ _ _ _ _ _)
      | (with_reducible exact ih2 _ _ _ _ _ _ _ _)
      | (with_reducible exact ih3 _ _ _ _ _ _ _ _ _)
      | (with_reducible exact remontoireref12_Fits.mono _ _ _)
      | (with_reducible exact remontoireref12_power.mono _ _)
      | (with_reducible exact LeO.refl _)
      | (with_reducible exact LeO.none _)
      | (with_reducible refine LeO.ite ?_ ?_)
      | (with_reducible refine LeO.bind ?_ (fun _ => ?_))
      | exact ih0 _ _ _ _ _ _
      | exact ih1 _ _ _ _ _ _ _
      | exact ih2 _ _ _ _ _ _ _ _
      | exact ih3 _ _ _ _ _ _ _ _ _
      | exact remontoireref12_Fits.mono _ _ _
      | exact remontoireref12_power.mono _ _
      | exact LeO.none _
      | refine LeO.ite ?_ ?_
      | refine LeO.bind ?_ (fun _ => ?_)
    · intro y0 y1 y2 y3 y4 y5 y6 y7
      unfold remontoireref12_Payload.j2
      repeat' first
      | (with_reducible exact ih0 _ _ _ _ _ _)
      | (with_reducible exact ih1 _ _ _ _ _ _ _)
      | (with_reducible exact ih2 _ _ _ _ _ _ _ _)
      | (with_reducible exact ih3 _ _ _ _ _ _ _ _ _)
      | (with_reducible exact remontoireref12_Fits.mono _ _ _)
      | (with_reducible exact remontoireref12_power.mono _ _)
      | (with_reducible exact LeO.refl _)
      | (with_reducible exact LeO.none _)
      | (with_reducible refine LeO.ite ?_ ?_)
      | (with_reducible refine LeO.bind ?_ (fun _ => ?_))
      | exact ih0 _ _ _ _ _ _
      | exact ih1 _ _ _ _ _ _ _
      | exact ih2 _ _ _ _ _ _ _ _
      | exact ih3 _ _ _ _ _ _ _ _ _
      | exact remontoireref12_Fits.mono _ _ _
      | exact remontoireref12_power.mono _ _
      | exact LeO.none _
      | refine LeO.ite ?_ ?_
      | refine LeO.bind ?_ (fun _ => ?_)
    · intro y0 y1 y2 y3 y4 y5 y6 y7 y8
      unfold remontoireref12_Payload.l1
      repeat' first
      | (with_reducible exact ih0 _ _ _ _ _ _)
      | (with_reducible exact ih1 _ _ _ _ _ _ _)
      | (with_reducible exact ih2 _ _ _ _ _ _ _ _)
      | (with_reducible exact ih3 _ _ _ _ _ _ _ _ _)
      | (with_reducible exact remontoireref12_Fits.mono _ _ _)
      | (with_reducible exact remontoireref12_power.mono _ _)
      | (with_reducible exact LeO.refl _)
      | (with_reducible exact LeO.none _)
      | (with_reducible refine LeO.ite ?_ ?_)
      | (with_reducible refine LeO.bind ?_ (fun _ => ?_))
      | exact ih0 _ _ _ _ _ _
      | exact ih1 _ _ _ _ _ _ _
      | exact ih2 _ _ _ _ _ _ _ _
      | exact ih3 _ _ _ _ _ _ _ _ _
      | exact remontoireref12_Fits.mono _ _ _
      | exact remontoireref12_power.mono _ _
      | exact LeO.none _
      | refine LeO.ite ?_ ?_
      | refine LeO.bind ?_ (fun _ => ?_)
theorem remontoireref12_Payload.mono : ∀ a0 a1 a2 k, LeO (remontoireref12_Payload.f k a0 a1 a2) (remontoireref12_Payload.f (k + 1) a0 a1 a2) := by
  intro a0 a1 a2 k
  obtain ⟨ih0, ih1, ih2, ih3⟩ := remontoireref12_Payload.mono_l k
  unfold remontoireref12_Payload.f
  repeat' first
      | (with_reducible exact ih0 _ _ _ _ _ _)
      | (with_reducible exact ih1 _ _ _ _ _ _ _)
      | (with_reducible exact ih2 _ _ _ _ _ _ _ _)
      | (with_reducible exact ih3 _ _ _ _ _ _ _ _ _)
      | (with_reducible exact remontoireref12_Fits.mono _ _ _)
      | (with_reducible exact remontoireref12_power.mono _ _)
      | (with_reducible exact LeO.refl _)
      | (with_reducible exact LeO.none _)
      | (with_reducible refine LeO.ite ?_ ?_)
      | (with_reducible refine LeO.bind ?_ (fun _ => ?_))
      | exact ih0 _ _ _ _ _ _
      | exact ih1 _ _ _ _ _ _ _
      | exact ih2 _ _ _ _ _ _ _ _
      | exact ih3 _ _ _ _ _ _ _ _ _
      | exact remontoireref12_Fits.mono _ _ _
      | exact remontoireref12_power.mono _ _
      | exact LeO.none _
      | refine LeO.ite ?_ ?_
      | refine LeO.bind ?_ (fun _ => ?_)
set_option maxHeartbeats 8000000 in
set_option maxRecDepth 100000 in
theorem remontoireref12_Payload.calls (k : Nat) (a0_0 : Int) (a0_1 : Int) (A0_2 : Option Addr) (c0_2 : Nat) (l0_2 : List Int) (r1 : List Int) (r2 : Int) (w : World) (hr0_2 : Kd.C (Kd.int .i64) w A0_2 l0_2.length l0_2) (hc0_2 : l0_2.length ≤ c0_2) (h : remontoireref12_Payload.f k a0_0 a0_1 l0_2 = some (r1, r2)) :
    Calls Try.prog 11 #[.agg #[.int .u8 a0_0, .int .u8 a0_1, .slice A0_2 l0_2.length c0_2]] w fun e w' => ∃ v0_ : Value, e = .returned (.tuple #[v0_, .int .i64 r2]) ∧ Kd.R (Kd.int .u8) 5 w' w.heap.size (fun _ => True) v0_ r1 ∧ Below w.heap.size w w' := by
  have hu26 := Try.underlying26
  have HR0_2 := Aside0.mk hr0_2
  have HC0_2 := Aside0.mk hc0_2
  clear hr0_2 hc0_2
  have HB := Aside0.mk (Below.refl w.heap.size w)
  have H : ((remontoireref12_Layout.f a0_0 a0_1).bind fun bt269 => (if bt269.1 = 0 then (some (([] : List Int), 7)) else (if (wrap64 ((l0_2.length : Int) * 2)) = (bt269.2.length : Int) then (if 0 ≤ bt269.1 then (if (bt269.1 : Int).toNat ≤ 281474976710656 then (remontoireref12_Payload.l0 k bt269.2 (List.replicate (bt269.1 : Int).toNat 0) 0 a0_0 a0_1 l0_2) else (none)) else (none)) else (some (([] : List Int), 2))))) = some (r1, r2) := h
  clear h
  replace H := Option.bind_eq_some_iff.mp H
  obtain ⟨⟨t269, t270⟩, A20, H⟩ := H
  replace H : (if t269 = 0 then (some (([] : List Int), 7)) else (if (wrap64 ((l0_2.length : Int) * 2)) = (t270.length : Int) then (if 0 ≤ t269 then (if (t269 : Int).toNat ≤ 281474976710656 then (remontoireref12_Payload.l0 k t270 (List.replicate (t269 : Int).toNat 0) 0 a0_0 a0_1 l0_2) else (none)) else (none)) else (some (([] : List Int), 2)))) = some (r1, r2) := H
  have A2 := Aside0.mk A20
  clear A20
  by_cases c3 : t269 = 0
  · rw [if_pos c3] at H
    have c3b0 : (t269 == 0) = true := beq_iff_eq.mpr c3
    have c3b1 : (t269 != 0) = false := bne_eq_false_iff_eq.mpr c3
    clear c3
    simp only [Option.some.injEq, Prod.mk.injEq] at H
    obtain ⟨rfl, rfl⟩ := H
    go_enter Try.func11, Try.ntmps11
    go_wp2_with (first | ((with_reducible refine gate_dst (N := 1) rfl ?_); refine box_event ?hg (N := 1) ?hd (cs := #[.int .u8 a0_0, .int .u8 a0_1, .slice A0_2 l0_2.length c0_2]) (t := 26) ?hr ?_; (case hd => rfl); (case hg => rfl); (case hr => first | (go_simp; done) | (go_simp; rfl)); intro gb268 hg w4 hbox hb; have n0_ := Aside0.mk (below_step (by repeat (first | (with_reducible first | exact HB.out | apply below_alloc | apply pw_below_drewN | apply below_drew1) | exact HB.out)) hb); have n1_ := Aside0.mk (hbox); have n2_ := Aside0.mk ((by rw [hg]; exact (below_size (by repeat (first | (with_reducible first | exact HB.out | apply below_alloc | apply pw_below_drewN | apply below_drew1) | exact HB.out))) : w.heap.size ≤ gb268)); have n3_ := Aside0.mk ((by rw [hg]; exact (below_size (by repeat (first | (with_reducible first | exact HB.out | apply below_alloc | apply pw_below_drewN | apply below_drew1) | exact HB.out))) : w.heap.size ≤ gb268)); clear HB; have HB := n0_; have BK268 := n1_; have GW268 := n2_; have GE268 := n3_; clear n0_ n1_ n2_ n3_; clear hb hbox hg; have hcz5_0 : w4.cell? ⟨gb268, 0, none⟩ = some (.int .u8 a0_0) := (blk_cell BK268.out 0).trans rfl; have hcz5_1 : w4.cell? ⟨gb268, 1, none⟩ = some (.int .u8 a0_1) := (blk_cell BK268.out 1).trans rfl; have hcz5_2 : w4.cell? ⟨gb268, 2, none⟩ = some (.slice A0_2 l0_2.length c0_2) := (blk_cell BK268.out 2).trans rfl; have hfz5_0 := blk_frozen BK268.out 0; have hfz5_1 := blk_frozen BK268.out 1; have hfz5_2 := blk_frozen BK268.out 2) | ((with_reducible refine gate_callee (f := 14) rfl ?_); refine goesL_ (some 16) rfl rfl Try.func14 (by kernel_rfl) rfl #[.int .u8 a0_0, .int .u8 a0_1] rfl (by (try simp only [List.map_toArray, List.map_cons, List.map_nil]); first | done | rfl | (simp only [List.length_drop, List.length_take]; rfl)) ?_; (with_reducible refine (remontoireref12_Layout.calls a0_0 a0_1 t269 t270 _ A2.out).mono ?_); rintro e w6 ⟨v271, rfl, ho0, hb⟩; refine ⟨_, rfl, ?_⟩; have n0_ := Aside0.mk (Kd.R_lower ho0 (below_size (by repeat (first | (with_reducible first | exact HB.out | apply below_alloc | apply pw_below_drewN | apply below_drew1 | refine below_set ?_ GE268.out) | exact HB.out)))); have n1_ := Aside0.mk (blk_below (g := gb268) (o := .cells #[.int .u8 a0_0, .int .u8 a0_1, .slice A0_2 l0_2.length c0_2] 26 (0, 0)) (by (with_reducible repeat (first | refine blk_drewN ?_ _ | refine blk_drew ?_ | refine blk_alloc ?_ _)); exact BK268.out) hb); have n2_ := Aside0.mk (below_step (by repeat (first | (with_reducible first | exact HB.out | apply below_alloc | apply pw_below_drewN | apply below_drew1 | refine below_set ?_ GE268.out) | exact HB.out)) hb); clear BK268; clear HB; have HO272 := n0_; have BK268 := n1_; have HB := n2_; clear n0_ n1_ n2_; (try clear hb); (try clear hb2); (try clear hk); (try clear hi); (try clear ho0)))
    go_ret2
    exact ⟨_, by first | rfl | (simp [errW_none, errW_some] <;> rfl) | (simp [*, errW_none, errW_some] <;> rfl), by first | exact Kd.R_nil _ _ _ _ _ | exact Kd.N_nil _ _ _ _ _ | exact Kd.V_nil _ _ _ _ _ | exact Kd.Q_nil _ _ _ _ _ | exact Kd.S_nil _ _ _ _ _, by repeat (first | (with_reducible first | exact HB.out | apply below_alloc | apply pw_below_drewN | apply below_drew1 | refine below_set ?_ GE268.out) | exact HB.out)⟩
  · rw [if_neg c3] at H
    have c3b0 : (t269 == 0) = false := beq_eq_false_iff_ne.mpr c3
    have c3b1 : (t269 != 0) = true := bne_iff_ne.mpr c3
    by_cases c7 : (wrap64 ((l0_2.length : Int) * 2)) = (t270.length : Int)
    · rw [if_pos c7] at H
      have c7b0 : ((wrap64 ((l0_2.length : Int) * 2)) == (t270.length : Int)) = true := beq_iff_eq.mpr c7
      have c7b1 : ((wrap64 ((l0_2.length : Int) * 2)) != (t270.length : Int)) = false := bne_eq_false_iff_eq.mpr c7
      clear c7
      by_cases c8 : 0 ≤ t269
      · rw [if_pos c8] at H
        have c8b0 := eq_true c8
        have c8b1 : decide (0 ≤ t269) = true := decide_eq_true c8
        clear c8
        by_cases c9 : (t269 : Int).toNat ≤ 281474976710656
        · rw [if_pos c9] at H
          have c9b0 := eq_true c9
          have c9b1 : decide ((t269 : Int).toNat ≤ 281474976710656) = true := decide_eq_true c9
          clear c9
          obtain ⟨y273, hy273⟩ : ∃ y_ : List Int, y_ = (List.replicate (t269 : Int).toNat 0) := ⟨_, rfl⟩
          replace H : (remontoireref12_Payload.l0 k t270 y273 0 a0_0 a0_1 l0_2) = some (r1, r2) := by first | (rw [hy273]; with_reducible exact H) | (have H2_ := (Option.bind_some _ _).symm.trans H; rw [hy273]; with_reducible exact H2_) | (have H2_ := (Option.bind_some _ _).symm.trans H; with_reducible exact H2_) | with_reducible exact H | (rw [hy273]; exact H) | exact H
          have Ny273 := Aside0.mk hy273
          clear hy273
          have H' := Aside0.mk H
          clear H
          go_enter Try.func11, Try.ntmps11
          go_wp2_with (first | ((with_reducible refine gate_dst (N := 1) rfl ?_); refine box_event ?hg (N := 1) ?hd (cs := #[.int .u8 a0_0, .int .u8 a0_1, .slice A0_2 l0_2.length c0_2]) (t := 26) ?hr ?_; (case hd => rfl); (case hg => rfl); (case hr => first | (go_simp; done) | (go_simp; rfl)); intro gb268 hg w10 hbox hb; have n0_ := Aside0.mk (below_step (by repeat (first | (with_reducible first | exact HB.out | apply below_alloc | apply pw_below_drewN | apply below_drew1) | exact HB.out)) hb); have n1_ := Aside0.mk (hbox); have n2_ := Aside0.mk ((by rw [hg]; exact (below_size (by repeat (first | (with_reducible first | exact HB.out | apply below_alloc | apply pw_below_drewN | apply below_drew1) | exact HB.out))) : w.heap.size ≤ gb268)); have n3_ := Aside0.mk ((by rw [hg]; exact (below_size (by repeat (first | (with_reducible first | exact HB.out | apply below_alloc | apply pw_below_drewN | apply below_drew1) | exact HB.out))) : w.heap.size ≤ gb268)); clear HB; have HB := n0_; have BK268 := n1_; have GW268 := n2_; have GE268 := n3_; clear n0_ n1_ n2_ n3_; clear hb hbox hg; have hcz11_0 : w10.cell? ⟨gb268, 0, none⟩ = some (.int .u8 a0_0) := (blk_cell BK268.out 0).trans rfl; have hcz11_1 : w10.cell? ⟨gb268, 1, none⟩ = some (.int .u8 a0_1) := (blk_cell BK268.out 1).trans rfl; have hcz11_2 : w10.cell? ⟨gb268, 2, none⟩ = some (.slice A0_2 l0_2.length c0_2) := (blk_cell BK268.out 2).trans rfl; have hfz11_0 := blk_frozen BK268.out 0; have hfz11_1 := blk_frozen BK268.out 1; have hfz11_2 := blk_frozen BK268.out 2) | ((with_reducible refine gate_callee (f := 14) rfl ?_); refine goesL_ (some 16) rfl rfl Try.func14 (by kernel_rfl) rfl #[.int .u8 a0_0, .int .u8 a0_1] rfl (by (try simp only [List.map_toArray, List.map_cons, List.map_nil]); first | done | rfl | (simp only [List.length_drop, List.length_take]; rfl)) ?_; (with_reducible refine (remontoireref12_Layout.calls a0_0 a0_1 t269 t270 _ A2.out).mono ?_); rintro e w12 ⟨v271, rfl, ho0, hb⟩; refine ⟨_, rfl, ?_⟩; have n0_ := Aside0.mk (Kd.R_lower ho0 (below_size (by repeat (first | (with_reducible first | exact HB.out | apply below_alloc | apply pw_below_drewN | apply below_drew1 | refine below_set ?_ GE268.out) | exact HB.out)))); have n1_ := Aside0.mk (blk_below (g := gb268) (o := .cells #[.int .u8 a0_0, .int .u8 a0_1, .slice A0_2 l0_2.length c0_2] 26 (0, 0)) (by (with_reducible repeat (first | refine blk_drewN ?_ _ | refine blk_drew ?_ | refine blk_alloc ?_ _)); exact BK268.out) hb); have n2_ := Aside0.mk (below_step (by repeat (first | (with_reducible first | exact HB.out | apply below_alloc | apply pw_below_drewN | apply below_drew1 | refine below_set ?_ GE268.out) | exact HB.out)) hb); clear BK268; clear HB; have HO272 := n0_; have BK268 := n1_; have HB := n2_; clear n0_ n1_ n2_; (try clear hb); (try clear hb2); (try clear hk); (try clear hi); (try clear ho0); have hcz13_0 : w12.cell? ⟨gb268, 0, none⟩ = some (.int .u8 a0_0) := (blk_cell BK268.out 0).trans rfl; have hcz13_1 : w12.cell? ⟨gb268, 1, none⟩ = some (.int .u8 a0_1) := (blk_cell BK268.out 1).trans rfl; have hcz13_2 : w12.cell? ⟨gb268, 2, none⟩ = some (.slice A0_2 l0_2.length c0_2) := (blk_cell BK268.out 2).trans rfl; have hfz13_0 := blk_frozen BK268.out 0; have hfz13_1 := blk_frozen BK268.out 1; have hfz13_2 := blk_frozen BK268.out 2; obtain ⟨Ao14, co14, eo14⟩ := Kd.R_slice HO272.out; subst eo14) | ((with_reducible refine gate_dst (N := 29) rfl ?_); refine Kd.R_make (Kd.int .u8) _ 5 rfl (N := 29) rfl 22 _ _ rfl t269 rfl rfl Try.underlying22 (.int .u8 0) 1 info5 rfl (by decide) (by omega) 0 (ok := fun _ => True) (okp := fun _ => True) rfl (fun _ hk => hk) trivial (of_decide_eq_true (by first | (with_reducible assumption) | assumption)) (Nat.le_trans (Nat.mul_le_mul_right _ (of_decide_eq_true (by first | (with_reducible assumption) | assumption) : t269.toNat ≤ 281474976710656)) (by omega)) (Below.refl _ _) (Nat.le_refl _) ?_; intro v274 w15 ho16 hb hg_ hnew_; clear hg_ hnew_; (first | rw [← Ny273.out] at ho16 | (simp only [Int.reduceToNat] at ho16; rw [← Ny273.out] at ho16)); have n0_ := Aside0.mk (Kd.R_below (by (with_reducible repeat (first | apply Kd.R_alloc | apply Kd.R_drewN | apply Kd.R_drew)); exact HO272.out) hb); have n1_ := Aside0.mk (Kd.R_lower ho16 (below_size (by repeat (first | (with_reducible first | exact HB.out | apply below_alloc | apply pw_below_drewN | apply below_drew1 | refine below_set ?_ GE268.out) | exact HB.out)))); have n2_ := Aside0.mk (blk_below (g := gb268) (o := .cells #[.int .u8 a0_0, .int .u8 a0_1, .slice A0_2 l0_2.length c0_2] 26 (0, 0)) (by (with_reducible repeat (first | refine blk_drewN ?_ _ | refine blk_drew ?_ | refine blk_alloc ?_ _)); exact BK268.out) hb); have n3_ := Aside0.mk (below_step (by repeat (first | (with_reducible first | exact HB.out | apply below_alloc | apply pw_below_drewN | apply below_drew1 | refine below_set ?_ GE268.out) | exact HB.out)) hb); clear HO272; clear BK268; clear HB; have HO272 := n0_; have HO275 := n1_; have BK268 := n2_; have HB := n3_; clear n0_ n1_ n2_ n3_; clear hb ho16))
          go_loopg [7] k (fun kq v7 w' => ∃ (x6_1 : List Int) (x7_1 : Int), v7 = .int .i64 x7_1 ∧ Aside0 (remontoireref12_Payload.l0 kq t270 x6_1 x7_1 a0_0 a0_1 l0_2 = some (r1, r2)) ∧ Aside0 (kq ≤ k) ∧ Aside0 (Kd.R (Kd.int .i64) 3 w' w.heap.size (fun _ => True) (.slice Ao14 t270.length co14) t270) ∧ Aside0 (Kd.R (Kd.int .u8) 5 w' w.heap.size (fun _ => True) v274 x6_1) ∧ Aside0 (w'.heap[gb268]? = some (.cells #[.int .u8 a0_0, .int .u8 a0_1, (.slice A0_2 l0_2.length c0_2)] 26 (0, 0))) ∧ Aside0 (Below w.heap.size w w'))
          case atStart => exact ⟨(y273), (0), (by first | rfl | (simp; done) | (simp [*]; done)), H', ⟨Nat.le_refl _⟩, ⟨by (with_reducible repeat (first | apply Kd.R_alloc | apply Kd.R_drewN | apply Kd.R_drew)); exact HO272.out⟩, ⟨by (with_reducible repeat (first | apply Kd.R_alloc | apply Kd.R_drewN | apply Kd.R_drew)); exact HO275.out⟩, ⟨by (with_reducible repeat (first | refine blk_drewN ?_ _ | refine blk_drew ?_ | refine blk_alloc ?_ _)); exact BK268.out⟩, ⟨by repeat (first | (with_reducible first | exact HB.out | apply below_alloc | apply pw_below_drewN | apply below_drew1 | refine below_set ?_ GE268.out) | exact HB.out)⟩⟩
          case round =>
            clear H'
            try clear c1
            try clear p2
            try clear c3
            try clear c3b0
            try clear c3b1
            try clear p6
            try clear c7
            try clear c7b0
            try clear c7b1
            try clear c8
            try clear c8b0
            try clear c8b1
            try clear c9
            try clear c9b0
            try clear c9b1
            try clear c11
            try clear c14
            try clear hcz11_0
            try clear hcz11_1
            try clear hcz11_2
            try clear hcz13_0
            try clear hcz13_1
            try clear hcz13_2
            try clear hcz5_0
            try clear hcz5_1
            try clear hcz5_2
            try clear hfz11_0
            try clear hfz11_1
            try clear hfz11_2
            try clear hfz13_0
            try clear hfz13_1
            try clear hfz13_2
            try clear hfz5_0
            try clear hfz5_1
            try clear hfz5_2
            obtain ⟨x6_1, x7_1, rfl, HA, HK1, HO_5, HO_6, BK268, HB⟩ := hrel
            cases gk with
            | zero => exact absurd HA.out (by simp [remontoireref12_Payload.l0])
            | succ k1 =>
              have H := HA.out
              clear HA
              simp only [remontoireref12_Payload.l0] at H
              by_cases c17 : x7_1 < (l0_2.length : Int)
              · rw [if_pos c17] at H
                have c17b0 : decide (x7_1 < (l0_2.length : Int)) = true := decide_eq_true c17
                clear c17
                obtain ⟨ji18, hji18⟩ : ∃ j_ : Int, (wrap64 ((wrap64 (2 * x7_1)) + 1)) = j_ := ⟨_, rfl⟩
                replace H : (if 0 ≤ (ji18) then (if (ji18) < (t270.length : Int) then (if 0 ≤ x7_1 then ((remontoireref12_Fits.f k1 (rd l0_2 x7_1) (rd t270 (ji18))).bind fun t278 => (if t278 = true then (if (rd t270 (ji18)) < 0 then (remontoireref12_Payload.j1 k1 t270 x6_1 x7_1 (wrap64 (-(rd t270 (ji18)))) a0_0 a0_1 l0_2) else (remontoireref12_Payload.j1 k1 t270 x6_1 x7_1 (rd t270 (ji18)) a0_0 a0_1 l0_2)) else (some (([] : List Int), 2)))) else (none)) else (none)) else (none)) = some (r1, r2) := by first | (rw [hji18] at H; exact H) | (simp only [hji18] at H ⊢; exact H)
                have hji18w : (IntKind.i64.wrap ((wrap64 (2 * x7_1)) + 1)) = ji18 := (i64_w _).trans hji18
                by_cases c19 : 0 ≤ (ji18)
                · rw [if_pos c19] at H
                  have c19b0 : decide (0 ≤ (ji18)) = true := decide_eq_true c19
                  clear c19
                  by_cases c20 : (ji18) < (t270.length : Int)
                  · rw [if_pos c20] at H
                    have c20b0 : decide ((ji18) < (t270.length : Int)) = true := decide_eq_true c20
                    clear c20
                    by_cases c21 : 0 ≤ x7_1
                    · rw [if_pos c21] at H
                      have c21b0 : decide (0 ≤ x7_1) = true := decide_eq_true c21
                      clear c21
                      replace H := Option.bind_eq_some_iff.mp H
                      obtain ⟨t278, A220, H⟩ := H
                      replace H : (if t278 = true then (if (rd t270 (ji18)) < 0 then (remontoireref12_Payload.j1 k1 t270 x6_1 x7_1 (wrap64 (-(rd t270 (ji18)))) a0_0 a0_1 l0_2) else (remontoireref12_Payload.j1 k1 t270 x6_1 x7_1 (rd t270 (ji18)) a0_0 a0_1 l0_2)) else (some (([] : List Int), 2))) = some (r1, r2) := H
                      have A22 := Aside0.mk A220
                      clear A220
                      by_cases c23 : t278 = true
                      · subst c23
                        have H1 : (if (rd t270 (ji18)) < 0 then (remontoireref12_Payload.j1 k1 t270 x6_1 x7_1 (wrap64 (-(rd t270 (ji18)))) a0_0 a0_1 l0_2) else (remontoireref12_Payload.j1 k1 t270 x6_1 x7_1 (rd t270 (ji18)) a0_0 a0_1 l0_2)) = some (r1, r2) := by rw [if_pos rfl] at H; exact H
                        clear H
                        have H := H1
                        clear H1
                        have HC24 := Aside0.mk H
                        clear H
                        have hcz25_0 : wr.cell? ⟨gb268, 0, none⟩ = some (.int .u8 a0_0) := (blk_cell BK268.out 0).trans rfl
                        have hcz25_1 : wr.cell? ⟨gb268, 1, none⟩ = some (.int .u8 a0_1) := (blk_cell BK268.out 1).trans rfl
                        have hcz25_2 : wr.cell? ⟨gb268, 2, none⟩ = some (.slice A0_2 l0_2.length c0_2) := (blk_cell BK268.out 2).trans rfl
                        have hfz25_0 := blk_frozen BK268.out 0
                        have hfz25_1 := blk_frozen BK268.out 1
                        have hfz25_2 := blk_frozen BK268.out 2
                        have p276 : 0 ≤ ((ji18) : Int) := of_decide_eq_true (by first | (with_reducible assumption) | assumption)
                        have q276 : (ji18) < (t270.length : Int) := of_decide_eq_true (by first | (with_reducible assumption) | assumption)
                        obtain ⟨ad276, e276, hx276_0⟩ := Kd.at_int (Kd.R_reads' HO_5.out).2.2 (ji18) p276 q276
                        cases e276
                        replace p276 := eq_true p276
                        replace q276 := eq_true q276
                        have p277 : 0 ≤ (x7_1 : Int) := of_decide_eq_true (by first | (with_reducible assumption) | assumption)
                        have q277 : x7_1 < (l0_2.length : Int) := of_decide_eq_true (by first | (with_reducible assumption) | assumption)
                        obtain ⟨ad277, e277, hx277_0⟩ := Kd.at_int HR0_2.out x7_1 p277 q277
                        cases e277
                        replace hx277_0 := (HB.out.cell (World.block_lt_of_cell? w _ hx277_0)).trans hx277_0
                        replace p277 := eq_true p277
                        replace q277 := eq_true q277
                        go_upto_if 52 with (first | ((with_reducible refine gate_callee (f := 19) rfl ?_); refine goesL_ (some 49) rfl rfl Try.func19 (by kernel_rfl) rfl #[.int .i64 (rd l0_2 x7_1), .int .i64 (rd t270 (ji18))] rfl (by (try simp only [List.map_toArray, List.map_cons, List.map_nil]); first | done | (simp only [hji18]; rfl) | rfl | (simp only [List.length_drop, List.length_take]; rfl)) ?_; (with_reducible refine (remontoireref12_Fits.calls k1 (rd l0_2 x7_1) (rd t270 (ji18)) true _ A22.out).mono ?_); rintro e w' ⟨rfl, ⟨nd, rfl⟩⟩; refine ⟨_, rfl, ?_⟩))
                        (try simp only [Act.put, List.setIfInBounds_toArray, List.set_cons_zero, List.set_cons_succ])
                        go_cut [8] (fun v8 wc => ∃ (kq : Nat) (x8_23 : Int), v8 = .int .i64 x8_23 ∧ Aside0 (remontoireref12_Payload.j1 kq t270 x6_1 x7_1 x8_23 a0_0 a0_1 l0_2 = some (r1, r2)) ∧ Aside0 (kq ≤ k1) ∧ Aside0 (Kd.R (Kd.int .i64) 3 wc w.heap.size (fun _ => True) (.slice (some ad276) t270.length co14) t270) ∧ Aside0 (Kd.R (Kd.int .u8) 5 wc w.heap.size (fun _ => True) v274 x6_1) ∧ Aside0 (wc.heap[gb268]? = some (.cells #[.int .u8 a0_0, .int .u8 a0_1, (.slice (some ad277) l0_2.length c0_2)] 26 (0, 0))) ∧ Aside0 (Below w.heap.size w wc))
                        case first =>
                          have H := HC24.out
                          clear HC24
                          by_cases c26 : (rd t270 (ji18)) < 0
                          · rw [if_pos c26] at H
                            have c26b0 : decide ((rd t270 (ji18)) < 0) = true := decide_eq_true c26
                            clear c26
                            (first | rw [c26b0] | (simp only [i64_w, i32_w]; rw [c26b0]) | skip)
                            have H' := Aside0.mk H
                            clear H
                            go_wp2
                            go_meet
                            case rel => exact ⟨_, (wrap64 (-(rd t270 (ji18)))), (by first | rfl | (simp; done) | (simp only [← hji18] <;> (first | rfl | simp)) | (simp [*]; done)), H', ⟨by have := HK1.out; first | omega | exact Nat.le_refl _⟩, ⟨by (with_reducible repeat (first | apply Kd.R_alloc | apply Kd.R_drewN | apply Kd.R_drew)); exact HO_5.out⟩, ⟨by (with_reducible repeat (first | apply Kd.R_alloc | apply Kd.R_drewN | apply Kd.R_drew)); exact HO_6.out⟩, ⟨by (with_reducible repeat (first | refine blk_drewN ?_ _ | refine blk_drew ?_ | refine blk_alloc ?_ _)); exact BK268.out⟩, ⟨by repeat (first | (with_reducible first | exact HB.out | apply below_alloc | apply pw_below_drewN | apply below_drew1 | refine below_set ?_ GE268.out) | exact HB.out)⟩⟩
                          · rw [if_neg c26] at H
                            have c26b0 : decide ((rd t270 (ji18)) < 0) = false := decide_eq_false c26
                            clear c26
                            (first | rw [c26b0] | (simp only [i64_w, i32_w]; rw [c26b0]) | skip)
                            have H' := Aside0.mk H
                            clear H
                            go_wp2
                            go_meet
                            case rel => exact ⟨_, (rd t270 (ji18)), (by first | rfl | (simp; done) | (simp only [← hji18] <;> (first | rfl | simp)) | (simp [*]; done)), H', ⟨by have := HK1.out; first | omega | exact Nat.le_refl _⟩, ⟨by (with_reducible repeat (first | apply Kd.R_alloc | apply Kd.R_drewN | apply Kd.R_drew)); exact HO_5.out⟩, ⟨by (with_reducible repeat (first | apply Kd.R_alloc | apply Kd.R_drewN | apply Kd.R_drew)); exact HO_6.out⟩, ⟨by (with_reducible repeat (first | refine blk_drewN ?_ _ | refine blk_drew ?_ | refine blk_alloc ?_ _)); exact BK268.out⟩, ⟨by repeat (first | (with_reducible first | exact HB.out | apply below_alloc | apply pw_below_drewN | apply below_drew1 | refine below_set ?_ GE268.out) | exact HB.out)⟩⟩
                        case rest =>
                          clear HC24
                          try clear c1
                          try clear c2
                          try clear p2
                          try clear q2
                          try clear hx2
                          try clear c3
                          try clear c3b0
                          try clear c3b1
                          try clear p6
                          try clear c7
                          try clear c7b0
                          try clear c7b1
                          try clear c8
                          try clear c8b0
                          try clear c8b1
                          try clear c9
                          try clear c9b0
                          try clear c9b1
                          try clear c11
                          try clear c14
                          try clear c17
                          try clear c17b0
                          try clear c19
                          try clear c19b0
                          try clear c20
                          try clear c20b0
                          try clear c21
                          try clear c21b0
                          try clear c23
                          try clear c26
                          try clear c26b0
                          try clear hcz11_0
                          try clear hcz11_1
                          try clear hcz11_2
                          try clear hcz13_0
                          try clear hcz13_1
                          try clear hcz13_2
                          try clear hcz25_0
                          try clear hcz25_1
                          try clear hcz25_2
                          try clear hcz5_0
                          try clear hcz5_1
                          try clear hcz5_2
                          try clear hfz11_0
                          try clear hfz11_1
                          try clear hfz11_2
                          try clear hfz13_0
                          try clear hfz13_1
                          try clear hfz13_2
                          try clear hfz25_0
                          try clear hfz25_1
                          try clear hfz25_2
                          try clear hfz5_0
                          try clear hfz5_1
                          try clear hfz5_2
                          try clear hx276_0
                          try clear hx277_0
                          try clear p2
                          try clear p276
                          try clear p277
                          try clear p6
                          try clear q276
                          try clear q277
                          obtain ⟨kq, x8_23, rfl, HA, HJ23, HO_5, HO_6, BK268, HB⟩ := hcut
                          cases kq with
                          | zero => exact absurd HA.out (by simp [remontoireref12_Payload.j1])
                          | succ kj23 =>
                            have H := HA.out
                            clear HA
                            simp only [remontoireref12_Payload.j1] at H
                            by_cases c27 : 0 ≤ x7_1
                            · rw [if_pos c27] at H
                              have c27b0 : decide (0 ≤ x7_1) = true := decide_eq_true c27
                              clear c27
                              by_cases c28 : x7_1 < (l0_2.length : Int)
                              · rw [if_pos c28] at H
                                have c28b0 : decide (x7_1 < (l0_2.length : Int)) = true := decide_eq_true c28
                                clear c28
                                have HC29 := Aside0.mk H
                                clear H
                                have hcz30_0 : wc.cell? ⟨gb268, 0, none⟩ = some (.int .u8 a0_0) := (blk_cell BK268.out 0).trans rfl
                                have hcz30_1 : wc.cell? ⟨gb268, 1, none⟩ = some (.int .u8 a0_1) := (blk_cell BK268.out 1).trans rfl
                                have hcz30_2 : wc.cell? ⟨gb268, 2, none⟩ = some (.slice (some ad277) l0_2.length c0_2) := (blk_cell BK268.out 2).trans rfl
                                have hfz30_0 := blk_frozen BK268.out 0
                                have hfz30_1 := blk_frozen BK268.out 1
                                have hfz30_2 := blk_frozen BK268.out 2
                                have p279 : 0 ≤ (x7_1 : Int) := of_decide_eq_true (by first | (with_reducible assumption) | assumption)
                                have q279 : x7_1 < (l0_2.length : Int) := of_decide_eq_true (by first | (with_reducible assumption) | assumption)
                                obtain ⟨ad279, e279, hx279_0⟩ := Kd.at_int HR0_2.out x7_1 p279 q279
                                obtain rfl : ad277 = ad279 := (by injection e279)
                                replace hx279_0 := (HB.out.cell (World.block_lt_of_cell? w _ hx279_0)).trans hx279_0
                                replace p279 := eq_true p279
                                replace q279 := eq_true q279
                                go_upto_if 61 with (fail)
                                go_cut [9] (fun v9 wc => ∃ (kq : Nat) (x9_28 : Int), v9 = .int .i64 x9_28 ∧ Aside0 (remontoireref12_Payload.j2 kq t270 x6_1 x7_1 x8_23 x9_28 a0_0 a0_1 l0_2 = some (r1, r2)) ∧ Aside0 (kq ≤ kj23) ∧ Aside0 (Kd.R (Kd.int .i64) 3 wc w.heap.size (fun _ => True) (.slice (some ad276) t270.length co14) t270) ∧ Aside0 (Kd.R (Kd.int .u8) 5 wc w.heap.size (fun _ => True) v274 x6_1) ∧ Aside0 (wc.heap[gb268]? = some (.cells #[.int .u8 a0_0, .int .u8 a0_1, (.slice (some ad277) l0_2.length c0_2)] 26 (0, 0))) ∧ Aside0 (Below w.heap.size w wc))
                                case first =>
                                  have H := HC29.out
                                  clear HC29
                                  by_cases c31 : (rd l0_2 x7_1) < 0
                                  · rw [if_pos c31] at H
                                    have c31b0 : decide ((rd l0_2 x7_1) < 0) = true := decide_eq_true c31
                                    clear c31
                                    (first | rw [c31b0] | (simp only [i64_w, i32_w]; rw [c31b0]) | skip)
                                    replace H := Option.bind_eq_some_iff.mp H
                                    obtain ⟨t280, A320, H⟩ := H
                                    replace H : (remontoireref12_Payload.j2 kj23 t270 x6_1 x7_1 x8_23 (wrap64 ((rd l0_2 x7_1) + t280)) a0_0 a0_1 l0_2) = some (r1, r2) := H
                                    have A32 := Aside0.mk A320
                                    clear A320
                                    have H' := Aside0.mk H
                                    clear H
                                    go_wp2_with (first | ((with_reducible refine gate_callee (f := 20) rfl ?_); refine goesL_ (some 64) rfl rfl Try.func20 (by kernel_rfl) rfl #[.int .i64 x8_23] rfl (by (try simp only [List.map_toArray, List.map_cons, List.map_nil]); first | done | rfl | (simp only [List.length_drop, List.length_take]; rfl)) ?_; (with_reducible refine (remontoireref12_power.calls kj23 x8_23 t280 _ A32.out).mono ?_); rintro e w' ⟨rfl, ⟨nd, rfl⟩⟩; refine ⟨_, rfl, ?_⟩))
                                    go_meet
                                    case rel => exact ⟨_, (wrap64 ((rd l0_2 x7_1) + t280)), (by first | rfl | (simp; done) | (simp [*]; done)), H', ⟨by have := HK1.out; have := HJ23.out; first | omega | exact Nat.le_refl _⟩, ⟨by (with_reducible repeat (first | apply Kd.R_alloc | apply Kd.R_drewN | apply Kd.R_drew)); exact HO_5.out⟩, ⟨by (with_reducible repeat (first | apply Kd.R_alloc | apply Kd.R_drewN | apply Kd.R_drew)); exact HO_6.out⟩, ⟨by (with_reducible repeat (first | refine blk_drewN ?_ _ | refine blk_drew ?_ | refine blk_alloc ?_ _)); exact BK268.out⟩, ⟨by repeat (first | (with_reducible first | exact HB.out | apply below_alloc | apply pw_below_drewN | apply below_drew1 | refine below_set ?_ GE268.out) | exact HB.out)⟩⟩
                                  · rw [if_neg c31] at H
                                    have c31b0 : decide ((rd l0_2 x7_1) < 0) = false := decide_eq_false c31
                                    clear c31
                                    (first | rw [c31b0] | (simp only [i64_w, i32_w]; rw [c31b0]) | skip)
                                    have H' := Aside0.mk H
                                    clear H
                                    go_wp2
                                    go_meet
                                    case rel => exact ⟨_, (rd l0_2 x7_1), (by first | rfl | (simp; done) | (simp [*]; done)), H', ⟨by have := HK1.out; have := HJ23.out; first | omega | exact Nat.le_refl _⟩, ⟨by (with_reducible repeat (first | apply Kd.R_alloc | apply Kd.R_drewN | apply Kd.R_drew)); exact HO_5.out⟩, ⟨by (with_reducible repeat (first | apply Kd.R_alloc | apply Kd.R_drewN | apply Kd.R_drew)); exact HO_6.out⟩, ⟨by (with_reducible repeat (first | refine blk_drewN ?_ _ | refine blk_drew ?_ | refine blk_alloc ?_ _)); exact BK268.out⟩, ⟨by repeat (first | (with_reducible first | exact HB.out | apply below_alloc | apply pw_below_drewN | apply below_drew1 | refine below_set ?_ GE268.out) | exact HB.out)⟩⟩
                                case rest =>
                                  clear HC29
                                  try clear c1
                                  try clear c2
                                  try clear p2
                                  try clear q2
                                  try clear hx2
                                  try clear c3
                                  try clear c3b0
                                  try clear c3b1
                                  try clear p6
                                  try clear c7
                                  try clear c7b0
                                  try clear c7b1
                                  try clear c8
                                  try clear c8b0
                                  try clear c8b1
                                  try clear c9
                                  try clear c9b0
                                  try clear c9b1
                                  try clear c11
                                  try clear c14
                                  try clear c17
                                  try clear c17b0
                                  try clear c19
                                  try clear c19b0
                                  try clear c20
                                  try clear c20b0
                                  try clear c21
                                  try clear c21b0
                                  try clear c23
                                  try clear c26
                                  try clear c26b0
                                  try clear c27
                                  try clear c27b0
                                  try clear p27
                                  try clear q27
                                  try clear hx27
                                  try clear c28
                                  try clear c28b0
                                  try clear c31
                                  try clear c31b0
                                  try clear hcz11_0
                                  try clear hcz11_1
                                  try clear hcz11_2
                                  try clear hcz13_0
                                  try clear hcz13_1
                                  try clear hcz13_2
                                  try clear hcz25_0
                                  try clear hcz25_1
                                  try clear hcz25_2
                                  try clear hcz30_0
                                  try clear hcz30_1
                                  try clear hcz30_2
                                  try clear hcz5_0
                                  try clear hcz5_1
                                  try clear hcz5_2
                                  try clear hfz11_0
                                  try clear hfz11_1
                                  try clear hfz11_2
                                  try clear hfz13_0
                                  try clear hfz13_1
                                  try clear hfz13_2
                                  try clear hfz25_0
                                  try clear hfz25_1
                                  try clear hfz25_2
                                  try clear hfz30_0
                                  try clear hfz30_1
                                  try clear hfz30_2
                                  try clear hfz5_0
                                  try clear hfz5_1
                                  try clear hfz5_2
                                  try clear hx276_0
                                  try clear hx277_0
                                  try clear hx279_0
                                  try clear p2
                                  try clear p276
                                  try clear p277
                                  try clear p279
                                  try clear p6
                                  try clear q2
                                  try clear q276
                                  try clear q277
                                  try clear q279
                                  obtain ⟨kq, x9_28, rfl, HA, HJ28, HO_5, HO_6, BK268, HB⟩ := hcut
                                  cases kq with
                                  | zero => exact absurd HA.out (by simp [remontoireref12_Payload.j2])
                                  | succ kj28 =>
                                    have H := HA.out
                                    clear HA
                                    simp only [remontoireref12_Payload.j2] at H
                                    have H' := Aside0.mk H
                                    clear H
                                    go_wp2
                                    go_loopg [9, 10] kj28 (fun kq v9 v10 w' => ∃ (x6_4 : List Int) (x9_4 : Int) (x10_4 : Int), v9 = .int .i64 x9_4 ∧ v10 = .int .i64 x10_4 ∧ Aside0 (remontoireref12_Payload.l1 kq t270 x6_4 x7_1 x8_23 x9_4 x10_4 a0_0 a0_1 l0_2 = some (r1, r2)) ∧ Aside0 (kq ≤ kj28) ∧ Aside0 (Kd.R (Kd.int .i64) 3 w' w.heap.size (fun _ => True) (.slice (some ad276) t270.length co14) t270) ∧ Aside0 (Kd.R (Kd.int .u8) 5 w' w.heap.size (fun _ => True) v274 x6_4) ∧ Aside0 (w'.heap[gb268]? = some (.cells #[.int .u8 a0_0, .int .u8 a0_1, (.slice (some ad277) l0_2.length c0_2)] 26 (0, 0))) ∧ Aside0 (Below w.heap.size w w'))
                                    case atStart => exact ⟨(x6_1), (x9_28), (0), (by first | rfl | (simp; done) | (simp [*]; done)), (by first | rfl | (simp; done) | (simp [*]; done)), H', ⟨Nat.le_refl _⟩, ⟨by (with_reducible repeat (first | apply Kd.R_alloc | apply Kd.R_drewN | apply Kd.R_drew)); exact HO_5.out⟩, ⟨by (with_reducible repeat (first | apply Kd.R_alloc | apply Kd.R_drewN | apply Kd.R_drew)); exact HO_6.out⟩, ⟨by (with_reducible repeat (first | refine blk_drewN ?_ _ | refine blk_drew ?_ | refine blk_alloc ?_ _)); exact BK268.out⟩, ⟨by repeat (first | (with_reducible first | exact HB.out | apply below_alloc | apply pw_below_drewN | apply below_drew1 | refine below_set ?_ GE268.out) | exact HB.out)⟩⟩
                                    case round =>
                                      clear H'
                                      try clear c1
                                      try clear c2
                                      try clear p2
                                      try clear q2
                                      try clear hx2
                                      try clear c3
                                      try clear c3b0
                                      try clear c3b1
                                      try clear p6
                                      try clear c7
                                      try clear c7b0
                                      try clear c7b1
                                      try clear c8
                                      try clear c8b0
                                      try clear c8b1
                                      try clear c9
                                      try clear c9b0
                                      try clear c9b1
                                      try clear c11
                                      try clear c14
                                      try clear c17
                                      try clear c17b0
                                      try clear c19
                                      try clear c19b0
                                      try clear c20
                                      try clear c20b0
                                      try clear c21
                                      try clear c21b0
                                      try clear c23
                                      try clear c26
                                      try clear c26b0
                                      try clear c27
                                      try clear c27b0
                                      try clear p27
                                      try clear q27
                                      try clear hx27
                                      try clear c28
                                      try clear c28b0
                                      try clear c31
                                      try clear c31b0
                                      try clear hcz11_0
                                      try clear hcz11_1
                                      try clear hcz11_2
                                      try clear hcz13_0
                                      try clear hcz13_1
                                      try clear hcz13_2
                                      try clear hcz25_0
                                      try clear hcz25_1
                                      try clear hcz25_2
                                      try clear hcz30_0
                                      try clear hcz30_1
                                      try clear hcz30_2
                                      try clear hcz5_0
                                      try clear hcz5_1
                                      try clear hcz5_2
                                      try clear hfz11_0
                                      try clear hfz11_1
                                      try clear hfz11_2
                                      try clear hfz13_0
                                      try clear hfz13_1
                                      try clear hfz13_2
                                      try clear hfz25_0
                                      try clear hfz25_1
                                      try clear hfz25_2
                                      try clear hfz30_0
                                      try clear hfz30_1
                                      try clear hfz30_2
                                      try clear hfz5_0
                                      try clear hfz5_1
                                      try clear hfz5_2
                                      try clear hx276_0
                                      try clear hx277_0
                                      try clear hx279_0
                                      try clear p2
                                      try clear p27
                                      try clear p276
                                      try clear p277
                                      try clear p279
                                      try clear p6
                                      try clear q2
                                      try clear q27
                                      try clear q276
                                      try clear q277
                                      try clear q279
                                      obtain ⟨x6_4, x9_4, x10_4, rfl, rfl, HA, HK4, HO_5, HO_6, BK268, HB⟩ := hrel
                                      cases gk with
                                      | zero => exact absurd HA.out (by simp [remontoireref12_Payload.l1])
                                      | succ k4 =>
                                        have H := HA.out
                                        clear HA
                                        simp only [remontoireref12_Payload.l1] at H
                                        by_cases c33 : x10_4 < x8_23
                                        · rw [if_pos c33] at H
                                          have c33b0 : decide (x10_4 < x8_23) = true := decide_eq_true c33
                                          clear c33
                                          obtain ⟨ji34, hji34⟩ : ∃ j_ : Int, (wrap64 (2 * x7_1)) = j_ := ⟨_, rfl⟩
                                          replace H : (if 0 ≤ (ji34) then (if (ji34) < (t270.length : Int) then (if 0 ≤ (wrap64 ((rd t270 (ji34)) + x10_4)) then (if (wrap64 ((rd t270 (ji34)) + x10_4)) < (x6_4.length : Int) then (remontoireref12_Payload.l1 k4 t270 (x6_4.set ((wrap64 ((rd t270 (ji34)) + x10_4)) : Int).toNat ((Int.tmod x9_4 256) % 256)) x7_1 x8_23 (wrap64 (Int.tdiv x9_4 256)) (wrap64 (x10_4 + 1)) a0_0 a0_1 l0_2) else (none)) else (none)) else (none)) else (none)) = some (r1, r2) := by first | (rw [hji34] at H; exact H) | (simp only [hji34] at H ⊢; exact H)
                                          have hji34w : (IntKind.i64.wrap (2 * x7_1)) = ji34 := (i64_w _).trans hji34
                                          by_cases c35 : 0 ≤ (ji34)
                                          · rw [if_pos c35] at H
                                            have c35b0 : decide (0 ≤ (ji34)) = true := decide_eq_true c35
                                            clear c35
                                            by_cases c36 : (ji34) < (t270.length : Int)
                                            · rw [if_pos c36] at H
                                              have c36b0 : decide ((ji34) < (t270.length : Int)) = true := decide_eq_true c36
                                              clear c36
                                              obtain ⟨ji37, hji37⟩ : ∃ j_ : Int, (wrap64 ((rd t270 (ji34)) + x10_4)) = j_ := ⟨_, rfl⟩
                                              replace H : (if 0 ≤ (ji37) then (if (ji37) < (x6_4.length : Int) then (remontoireref12_Payload.l1 k4 t270 (x6_4.set ((ji37) : Int).toNat ((Int.tmod x9_4 256) % 256)) x7_1 x8_23 (wrap64 (Int.tdiv x9_4 256)) (wrap64 (x10_4 + 1)) a0_0 a0_1 l0_2) else (none)) else (none)) = some (r1, r2) := by first | (rw [hji37] at H; exact H) | (simp only [hji37] at H ⊢; exact H)
                                              have hji37w : (IntKind.i64.wrap ((rd t270 (ji34)) + x10_4)) = ji37 := (i64_w _).trans hji37
                                              by_cases c38 : 0 ≤ (ji37)
                                              · rw [if_pos c38] at H
                                                have c38b0 : decide (0 ≤ (ji37)) = true := decide_eq_true c38
                                                clear c38
                                                by_cases c39 : (ji37) < (x6_4.length : Int)
                                                · rw [if_pos c39] at H
                                                  have c39b0 : decide ((ji37) < (x6_4.length : Int)) = true := decide_eq_true c39
                                                  clear c39
                                                  obtain ⟨y282, hy282⟩ : ∃ y_ : List Int, y_ = (x6_4.set ((ji37) : Int).toNat ((Int.tmod x9_4 256) % 256)) := ⟨_, rfl⟩
                                                  replace H : (remontoireref12_Payload.l1 k4 t270 y282 x7_1 x8_23 (wrap64 (Int.tdiv x9_4 256)) (wrap64 (x10_4 + 1)) a0_0 a0_1 l0_2) = some (r1, r2) := by first | (rw [hy282]; with_reducible exact H) | (have H2_ := (Option.bind_some _ _).symm.trans H; rw [hy282]; with_reducible exact H2_) | (have H2_ := (Option.bind_some _ _).symm.trans H; with_reducible exact H2_) | with_reducible exact H | (rw [hy282]; exact H) | exact H
                                                  have Ny282 := Aside0.mk hy282
                                                  clear hy282
                                                  have H' := Aside0.mk H
                                                  clear H
                                                  have p281 : 0 ≤ ((ji34) : Int) := of_decide_eq_true (by first | (with_reducible assumption) | assumption)
                                                  have q281 : (ji34) < (t270.length : Int) := of_decide_eq_true (by first | (with_reducible assumption) | assumption)
                                                  obtain ⟨ad281, e281, hx281_0⟩ := Kd.at_int (Kd.R_reads' HO_5.out).2.2 (ji34) p281 q281
                                                  obtain rfl : ad276 = ad281 := (by injection e281)
                                                  replace p281 := eq_true p281
                                                  replace q281 := eq_true q281
                                                  have p40 : 0 ≤ ((ji37) : Int) := of_decide_eq_true (by first | (with_reducible assumption) | assumption)
                                                  have q40 : ((ji37) : Int) < ((x6_4.length : Int) : Int) := of_decide_eq_true (by first | (with_reducible assumption) | assumption)
                                                  obtain ⟨go40, co40, eo40, gb40, gl40, cl40, HG40⟩ := Kd.R_form HO_6.out (by omega)
                                                  (first | cases eo40 | (injection eo40 with ea_ en_ ec_; (first | subst ea_ | (injection ea_ with ea_; subst ea_)); subst ec_; clear en_))
                                                  have GB40 := Aside0.mk gb40
                                                  have GG40 := Aside0.mk HG40
                                                  clear gb40 gl40 HG40
                                                  obtain ⟨hx40_0, hf40_0⟩ := Kd.R_celln 0 HO_6.out ((ji37) : Int) p40 q40
                                                  replace p40 := eq_true p40
                                                  replace q40 := eq_true q40
                                                  have HP41 := Kd.R_putg HO_6.out ((ji37) : Int) ((Int.tmod x9_4 256) % 256)
                                                  go_wp2_with (first | ((with_reducible refine gate_store (t := 5) (p := 82) rfl ?_); refine store_event (t := 5) (p := 82) (v := ?vo_w42) (w1 := (wr.setCell ⟨go40, ((ji37) : Int).toNat, none⟩ (.int .u8 ((Int.tmod x9_4 256) % 256)))) ?hg ?ho ?hn ?hr ?_; (case ho => rfl); (case hg => rfl); (case hn => rfl); (case hr => first | (go_simp; done) | (go_simp; rfl)); intro w42 hw; have hg : wr.grownBy w42 (some go40) := (by rw [hw]; exact HP41.2); have hp_ : Kd.R (Kd.int .u8) 5 w42 w.heap.size (fun _ => True) (.slice (some ⟨go40, 0, none⟩) x6_4.length co40) y282 := (by rw [hw, Ny282.out]; exact HP41.1); clear HP41; have n0_ := Aside0.mk (Kd.R_over' (v := (.slice (some ⟨go40, 0, none⟩) x6_4.length co40)) (by (with_reducible repeat (first | apply Kd.R_alloc | apply Kd.R_drewN | apply Kd.R_drew)); exact HO_5.out) (Kd.R_typed HO_6.out) (by decide) hg); have n1_ := Aside0.mk (hp_); have n2_ := Aside0.mk (blk_grown (g := gb268) (o := .cells #[.int .u8 a0_0, .int .u8 a0_1, .slice (some ad277) l0_2.length c0_2] 26 (0, 0)) (by (with_reducible repeat (first | refine blk_drewN ?_ _ | refine blk_drew ?_ | refine blk_alloc ?_ _)); exact BK268.out) hg (Kd.R_ne HO_6.out BK268.out (by decide))); have n3_ := Aside0.mk ((by rw [hw]; exact below_set (HB.out) GB40.out : Below w.heap.size w w42)); clear HO_5; clear HO_6; clear BK268; clear HB; have HO_5 := n0_; have HO_6 := n1_; have BK268 := n2_; have HB := n3_; clear n0_ n1_ n2_ n3_; clear hg hw hp_))
                                                  go_roundg k4
                                                  case measure => have := HK1.out; have := HJ23.out; have := HJ28.out; have := HK4.out; omega
                                                  case rel => exact ⟨(y282), (wrap64 (Int.tdiv x9_4 256)), (wrap64 (x10_4 + 1)), (by first | rfl | (simp; done) | (simp [*]; done)), (by first | rfl | (simp; done) | (simp [*]; done)), H', ⟨by have := HK1.out; have := HJ23.out; have := HJ28.out; have := HK4.out; omega⟩, ⟨by (with_reducible repeat (first | apply Kd.R_alloc | apply Kd.R_drewN | apply Kd.R_drew)); exact HO_5.out⟩, ⟨by (with_reducible repeat (first | apply Kd.R_alloc | apply Kd.R_drewN | apply Kd.R_drew)); exact HO_6.out⟩, ⟨by (with_reducible repeat (first | refine blk_drewN ?_ _ | refine blk_drew ?_ | refine blk_alloc ?_ _)); exact BK268.out⟩, ⟨by repeat (first | (with_reducible first | exact HB.out | apply below_alloc | apply pw_below_drewN | apply below_drew1 | refine below_set ?_ GE268.out) | exact HB.out)⟩⟩
                                                · rw [if_neg c39] at H
                                                  exact absurd H (by simp)
                                              · rw [if_neg c38] at H
                                                exact absurd H (by simp)
                                            · rw [if_neg c36] at H
                                              exact absurd H (by simp)
                                          · rw [if_neg c35] at H
                                            exact absurd H (by simp)
                                        · rw [if_neg c33] at H
                                          have c33b0 : decide (x10_4 < x8_23) = false := decide_eq_false c33
                                          clear c33
                                          have H' := Aside0.mk H
                                          clear H
                                          go_wp2
                                          go_roundg k4
                                          case measure => have := HK1.out; have := HJ23.out; have := HJ28.out; have := HK4.out; omega
                                          case rel => exact ⟨(x6_4), (wrap64 (x7_1 + 1)), (by first | rfl | (simp; done) | (simp [*]; done)), H', ⟨by have := HK1.out; have := HJ23.out; have := HJ28.out; have := HK4.out; omega⟩, ⟨by (with_reducible repeat (first | apply Kd.R_alloc | apply Kd.R_drewN | apply Kd.R_drew)); exact HO_5.out⟩, ⟨by (with_reducible repeat (first | apply Kd.R_alloc | apply Kd.R_drewN | apply Kd.R_drew)); exact HO_6.out⟩, ⟨by (with_reducible repeat (first | refine blk_drewN ?_ _ | refine blk_drew ?_ | refine blk_alloc ?_ _)); exact BK268.out⟩, ⟨by repeat (first | (with_reducible first | exact HB.out | apply below_alloc | apply pw_below_drewN | apply below_drew1 | refine below_set ?_ GE268.out) | exact HB.out)⟩⟩
                              · rw [if_neg c28] at H
                                exact absurd H (by simp)
                            · rw [if_neg c27] at H
                              exact absurd H (by simp)
                      · replace c23 := Bool.eq_false_iff.mpr c23
                        subst c23
                        have H1 : (some (([] : List Int), 2)) = some (r1, r2) := by rw [if_neg (show ¬ (false = true) by decide)] at H; exact H
                        clear H
                        have H := H1
                        clear H1
                        simp only [Option.some.injEq, Prod.mk.injEq] at H
                        obtain ⟨rfl, rfl⟩ := H
                        have hcz43_0 : wr.cell? ⟨gb268, 0, none⟩ = some (.int .u8 a0_0) := (blk_cell BK268.out 0).trans rfl
                        have hcz43_1 : wr.cell? ⟨gb268, 1, none⟩ = some (.int .u8 a0_1) := (blk_cell BK268.out 1).trans rfl
                        have hcz43_2 : wr.cell? ⟨gb268, 2, none⟩ = some (.slice A0_2 l0_2.length c0_2) := (blk_cell BK268.out 2).trans rfl
                        have hfz43_0 := blk_frozen BK268.out 0
                        have hfz43_1 := blk_frozen BK268.out 1
                        have hfz43_2 := blk_frozen BK268.out 2
                        have p276 : 0 ≤ ((ji18) : Int) := of_decide_eq_true (by first | (with_reducible assumption) | assumption)
                        have q276 : (ji18) < (t270.length : Int) := of_decide_eq_true (by first | (with_reducible assumption) | assumption)
                        obtain ⟨ad276, e276, hx276_0⟩ := Kd.at_int (Kd.R_reads' HO_5.out).2.2 (ji18) p276 q276
                        cases e276
                        replace p276 := eq_true p276
                        replace q276 := eq_true q276
                        have p277 : 0 ≤ (x7_1 : Int) := of_decide_eq_true (by first | (with_reducible assumption) | assumption)
                        have q277 : x7_1 < (l0_2.length : Int) := of_decide_eq_true (by first | (with_reducible assumption) | assumption)
                        obtain ⟨ad277, e277, hx277_0⟩ := Kd.at_int HR0_2.out x7_1 p277 q277
                        cases e277
                        replace hx277_0 := (HB.out.cell (World.block_lt_of_cell? w _ hx277_0)).trans hx277_0
                        replace p277 := eq_true p277
                        replace q277 := eq_true q277
                        go_wp2_with (first | ((with_reducible refine gate_callee (f := 19) rfl ?_); refine goesL_ (some 49) rfl rfl Try.func19 (by kernel_rfl) rfl #[.int .i64 (rd l0_2 x7_1), .int .i64 (rd t270 (ji18))] rfl (by (try simp only [List.map_toArray, List.map_cons, List.map_nil]); first | done | (simp only [hji18]; rfl) | rfl | (simp only [List.length_drop, List.length_take]; rfl)) ?_; (with_reducible refine (remontoireref12_Fits.calls k1 (rd l0_2 x7_1) (rd t270 (ji18)) false _ A22.out).mono ?_); rintro e w' ⟨rfl, ⟨nd, rfl⟩⟩; refine ⟨_, rfl, ?_⟩))
                        go_ret2
                        exact ⟨_, by first | rfl | (simp [errW_none, errW_some] <;> rfl) | (simp only [← hji18]; first | rfl | (simp [errW_none, errW_some] <;> rfl)) | (simp [*, errW_none, errW_some] <;> rfl), by first | exact Kd.R_nil _ _ _ _ _ | exact Kd.N_nil _ _ _ _ _ | exact Kd.V_nil _ _ _ _ _ | exact Kd.Q_nil _ _ _ _ _ | exact Kd.S_nil _ _ _ _ _, by repeat (first | (with_reducible first | exact HB.out | apply below_alloc | apply pw_below_drewN | apply below_drew1 | refine below_set ?_ GE268.out) | exact HB.out)⟩
                    · rw [if_neg c21] at H
                      exact absurd H (by simp)
                  · rw [if_neg c20] at H
                    exact absurd H (by simp)
                · rw [if_neg c19] at H
                  exact absurd H (by simp)
              · rw [if_neg c17] at H
                have c17b0 : decide (x7_1 < (l0_2.length : Int)) = false := decide_eq_false c17
                clear c17
                simp only [Option.some.injEq, Prod.mk.injEq] at H
                obtain ⟨rfl, rfl⟩ := H
                have hcz44_0 : wr.cell? ⟨gb268, 0, none⟩ = some (.int .u8 a0_0) := (blk_cell BK268.out 0).trans rfl
                have hcz44_1 : wr.cell? ⟨gb268, 1, none⟩ = some (.int .u8 a0_1) := (blk_cell BK268.out 1).trans rfl
                have hcz44_2 : wr.cell? ⟨gb268, 2, none⟩ = some (.slice A0_2 l0_2.length c0_2) := (blk_cell BK268.out 2).trans rfl
                have hfz44_0 := blk_frozen BK268.out 0
                have hfz44_1 := blk_frozen BK268.out 1
                have hfz44_2 := blk_frozen BK268.out 2
                go_wp2
                go_ret2
                exact ⟨_, by first | rfl | (simp [errW_none, errW_some] <;> rfl) | (simp [*, errW_none, errW_some] <;> rfl), by (with_reducible repeat (first | apply Kd.R_alloc | apply Kd.R_drewN | apply Kd.R_drew)); exact HO_6.out, by repeat (first | (with_reducible first | exact HB.out | apply below_alloc | apply pw_below_drewN | apply below_drew1 | refine below_set ?_ GE268.out) | exact HB.out)⟩
        · rw [if_neg c9] at H
          exact absurd H (by simp)
      · rw [if_neg c8] at H
        exact absurd H (by simp)
    · rw [if_neg c7] at H
      have c7b0 : ((wrap64 ((l0_2.length : Int) * 2)) == (t270.length : Int)) = false := beq_eq_false_iff_ne.mpr c7
      have c7b1 : ((wrap64 ((l0_2.length : Int) * 2)) != (t270.length : Int)) = true := bne_iff_ne.mpr c7
      simp only [Option.some.injEq, Prod.mk.injEq] at H
      obtain ⟨rfl, rfl⟩ := H
      go_enter Try.func11, Try.ntmps11
      go_wp2_with (first | ((with_reducible refine gate_dst (N := 1) rfl ?_); refine box_event ?hg (N := 1) ?hd (cs := #[.int .u8 a0_0, .int .u8 a0_1, .slice A0_2 l0_2.length c0_2]) (t := 26) ?hr ?_; (case hd => rfl); (case hg => rfl); (case hr => first | (go_simp; done) | (go_simp; rfl)); intro gb268 hg w45 hbox hb; have n0_ := Aside0.mk (below_step (by repeat (first | (with_reducible first | exact HB.out | apply below_alloc | apply pw_below_drewN | apply below_drew1) | exact HB.out)) hb); have n1_ := Aside0.mk (hbox); have n2_ := Aside0.mk ((by rw [hg]; exact (below_size (by repeat (first | (with_reducible first | exact HB.out | apply below_alloc | apply pw_below_drewN | apply below_drew1) | exact HB.out))) : w.heap.size ≤ gb268)); have n3_ := Aside0.mk ((by rw [hg]; exact (below_size (by repeat (first | (with_reducible first | exact HB.out | apply below_alloc | apply pw_below_drewN | apply below_drew1) | exact HB.out))) : w.heap.size ≤ gb268)); clear HB; have HB := n0_; have BK268 := n1_; have GW268 := n2_; have GE268 := n3_; clear n0_ n1_ n2_ n3_; clear hb hbox hg; have hcz46_0 : w45.cell? ⟨gb268, 0, none⟩ = some (.int .u8 a0_0) := (blk_cell BK268.out 0).trans rfl; have hcz46_1 : w45.cell? ⟨gb268, 1, none⟩ = some (.int .u8 a0_1) := (blk_cell BK268.out 1).trans rfl; have hcz46_2 : w45.cell? ⟨gb268, 2, none⟩ = some (.slice A0_2 l0_2.length c0_2) := (blk_cell BK268.out 2).trans rfl; have hfz46_0 := blk_frozen BK268.out 0; have hfz46_1 := blk_frozen BK268.out 1; have hfz46_2 := blk_frozen BK268.out 2) | ((with_reducible refine gate_callee (f := 14) rfl ?_); refine goesL_ (some 16) rfl rfl Try.func14 (by kernel_rfl) rfl #[.int .u8 a0_0, .int .u8 a0_1] rfl (by (try simp only [List.map_toArray, List.map_cons, List.map_nil]); first | done | rfl | (simp only [List.length_drop, List.length_take]; rfl)) ?_; (with_reducible refine (remontoireref12_Layout.calls a0_0 a0_1 t269 t270 _ A2.out).mono ?_); rintro e w47 ⟨v271, rfl, ho0, hb⟩; refine ⟨_, rfl, ?_⟩; have n0_ := Aside0.mk (Kd.R_lower ho0 (below_size (by repeat (first | (with_reducible first | exact HB.out | apply below_alloc | apply pw_below_drewN | apply below_drew1 | refine below_set ?_ GE268.out) | exact HB.out)))); have n1_ := Aside0.mk (blk_below (g := gb268) (o := .cells #[.int .u8 a0_0, .int .u8 a0_1, .slice A0_2 l0_2.length c0_2] 26 (0, 0)) (by (with_reducible repeat (first | refine blk_drewN ?_ _ | refine blk_drew ?_ | refine blk_alloc ?_ _)); exact BK268.out) hb); have n2_ := Aside0.mk (below_step (by repeat (first | (with_reducible first | exact HB.out | apply below_alloc | apply pw_below_drewN | apply below_drew1 | refine below_set ?_ GE268.out) | exact HB.out)) hb); clear BK268; clear HB; have HO272 := n0_; have BK268 := n1_; have HB := n2_; clear n0_ n1_ n2_; (try clear hb); (try clear hb2); (try clear hk); (try clear hi); (try clear ho0); have hcz48_0 : w47.cell? ⟨gb268, 0, none⟩ = some (.int .u8 a0_0) := (blk_cell BK268.out 0).trans rfl; have hcz48_1 : w47.cell? ⟨gb268, 1, none⟩ = some (.int .u8 a0_1) := (blk_cell BK268.out 1).trans rfl; have hcz48_2 : w47.cell? ⟨gb268, 2, none⟩ = some (.slice A0_2 l0_2.length c0_2) := (blk_cell BK268.out 2).trans rfl; have hfz48_0 := blk_frozen BK268.out 0; have hfz48_1 := blk_frozen BK268.out 1; have hfz48_2 := blk_frozen BK268.out 2; obtain ⟨Ao49, co49, eo49⟩ := Kd.R_slice HO272.out; subst eo49))
      go_ret2
      exact ⟨_, by first | rfl | (simp [errW_none, errW_some] <;> rfl) | (simp [*, errW_none, errW_some] <;> rfl), by first | exact Kd.R_nil _ _ _ _ _ | exact Kd.N_nil _ _ _ _ _ | exact Kd.V_nil _ _ _ _ _ | exact Kd.Q_nil _ _ _ _ _ | exact Kd.S_nil _ _ _ _ _, by repeat (first | (with_reducible first | exact HB.out | apply below_alloc | apply pw_below_drewN | apply below_drew1 | refine below_set ?_ GE268.out) | exact HB.out)⟩

end Go.Proofs.Ytgfbhghnaipjhaa.QUbx
