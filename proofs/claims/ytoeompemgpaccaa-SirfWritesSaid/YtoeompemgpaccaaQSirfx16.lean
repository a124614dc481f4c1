/- Written by a program of this session out of the translation: Lean functions for the Go functions of one package, and proofs that the calls come to them. -/
import Derived.Test.YtoeompemgpaccaaQSirfx0
import Derived.Test.YtoeompemgpaccaaQSirfx9
namespace Go.Proofs.Ytoeompemgpaccaa.QSirf
open Go.RowKit Go.Proofs.YtoeompemgpaccaaW.PrintWords Go.Proofs.YtoeompemgpaccaaW.PrintLast Go.Proofs.YtoeompemgpaccaaW.PrintMore
attribute [local go_sem] max2_int min2_int max_two min_two max_three min_three max_four min_four   -- for this text's walks alone
set_option linter.unusedVariables false
set_option linter.unusedSimpArgs false

/-! ### remontoireref12_Fits: function 21 -/
def remontoireref12_Fits.f (k : Nat) (a0 : Int) (a1 : Int) : Option (Bool) := if a1 < 0 then ((remontoireref12_power.f k (wrap64 (-a1))).bind fun t277 => (if a0 ≥ (wrap64 (Int.tdiv (wrap64 (-t277)) 2)) then ((remontoireref12_power.f k (wrap64 (-a1))).bind fun t278 => (some (decide (a0 < (wrap64 (Int.tdiv t278 2)))))) else (some false))) else (if a0 ≥ 0 then ((remontoireref12_power.f k a1).bind fun t279 => (some (decide (a0 < t279)))) else (some false))
theorem remontoireref12_Fits.mono : ∀ a0 a1 k, LeO (remontoireref12_Fits.f k a0 a1) (remontoireref12_Fits.f (k + 1) a0 a1) := by
  intro a0 a1 k
  unfold remontoireref12_Fits.f
  repeat' first
      | (with_reducible exact remontoireref12_power.mono _ _)
      | (with_reducible exact LeO.refl _)
      | (with_reducible exact LeO.none _)
      | (with_reducible refine LeO.ite ?_ ?_)
      | (with_reducible refine LeO.bind ?_ (fun _ => ?_))
      | exact remontoireref12_power.mono _ _
      | exact LeO.none _
      | refine LeO.ite ?_ ?_
      | refine LeO.bind ?_ (fun _ => ?_)
set_option maxHeartbeats 8000000 in
set_option maxRecDepth 100000 in
theorem remontoireref12_Fits.calls (k : Nat) (a0 : Int) (a1 : Int) (r : Bool) (w : World) (h : remontoireref12_Fits.f k a0 a1 = some r) :
    Calls Try.prog 21 #[.int .i64 a0, .int .i64 a1] w fun e w' => e = .returned (.bool r) ∧ Drawn0 w w' := by
  have H : (if a1 < 0 then ((remontoireref12_power.f k (wrap64 (-a1))).bind fun t277 => (if a0 ≥ (wrap64 (Int.tdiv (wrap64 (-t277)) 2)) then ((remontoireref12_power.f k (wrap64 (-a1))).bind fun t278 => (some (decide (a0 < (wrap64 (Int.tdiv t278 2)))))) else (some false))) else (if a0 ≥ 0 then ((remontoireref12_power.f k a1).bind fun t279 => (some (decide (a0 < t279)))) else (some false))) = some r := h
  clear h
  by_cases c3 : a1 < 0
  · rw [if_pos c3] at H
    have c3b0 : decide (a1 < 0) = true := decide_eq_true c3
    clear c3
    replace H := Option.bind_eq_some_iff.mp H
    obtain ⟨t277, A40, H⟩ := H
    replace H : (if a0 ≥ (wrap64 (Int.tdiv (wrap64 (-t277)) 2)) then ((remontoireref12_power.f k (wrap64 (-a1))).bind fun t278 => (some (decide (a0 < (wrap64 (Int.tdiv t278 2)))))) else (some false)) = some r := H
    have A4 := Aside0.mk A40
    clear A40
    by_cases c5 : a0 ≥ (wrap64 (Int.tdiv (wrap64 (-t277)) 2))
    · rw [if_pos c5] at H
      have c5b0 : decide ((wrap64 (Int.tdiv (wrap64 (-t277)) 2)) ≤ a0) = true := decide_eq_true c5
      clear c5
      replace H := Option.bind_eq_some_iff.mp H
      obtain ⟨t278, A60, H⟩ := H
      replace H : (some (decide (a0 < (wrap64 (Int.tdiv t278 2))))) = some r := H
      have A6 := Aside0.mk A60
      clear A60
      obtain rfl := Option.some.inj H
      go_enter Try.func21, Try.ntmps21
      go_wp2_with (first | ((with_reducible refine gate_callee (f := 26) rfl ?_); refine goesL_ (some 10) rfl rfl Try.func26 (by kernel_rfl) rfl #[.int .i64 (wrap64 (-a1))] rfl (by (try simp only [List.map_toArray, List.map_cons, List.map_nil]); first | done | rfl | (simp only [List.length_drop, List.length_take]; rfl)) ?_; (with_reducible refine (remontoireref12_power.calls k (wrap64 (-a1)) t277 _ A4.out).mono ?_); rintro e w' ⟨rfl, ⟨nd, rfl⟩⟩; refine ⟨_, rfl, ?_⟩) | (go_at_call 26; (with_reducible refine (remontoireref12_power.calls k (wrap64 (-a1)) t278 _ A6.out).mono ?_); rintro e w' ⟨rfl, ⟨nd, rfl⟩⟩))
      go_ret
      exact ⟨by first | rfl | (simp; done) | (simp [*]; done), by repeat (first | exact Drawn0.refl _ | apply Drawn0.step)⟩
    · rw [if_neg c5] at H
      have c5b0 : decide ((wrap64 (Int.tdiv (wrap64 (-t277)) 2)) ≤ a0) = false := decide_eq_false c5
      clear c5
      obtain rfl := Option.some.inj H
      go_enter Try.func21, Try.ntmps21
      go_wp2_with (first | ((with_reducible refine gate_callee (f := 26) rfl ?_); refine goesL_ (some 10) rfl rfl Try.func26 (by kernel_rfl) rfl #[.int .i64 (wrap64 (-a1))] rfl (by (try simp only [List.map_toArray, List.map_cons, List.map_nil]); first | done | rfl | (simp only [List.length_drop, List.length_take]; rfl)) ?_; (with_reducible refine (remontoireref12_power.calls k (wrap64 (-a1)) t277 _ A4.out).mono ?_); rintro e w' ⟨rfl, ⟨nd, rfl⟩⟩; refine ⟨_, rfl, ?_⟩))
      go_ret
      exact ⟨by first | rfl | (simp; done) | (simp [*]; done), by repeat (first | exact Drawn0.refl _ | apply Drawn0.step)⟩
  · rw [if_neg c3] at H
    have c3b0 : decide (a1 < 0) = false := decide_eq_false c3
    clear c3
    by_cases c7 : a0 ≥ 0
    · rw [if_pos c7] at H
      have c7b0 : decide (0 ≤ a0) = true := decide_eq_true c7
      clear c7
      replace H := Option.bind_eq_some_iff.mp H
      obtain ⟨t279, A80, H⟩ := H
      replace H : (some (decide (a0 < t279))) = some r := H
      have A8 := Aside0.mk A80
      clear A80
      obtain rfl := Option.some.inj H
      go_enter Try.func21, Try.ntmps21
      go_wp2_with (first | (go_at_call 26; (with_reducible refine (remontoireref12_power.calls k a1 t279 _ A8.out).mono ?_); rintro e w' ⟨rfl, ⟨nd, rfl⟩⟩))
      go_ret
      exact ⟨by first | rfl | (simp; done) | (simp [*]; done), by repeat (first | exact Drawn0.refl _ | apply Drawn0.step)⟩
    · rw [if_neg c7] at H
      have c7b0 : decide (0 ≤ a0) = false := decide_eq_false c7
      clear c7
      obtain rfl := Option.some.inj H
      go_enter Try.func21, Try.ntmps21
      go_wp2
      go_ret
      exact ⟨by first | rfl | (simp; done) | (simp [*]; done), by repeat (first | exact Drawn0.refl _ | apply Drawn0.step)⟩

end Go.Proofs.Ytoeompemgpaccaa.QSirf
