/- SirfBack: what is read of any payload of at most 1100 bytes is written as a payload of the same message; another byte where no field stands makes no other message, another one within a field does. -/
import Derived.Test.YtoeompemgpaccaaPureE
import Derived.Test.YtoeompemgpaccaaQSirfx21
namespace Go.Proofs.Ytoeompemgpaccaa.Pure
open Go.RowKit Go.Proofs.Ytoeompemgpaccaa.QSirf Go.Proofs.YtoeompemgpaccaaW.PrintWords Go.Proofs.YtoeompemgpaccaaW.PrintLast Go.Proofs.YtoeompemgpaccaaW.PrintMore
theorem same13_dec {a : Int} {v u : List Int} (hv : v.length ≤ 1000000) (hu : v.length = u.length) (k : Nat) (hk : v.length + 2 ≤ k) : remontoireref13_Same.f k a v a u = some (decide (v = u)) := by
  unfold remontoireref13_Same.f
  rw [same_dec hv hu k hk]
  rfl
theorem tab_more : ∀ r ∈ LTab, 2 ≤ r.2.headD 0 ∧ ∀ f ∈ flds r.2.tail, 1 ≤ f.f0 := by
  have h : LTab.all (fun r => decide (2 ≤ r.2.headD 0) && (flds r.2.tail).all (fun f => decide (1 ≤ f.f0))) = true := by kernel_rfl
  intro r hr
  have h1 := List.all_eq_true.1 h r hr
  simp only [Bool.and_eq_true, decide_eq_true_eq, List.all_eq_true] at h1
  exact ⟨h1.1, fun f hf => h1.2 f hf⟩
theorem look_more {c n : Int} {fs : List S47} (h : sirf_look.f 0 c = some (n, fs, true)) : 2 ≤ n ∧ ∀ f ∈ fs, 1 ≤ f.f0 := by
  unfold sirf_look.f at h
  split at h
  · cases e : LTab.find? (fun r => r.1 == [c]) with
    | none => rw [e] at h; simp at h
    | some r =>
      rw [e] at h
      simp only [Option.some.injEq, Prod.mk.injEq, and_true] at h
      obtain ⟨rfl, rfl⟩ := h
      exact tab_more r (List.mem_of_find?_eq_some e)
  · simp at h
theorem back_loop {fs : List S47} {a c : Int} {v u : List Int} (hfs : FsOk fs 1000) (hn : fs.length ≤ 100) (hs : ∀ k, v.length + 2 ≤ k → remontoireref13_Same.f k c v c u = some (!fs.any (inF a)))
    (d : Nat) : ∀ (j : Nat) (q : Bool) (k : Nat), j + d = fs.length → (q || (fs.drop j).any (inF a)) = fs.any (inF a) → d + 200 + v.length ≤ k →
    remontoirelaw13_SirfBack.l0 k a 0 (fs.flatMap pr) q ((2 * j : Nat) : Int) c v c u = some true := by
  have hpl := prs_len fs
  induction d with
  | zero =>
    intro j q k hj hq hk
    obtain ⟨k, rfl⟩ : ∃ m, k = m + 1 := ⟨k - 1, by omega⟩
    unfold remontoirelaw13_SirfBack.l0
    rw [List.drop_of_length_le (by omega)] at hq
    simp only [List.any_nil, Bool.or_false] at hq
    rw [if_neg (by omega), if_pos rfl, hs k (by omega), ← hq]
    simp only [Option.bind_some]
    rw [if_pos (by cases q <;> rfl), known_true k (by omega)]
    rfl
  | succ d ih =>
    intro j q k hj hq hk
    obtain ⟨k, rfl⟩ : ∃ m, k = m + 1 := ⟨k - 1, by omega⟩
    have hjl : j < fs.length := by omega
    obtain ⟨e1, e2⟩ := rd_prs hjl
    have hok := hfs _ (List.getElem_mem hjl)
    have hw : wrap64 (((2 * j : Nat) : Int) + 2) = ((2 * (j + 1) : Nat) : Int) := by rw [w64 (by omega) (by omega)]; omega
    have hw1 : wrap64 (((2 * j : Nat) : Int) + 1) = ((2 * j + 1 : Nat) : Int) := by rw [w64 (by omega) (by omega)]; omega
    have em : mx fs[j].f1 (wrap64 (-fs[j].f1)) = wid fs[j] := by
      have := mx_abs hok.2.1 (sgn fs[j])
      rwa [← f1_eq fs[j]] at this
    rw [List.drop_eq_getElem_cons hjl, List.any_cons] at hq
    unfold remontoirelaw13_SirfBack.l0
    rw [if_pos (by omega), hw]
    cases q with
    | true =>
      rw [if_pos rfl]
      exact ih (j + 1) true k (by omega) (by simpa using hq) (by omega)
    | false =>
      rw [if_neg (by simp), if_pos (by omega), e1]
      by_cases h0 : a ≥ fs[j].f0
      · rw [if_pos h0, hw1, if_pos (by omega), if_pos (by omega), e2, em, w64 (by have := hok; unfold FOk at this; omega) (by have := hok; unfold FOk at this; omega)]
        refine ih (j + 1) _ k (by omega) ?_ (by omega)
        rw [← hq]
        simp [inF, h0]
      · rw [if_neg h0]
        refine ih (j + 1) false k (by omega) ?_ (by omega)
        rw [← hq]
        simp [inF]
        omega
theorem enc_frame {c : Int} {V own : List Int} {n : Nat} (hpv : payV c V = (own, 0)) (hlen : own.length = n) : ∃ fr, encV c V = (fr, 0) ∧ fr.length = n + 8 := by
  unfold encV
  rw [hpv]
  refine ⟨_, rfl, ?_⟩
  simp [hlen]
theorem at_range {a : Int} {n : Nat} (hn : 0 < n) : 0 ≤ Int.tmod (IntKind.u64.wrap a) (n : Int) ∧ Int.tmod (IntKind.u64.wrap a) (n : Int) < n := by
  have hu : 0 ≤ IntKind.u64.wrap a := by
    unfold IntKind.wrap
    simp only [IntKind.signed, IntKind.bits, Bool.false_and, Bool.false_eq_true, if_false]
    omega
  rw [Int.tmod_eq_emod_of_nonneg hu]
  exact ⟨Int.emod_nonneg _ (by omega), Int.emod_lt_of_pos _ (by omega)⟩
/-- The place of the other byte: 1 to n - 1. -/
theorem at_place {a : Int} {n : Nat} (hn : 2 ≤ n) (hn2 : n ≤ 1100) : ∃ p : Int, wrap64 (1 + (wrap64 (Int.tmod (IntKind.u64.wrap a) (IntKind.u64.wrap (wrap64 ((n : Int) - 1)))))) = p ∧ 1 ≤ p ∧ p < n ∧ IntKind.u64.wrap (wrap64 ((n : Int) - 1)) ≠ 0 := by
  have e1 : IntKind.u64.wrap (wrap64 ((n : Int) - 1)) = ((n - 1 : Nat) : Int) := by
    rw [w64 (by omega) (by omega), u64w (by omega) (by omega)]
    omega
  have h := at_range (a := a) (n := n - 1) (by omega)
  rw [e1]
  generalize Int.tmod (IntKind.u64.wrap a) ((n - 1 : Nat) : Int) = t at h
  refine ⟨1 + t, ?_, by omega, by omega, by omega⟩
  rw [w64 (x := t) (by omega) (by omega), w64 (by omega) (by omega)]
set_option maxHeartbeats 2000000 in
theorem SirfBack : remontoirelaw13_SirfBack.Pure := by
  intro l a _ _ hl hai
  have hb := bytes_wf hl
  clear hai hl
  suffices h : ∀ k, 2000 ≤ k → remontoirelaw13_SirfBack.f k l a = some true from ⟨2000, h 2000 (Nat.le_refl _)⟩
  intro k hk
  unfold remontoirelaw13_SirfBack.f
  by_cases h6 : (l.length : Int) > 1100
  · rw [if_pos h6, known_true k (by omega)]; rfl
  rw [if_neg h6, dec_eq hb (by omega) k (by omega)]
  simp only [Option.bind_some]
  by_cases hz : (l.length : Int) = 0
  · have hd : decV l = (0, [], 4) := by
      unfold decV
      rw [if_pos hz]
    rw [hd]
    dsimp only
    rw [if_neg (by omega), if_pos (by simp), known_true k (by omega)]
    rfl
  have hr := hb.rd 0
  rcases look_cases hr.1 hr.2 with ⟨n, fs, h1, h2, h3, h4, h5, h7⟩ | ⟨h1, _⟩
  · obtain ⟨hn2, hf1⟩ := look_more (h1 0)
    by_cases e : (l.length : Int) = n
    · have e' : l.length = n := by omega
      have hd (o : List Int) (ho : o.length = n) (hoc : rd o 0 = rd l 0) : decV o = (rd l 0, fs.map (fv o), 0) := by
        unfold decV
        rw [if_neg (by omega), hoc, h1 0]
        dsimp only
        rw [if_pos (by omega)]
      rw [hd l e' rfl]
      dsimp only
      rw [if_pos rfl, pay_eq hr.1 hr.2 _ k (by omega), enc_eq hr.1 hr.2 _ k (by omega)]
      obtain ⟨own, hown, hlen, ho0, hmap⟩ := pay_dec hb h7 (by omega) hf1 (rd l 0)
      have hpv : payV (rd l 0) (fs.map (fv l)) = (own, 0) := by
        unfold payV
        rw [h1 0]
        dsimp only
        rw [if_pos (by simp), Int.toNat_natCast]
        exact hown
      have hob : Bytes own := by have := (payV_bytes hr.1 hr.2 (fs.map (fv l))).1; rw [hpv] at this; exact this
      obtain ⟨fr, hev, hfl⟩ : ∃ fr, encV (rd l 0) (fs.map (fv l)) = (fr, 0) ∧ fr.length = n + 8 := enc_frame hpv hlen
      rw [hpv, hev]
      simp only [Option.bind_some]
      rw [dec_eq hob (by omega) k (by omega), hd own hlen ho0, hmap]
      simp only [Option.bind_some, if_true]
      rw [sameS_self (by simp; omega) k (by simp; omega)]
      simp only [Option.bind_some, if_true]
      have hl8 : wrap64 ((l.length : Int) + 8) = ((n + 8 : Nat) : Int) := by rw [w64 (by omega) (by omega)]; omega
      obtain ⟨p, ep, hp1, hp2, hp3⟩ := at_place (a := a) (n := l.length) (by omega) (by omega)
      refine (if_pos (show (own.length : Int) = l.length by clear hl8 ep hp3; omega)).trans ?_
      refine (if_pos (show (fr.length : Int) = wrap64 ((l.length : Int) + 8) by rw [hl8]; clear hl8 ep hp3; omega)).trans ?_
      refine (if_neg hp3).trans ?_
      rw [ep]
      clear hl8 ep hp3
      simp only [List.nil_append]
      rw [if_pos (by simp; omega), if_pos (by omega), if_pos (by omega)]
      have hso : rd (l.set p.toNat ((rd l p + 1) % 256)) 0 = rd l 0 := by
        rw [rd_set (by omega) (by omega) (by omega), if_neg (by omega)]
      rw [dec_eq (hb.set _ (by omega)) (by simp; omega) k (by omega), hd _ (by simpa using e') hso, h2]
      simp only [Option.bind_some]
      have hdo := dec_other hb e' h7 (a := p) (by omega) (by omega)
      have hfs : FsOk fs 1000 := fun f hf => by obtain ⟨x1, x2, x3⟩ := h7 f hf; exact ⟨x1, x2, by omega⟩
      rw [if_pos (by omega)]
      refine back_loop hfs (by omega) (fun q hq => ?_) fs.length 0 false k (by omega) (by simp) (by simp; omega)
      rw [same13_dec (by simp; omega) (by simp) q hq, hdo]
    · have hd : decV l = (0, [], 5) := by
        unfold decV
        rw [if_neg hz, h1 0]
        dsimp only
        rw [if_neg e]
      rw [hd]
      dsimp only
      rw [if_neg (by omega), if_pos (by simp), known_true k (by omega)]
      rfl
  · have hd : decV l = (0, [], 7) := by
      unfold decV
      rw [if_neg hz, h1 0]
    rw [hd]
    dsimp only
    rw [if_neg (by omega), if_pos (by simp), known_true k (by omega)]
    rfl
end Go.Proofs.Ytoeompemgpaccaa.Pure
