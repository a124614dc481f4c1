/- UbxBack: what is read of any payload of at most 600 bytes is written as a payload of the same message; another byte makes another message just where a field stands. -/
import Derived.Test.YtgfbhghnaipjhaaPureE
import Derived.Test.YtgfbhghnaipjhaaQUbxx18
namespace Go.Proofs.Ytgfbhghnaipjhaa.Pure
open Go.RowKit Go.Proofs.Ytgfbhghnaipjhaa.QUbx Go.Proofs.YtgfbhghnaipjhaaW.PrintWords Go.Proofs.YtgfbhghnaipjhaaW.PrintLast Go.Proofs.YtgfbhghnaipjhaaW.PrintMore
theorem mx_abs {s : Int} (h : s = 1 ∨ s = 2 ∨ s = 4) (sg : Bool) : mx (if sg = true then -s else s) (wrap64 (-(if sg = true then -s else s))) = s := by
  rcases h with rfl | rfl | rfl <;> cases sg <;> decide +kernel
theorem back_loop {l : List Int} {fs : List S49} {a n c i : Int} {v u : List Int} (hfs : FsOk fs 1000) (hn : fs.length ≤ 100) (hc : n = l.length) (hs : ∀ k, v.length + 2 ≤ k → remontoireref12_Same.f k c i v c i u = some (!fs.any (inF a)))
    (d : Nat) : ∀ (j : Nat) (q : Bool) (k : Nat), j + d = fs.length → (q || (fs.drop j).any (inF a)) = fs.any (inF a) → d + 200 + v.length ≤ k →
    remontoirelaw12_UbxBack.l0 k l a 0 n (fs.flatMap pr) q ((2 * j : Nat) : Int) c i v c i u = some true := by
  have hpl := prs_len fs
  induction d with
  | zero =>
    intro j q k hj hq hk
    obtain ⟨k, rfl⟩ : ∃ m, k = m + 1 := ⟨k - 1, by omega⟩
    unfold remontoirelaw12_UbxBack.l0
    rw [List.drop_of_length_le (by omega)] at hq
    simp only [List.any_nil, Bool.or_false] at hq
    rw [if_neg (by omega), if_pos rfl, if_pos hc, hs k (by omega), ← hq]
    simp only [Option.bind_some]
    rw [if_pos (by cases q <;> rfl), known_true k (by omega)]
    rfl
  | succ d ih =>
    intro j q k hj hq hk
    obtain ⟨k, rfl⟩ : ∃ m, k = m + 1 := ⟨k - 1, by omega⟩
    have hjl : j < fs.length := by omega
    obtain ⟨e1, e2⟩ := rd_prs hjl
    have hok := hfs _ (List.getElem_mem hjl)
    have hw : wrap64 (((2 * j : Nat) : Int) + 2) = ((2 * (j + 1) : Nat) : Int) := by rw [w64 (by omega) (by omega)]; omega
    have hw1 : wrap64 (((2 * j : Nat) : Int) + 1) = ((2 * j + 1 : Nat) : Int) := by rw [w64 (by omega) (by omega)]; omega
    rw [List.drop_eq_getElem_cons hjl, List.any_cons] at hq
    unfold remontoirelaw12_UbxBack.l0
    rw [if_pos (by omega), hw]
    cases q with
    | true =>
      rw [if_pos rfl]
      exact ih (j + 1) true k (by omega) (by simpa using hq) (by omega)
    | false =>
      rw [if_neg (by simp), if_pos (by omega), e1]
      by_cases h0 : a ≥ fs[j].f0
      · rw [if_pos h0, hw1, if_pos (by omega), if_pos (by omega), e2, mx_abs hok.2.1, w64 (by have := hok; unfold FOk at this; omega) (by have := hok; unfold FOk at this; omega)]
        refine ih (j + 1) _ k (by omega) ?_ (by omega)
        rw [← hq]
        simp [inF, h0]
      · rw [if_neg h0]
        refine ih (j + 1) false k (by omega) ?_ (by omega)
        rw [← hq]
        simp [inF]
        omega
theorem enc_frame {c i : Int} {V own : List Int} {n : Nat} (hpv : payV c i V = (own, 0)) (hlen : own.length = n) : ∃ fr, encV c i V = (fr, 0) ∧ fr.length = n + 8 ∧ (fr.take (6 + n)).drop 6 = own := by
  unfold encV
  rw [hpv]
  refine ⟨_, rfl, ?_, ?_⟩
  · simp [hlen]
  · rw [show 6 + n = n + 6 by omega]
    simp [← hlen]
theorem at_range {a : Int} {n : Nat} (hn : 0 < n) : 0 ≤ Int.tmod (IntKind.u64.wrap a) (n : Int) ∧ Int.tmod (IntKind.u64.wrap a) (n : Int) < n := by
  have hu : 0 ≤ IntKind.u64.wrap a := by
    unfold IntKind.wrap
    simp only [IntKind.signed, IntKind.bits, Bool.false_and, Bool.false_eq_true, if_false]
    omega
  rw [Int.tmod_eq_emod_of_nonneg hu]
  exact ⟨Int.emod_nonneg _ (by omega), Int.emod_lt_of_pos _ (by omega)⟩
set_option maxHeartbeats 2000000 in
theorem UbxBack : remontoirelaw12_UbxBack.Pure := by
  intro c i l a hc hi _ _ hl hai
  obtain ⟨hc0, hc1⟩ := byte_wf hc
  obtain ⟨hi0, hi1⟩ := byte_wf hi
  have hb := bytes_wf hl
  clear hai
  suffices h : ∀ k, 2000 ≤ k → remontoirelaw12_UbxBack.f k c i l a = some true from ⟨2000, h 2000 (Nat.le_refl _)⟩
  intro k hk
  unfold remontoirelaw12_UbxBack.f
  by_cases h6 : (l.length : Int) > 600
  · rw [if_pos h6, known_true k (by omega)]; rfl
  rw [if_neg h6, dec_eq hc0 hc1 hi0 hi1 hb (by omega) k (by omega)]
  simp only [Option.bind_some]
  rcases look_cases hc0 hc1 hi0 hi1 with ⟨n, fs, h1, h2, h3, h4, h5, h7⟩ | ⟨h1, _⟩
  · by_cases e : (l.length : Int) = n
    · have e' : l.length = n := by omega
      have hd (o : List Int) (ho : o.length = n) : decV c i o = (c, i, fs.map (fv o), 0) := by
        unfold decV
        rw [h1 0]
        dsimp only
        rw [if_pos (by omega)]
      rw [hd l e']
      dsimp only
      rw [if_pos rfl, pay_eq hc0 hc1 hi0 hi1 _ k (by omega), enc_eq hc0 hc1 hi0 hi1 _ k (by omega)]
      obtain ⟨own, hown, hlen, hmap⟩ := pay_dec hb h7
      have hpv : payV c i (fs.map (fv l)) = (own, 0) := by
        unfold payV
        rw [h1 0]
        dsimp only
        rw [if_pos (by simp), Int.toNat_natCast]
        exact hown
      have hob : Bytes own := by have := (payV_bytes hc0 hc1 hi0 hi1 (fs.map (fv l))).1; rw [hpv] at this; exact this
      obtain ⟨fr, hev, hfl, hcut⟩ : ∃ fr, encV c i (fs.map (fv l)) = (fr, 0) ∧ fr.length = n + 8 ∧ (fr.take (6 + n)).drop 6 = own := enc_frame hpv hlen
      rw [hpv, hev]
      simp only [Option.bind_some]
      rw [dec_eq hc0 hc1 hi0 hi1 hob (by omega) k (by omega), hd own hlen, hmap]
      simp only [Option.bind_some, if_true]
      rw [same_self (by simp; omega) k (by simp; omega)]
      simp only [Option.bind_some, if_true]
      have hl6 : wrap64 (6 + (l.length : Int)) = ((6 + n : Nat) : Int) := by rw [w64 (by omega) (by omega)]; omega
      have hl8 : wrap64 ((l.length : Int) + 8) = ((n + 8 : Nat) : Int) := by rw [w64 (by omega) (by omega)]; omega
      refine (if_pos (show (own.length : Int) = l.length by omega)).trans ?_
      refine (if_pos (show (fr.length : Int) = wrap64 ((l.length : Int) + 8) by rw [hl8]; clear hl6 hl8; omega)).trans ?_
      refine (if_pos (show (6 : Int) ≤ wrap64 (6 + (l.length : Int)) by rw [hl6]; clear hl6 hl8; omega)).trans ?_
      refine (if_pos (show wrap64 (6 + (l.length : Int)) ≤ (fr.length : Int) by rw [hl6]; clear hl6 hl8; omega)).trans ?_
      refine (if_pos (show (strOfNums ((fr.take (wrap64 (6 + (l.length : Int))).toNat).drop 6)).toList = (strOfNums own).toList by rw [hl6, Int.toNat_natCast, hcut])).trans ?_
      refine (if_neg (show ¬ IntKind.u64.wrap (l.length : Int) = 0 by clear hl6 hl8; rw [u64w (by omega) (by omega)]; omega)).trans ?_
      clear hl6 hl8
      rw [u64w (x := (l.length : Int)) (by omega) (by omega)]
      have hat0 := at_range (a := a) h3
      rw [← e] at hat0
      generalize Int.tmod (IntKind.u64.wrap a) (l.length : Int) = at_ at hat0 ⊢
      rw [e] at hat0
      simp only [List.nil_append]
      rw [if_pos (by simp; omega), w64 (x := at_) (by omega) (by omega), if_pos hat0.1, if_pos (by omega)]
      rw [dec_eq hc0 hc1 hi0 hi1 (hb.set _ (by omega)) (by simp; omega) k (by omega), hd _ (by simpa using e'), h2]
      simp only [Option.bind_some]
      have hdo := dec_other hb e' h7 hat0.1 hat0.2
      have hfs : FsOk fs 1000 := fun f hf => by obtain ⟨x1, x2, x3⟩ := h7 f hf; exact ⟨x1, x2, by omega⟩
      refine back_loop hfs (by omega) e.symm (fun q hq => ?_) fs.length 0 false k (by omega) (by simp) (by simp; omega)
      rw [same_dec (by simp; omega) (by simp) q hq, hdo]
    · have hd : decV c i l = (0, 0, [], 5) := by
        unfold decV
        rw [h1 0]
        dsimp only
        rw [if_neg e]
      rw [hd]
      dsimp only
      rw [if_neg (by omega), if_pos (by simp), known_true k (by omega)]
      rfl
  · have hd : decV c i l = (0, 0, [], 7) := by
      unfold decV
      rw [h1 0]
    rw [hd]
    dsimp only
    rw [if_neg (by omega), if_pos (by simp), known_true k (by omega)]
    rfl
end Go.Proofs.Ytgfbhghnaipjhaa.Pure
