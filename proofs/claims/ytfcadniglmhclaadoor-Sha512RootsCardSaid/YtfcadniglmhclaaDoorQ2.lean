/-
  The reference's take, as printed, answers what takeS says.
-/
import Derived.Test.YtfcadniglmhclaaDoorQ1
import Derived.Test.YtfcadniglmhclaaDoorS3
namespace Go.Proofs.YtfcadniglmhclaaDoor.S
open Go.RowKit Go.Proofs.YtfcadniglmhclaaDoorW.PrintWords Go.Proofs.YtfcadniglmhclaaDoorW.PrintLast Go.Proofs.YtfcadniglmhclaaDoorW.PrintMore
open Go.Proofs.YtfcadniglmhclaaDoor.R
set_option linter.unusedSimpArgs false
set_option linter.unusedVariables false

attribute [local irreducible] spinneyref02_right.f

theorem wordN_congr {a b : List Int} (m : Nat) (h : ∀ i, i < m → at' a i = at' b i) : ∀ n, n ≤ m → wordN a n = wordN b n
  | 0, _ => rfl
  | n + 1, hn => by simp only [wordN]; rw [wordN_congr m h n (by omega), h n (by omega)]
theorem word_mid (b : List Int) (lo hi : Nat) (h : lo + 8 ≤ hi) (hb : hi ≤ b.length) : wordS ((b.take hi).drop lo) = wordS (b.drop lo) := by
  refine wordN_congr 8 (fun i hi' => ?_) 8 (Nat.le_refl _)
  unfold at'
  rw [List.getD_eq_getElem?_getD, List.getD_eq_getElem?_getD, List.getElem?_drop, List.getElem?_drop, List.getElem?_take_of_lt (by omega)]

theorem take_l0 (h K b : List Int) (hb : b.length = 128) (hby : By b) : ∀ (d t k : Nat), t + d = 16 → 8 < k → spinneyref02_take.l0 (k + d + 1) h K b ((words16 b).take t) (t : Int) = spinneyref02_take.l1 k h K (words16 b) 16
  | 0, t, k, ht, hk => by
    obtain rfl : t = 16 := by omega
    simp only [spinneyref02_take.l0, Nat.add_zero]
    rw [if_neg (by omega), List.take_of_length_le (by rw [length_words16]; omega)]
  | d + 1, t, k, ht, hk => by
    have e1 : wrap64 (8 * (t : Int)) = ((8 * t : Nat) : Int) := by unfold wrap64; omega
    have e2 : wrap64 (((8 * t : Nat) : Int) + 8) = ((8 * t + 8 : Nat) : Int) := by unfold wrap64; omega
    have hlen : ((b.take (8 * t + 8)).drop (8 * t)).length = 8 := by rw [List.length_drop, List.length_take]; omega
    have ew : spinneyref02_word.f (k + (d + 1)) ((b.take (8 * t + 8)).drop (8 * t)) = some (at' (words16 b) t) := by
      rw [refword_f _ hlen ((hby.take _).drop _) _ (by omega), word_mid b (8 * t) (8 * t + 8) (by omega) (by omega), at_words16 b t (by omega)]
    have ha : at' (words16 b) t = (words16 b)[t]'(by rw [length_words16]; omega) := by simp [at', List.getD_eq_getElem?_getD, length_words16, show t < 16 by omega]
    have ih := take_l0 h K b hb hby d (t + 1) k (by omega) hk
    have ek : k + (d + 1) = k + d + 1 := rfl
    rw [ek] at ew ⊢
    generalize k + d + 1 = m at ih ew ⊢
    simp only [spinneyref02_take.l0]
    rw [if_pos (by omega), e1, if_pos (by omega), e2, if_pos (by omega), if_pos (by omega), Int.toNat_natCast, Int.toNat_natCast, ew]
    simp only [Option.bind_some]
    rw [if_pos (by rw [List.length_take, length_words16]; omega), wrap_step (by omega), ha, ← List.take_succ_eq_append_getElem (by rw [length_words16]; omega)]
    exact ih

theorem rd_sub (l : List Int) (n j : Nat) (h : j ≤ n) (hn : n < 1000000) : wrap64 ((n : Int) - (j : Int)) = ((n - j : Nat) : Int) := by unfold wrap64; omega

theorem ext1_eq (l : List Int) (t : Nat) : IntKind.u64.wrap (IntKind.u64.wrap (IntKind.u64.wrap (Go.bits .xor .u64 (Go.bits .xor .u64 (rr (at' l (t - 2)) 19) (rr (at' l (t - 2)) 61)) (at' l (t - 2) / 64) + at' l (t - 7)) + Go.bits .xor .u64 (Go.bits .xor .u64 (rr (at' l (t - 15)) 1) (rr (at' l (t - 15)) 8)) (at' l (t - 15) / 128)) + at' l (t - 16)) = ext1 l t := rfl
theorem rnd_eq (v : List Int) (k w : Int) : [IntKind.u64.wrap (IntKind.u64.wrap (IntKind.u64.wrap (IntKind.u64.wrap (IntKind.u64.wrap (at' v 7 + Go.bits .xor .u64 (Go.bits .xor .u64 (rr (at' v 4) 14) (rr (at' v 4) 18)) (rr (at' v 4) 41)) + Go.bits .xor .u64 (Go.bits .and .u64 (at' v 4) (at' v 5)) (Go.bits .and .u64 (Go.bits .xor .u64 18446744073709551615 (at' v 4)) (at' v 6))) + k) + w) + IntKind.u64.wrap (Go.bits .xor .u64 (Go.bits .xor .u64 (rr (at' v 0) 28) (rr (at' v 0) 34)) (rr (at' v 0) 39) + Go.bits .xor .u64 (Go.bits .xor .u64 (Go.bits .and .u64 (at' v 0) (at' v 1)) (Go.bits .and .u64 (at' v 0) (at' v 2))) (Go.bits .and .u64 (at' v 1) (at' v 2)))), at' v 0, at' v 1, at' v 2, IntKind.u64.wrap (at' v 3 + IntKind.u64.wrap (IntKind.u64.wrap (IntKind.u64.wrap (IntKind.u64.wrap (at' v 7 + Go.bits .xor .u64 (Go.bits .xor .u64 (rr (at' v 4) 14) (rr (at' v 4) 18)) (rr (at' v 4) 41)) + Go.bits .xor .u64 (Go.bits .and .u64 (at' v 4) (at' v 5)) (Go.bits .and .u64 (Go.bits .xor .u64 18446744073709551615 (at' v 4)) (at' v 6))) + k) + w)), at' v 4, at' v 5, at' v 6] = rnd v k w := rfl
theorem rd0 (l : List Int) : rd l 0 = at' l 0 := rfl
theorem rd1 (l : List Int) : rd l 1 = at' l 1 := rfl
theorem rd2 (l : List Int) : rd l 2 = at' l 2 := rfl
theorem rd3 (l : List Int) : rd l 3 = at' l 3 := rfl
theorem rd4 (l : List Int) : rd l 4 = at' l 4 := rfl
theorem rd5 (l : List Int) : rd l 5 = at' l 5 := rfl
theorem rd6 (l : List Int) : rd l 6 = at' l 6 := rfl
theorem rd7 (l : List Int) : rd l 7 = at' l 7 := rfl

theorem take_l1 (h K b : List Int) (hh : h.length = 8) (d : Nat) : ∀ (n k : Nat), n + d = 64 → spinneyref02_take.l1 (k + d + 1) h K (extN (words16 b) n) ((16 + n : Nat) : Int) = spinneyref02_take.l2 k h K (spreadS b) h 0 := by
  induction d with
  | zero =>
    intro n k hn
    obtain rfl : n = 64 := by omega
    simp only [spinneyref02_take.l1, Nat.add_zero]
    rw [if_neg (by omega), if_pos (by simp [hh])]
    rfl
  | succ d hind =>
    intro n k hn
    have hl : (extN (words16 b) n).length = 16 + n := by rw [length_extN, length_words16]
    have e15 : wrap64 (((16 + n : Nat) : Int) - 15) = ((16 + n - 15 : Nat) : Int) := rd_sub [] (16 + n) 15 (by omega) (by omega)
    have e2 : wrap64 (((16 + n : Nat) : Int) - 2) = ((16 + n - 2 : Nat) : Int) := rd_sub [] (16 + n) 2 (by omega) (by omega)
    have e7 : wrap64 (((16 + n : Nat) : Int) - 7) = ((16 + n - 7 : Nat) : Int) := rd_sub [] (16 + n) 7 (by omega) (by omega)
    have e16 : wrap64 (((16 + n : Nat) : Int) - 16) = ((16 + n - 16 : Nat) : Int) := rd_sub [] (16 + n) 16 (by omega) (by omega)
    have r1 : ∀ x, spinneyref02_right.f x 1 = some (rr x 1) := fun x => refright_f x 1 (by omega) (by omega)
    have r8 : ∀ x, spinneyref02_right.f x 8 = some (rr x 8) := fun x => refright_f x 8 (by omega) (by omega)
    have r19 : ∀ x, spinneyref02_right.f x 19 = some (rr x 19) := fun x => refright_f x 19 (by omega) (by omega)
    have r61 : ∀ x, spinneyref02_right.f x 61 = some (rr x 61) := fun x => refright_f x 61 (by omega) (by omega)
    have ih := hind (n + 1) k (by omega)
    have ek : k + (d + 1) = k + d + 1 := rfl
    have en : ((16 + n + 1 : Nat) : Int) = ((16 + (n + 1) : Nat) : Int) := rfl
    have eE : extN (words16 b) n ++ [ext1 (extN (words16 b) n) (16 + n)] = extN (words16 b) (n + 1) := rfl
    rw [ek]
    generalize k + d + 1 = m at ih ⊢
    simp only [spinneyref02_take.l1]
    rw [if_pos (by omega), e15, if_pos (by omega), if_pos (by rw [hl]; omega), e2, if_pos (by omega), if_pos (by rw [hl]; omega)]
    simp only [r1, r8, r19, r61, Option.bind_some]
    rw [e7, if_pos (by omega), if_pos (by rw [hl]; omega), e16, if_pos (by omega), if_pos (by rw [hl]; omega), if_pos (by rw [hl]; omega), wrap_step (by omega), rd_at, rd_at, rd_at, rd_at, ext1_eq, eE, en]
    exact ih

theorem take_l2 (h K W : List Int) (hh : h.length = 8) (hK : K.length = 80) (hW : W.length = 80) (d : Nat) : ∀ (n k : Nat), n + d = 80 → spinneyref02_take.l2 (k + d + 1) h K W (rnds K W h n) (n : Int) = spinneyref02_take.l3 k h (rnds K W h 80) [] 0 := by
  induction d with
  | zero =>
    intro n k hn
    obtain rfl : n = 80 := by omega
    simp only [spinneyref02_take.l2, Nat.add_zero]
    rw [if_neg (by omega)]
  | succ d hind =>
    intro n k hn
    have hl := length_rnds K W h hh n
    have r14 : ∀ x, spinneyref02_right.f x 14 = some (rr x 14) := fun x => refright_f x 14 (by omega) (by omega)
    have r18 : ∀ x, spinneyref02_right.f x 18 = some (rr x 18) := fun x => refright_f x 18 (by omega) (by omega)
    have r41 : ∀ x, spinneyref02_right.f x 41 = some (rr x 41) := fun x => refright_f x 41 (by omega) (by omega)
    have r28 : ∀ x, spinneyref02_right.f x 28 = some (rr x 28) := fun x => refright_f x 28 (by omega) (by omega)
    have r34 : ∀ x, spinneyref02_right.f x 34 = some (rr x 34) := fun x => refright_f x 34 (by omega) (by omega)
    have r39 : ∀ x, spinneyref02_right.f x 39 = some (rr x 39) := fun x => refright_f x 39 (by omega) (by omega)
    have ih := hind (n + 1) k (by omega)
    have ek : k + (d + 1) = k + d + 1 := rfl
    have eR : rnd (rnds K W h n) (at' K n) (at' W n) = rnds K W h (n + 1) := rfl
    rw [ek]
    generalize k + d + 1 = m at ih ⊢
    generalize rnds K W h n = v at hl eR ⊢
    simp only [spinneyref02_take.l2]
    rw [if_pos (by omega), if_pos (by rw [hl]; decide)]
    simp only [r14, r18, r41, Option.bind_some]
    rw [if_pos (by rw [hl]; decide), if_pos (by rw [hl]; decide), if_pos (by rw [hl]; decide), if_pos (by omega), if_pos (by rw [hK]; omega), if_pos (by rw [hW]; omega), if_pos (by rw [hl]; decide)]
    simp only [r28, r34, r39, Option.bind_some]
    rw [if_pos (by rw [hl]; decide), if_pos (by rw [hl]; decide), if_pos (by rw [hl]; decide), wrap_step (by omega), rd_at, rd_at, rd0, rd1, rd2, rd3, rd4, rd5, rd6, rd7, rnd_eq, eR]
    exact ih

theorem take_l3 (h v : List Int) (hh : h.length = 8) (hv : v.length = 8) : ∀ (d n k : Nat), n + d = 8 → spinneyref02_take.l3 (k + d + 1) h v ((addS h v).take n) (n : Int) = some (addS h v)
  | 0, n, k, hn => by
    obtain rfl : n = 8 := by omega
    simp only [spinneyref02_take.l3, Nat.add_zero]
    rw [if_neg (by omega), List.take_of_length_le (by rw [length_addS]; omega)]
  | d + 1, n, k, hn => by
    have e1 : (addS h v)[n]'(by rw [length_addS]; omega) = ad (at' h n) (at' v n) := by simp [addS]
    have ih := take_l3 h v hh hv d (n + 1) k (by omega)
    have ek : k + (d + 1) = k + d + 1 := rfl
    rw [ek]
    generalize k + d + 1 = m at ih ⊢
    simp only [spinneyref02_take.l3]
    rw [if_pos (by omega), if_pos (by omega), if_pos (by omega), if_pos (by omega), if_pos (by rw [List.length_take, length_addS]; omega), wrap_step (by omega), rd_at, rd_at]
    have e2 : (addS h v).take n ++ [IntKind.u64.wrap (at' h n + at' v n)] = (addS h v).take (n + 1) := by
      rw [List.take_succ_eq_append_getElem (by rw [length_addS]; omega), e1]; rfl
    rw [e2]
    exact ih

theorem reftake_f (h K b : List Int) (hh : h.length = 8) (hK : K.length = 80) (hb : b.length = 128) (hby : By b) (k : Nat) (hk : 172 ≤ k) : spinneyref02_take.f k h K b = some (takeS K h b) := by
  refine at_rounds (g := fun k => spinneyref02_take.f k h K b) (fun k => spinneyref02_take.mono h K b k) hk ?_
  show spinneyref02_take.l0 172 h K b [] 0 = _
  have s0 := take_l0 h K b hb hby 16 0 155 (by omega) (by omega)
  have s1 := take_l1 h K b hh 64 0 90 (by omega)
  have s2 := take_l2 h K (spreadS b) hh hK (length_spreadS b) 80 0 9 (by omega)
  have s3 := take_l3 h (rnds K (spreadS b) h 80) hh (length_rnds _ _ _ hh _) 8 0 0 (by omega)
  exact s0.trans (s1.trans (s2.trans s3))
end Go.Proofs.YtfcadniglmhclaaDoor.S
