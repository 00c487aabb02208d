/-
  The reference's Filled and bytes, as printed, answer what filledS and bytesS say.
-/
import Derived.Test.YtfcadniglmhclaaDoorQ1
import Derived.Test.YtfcadniglmhclaaDoorT1
namespace Go.Proofs.YtfcadniglmhclaaDoor.S
open Go.RowKit Go.Proofs.YtfcadniglmhclaaDoorW.PrintWords Go.Proofs.YtfcadniglmhclaaDoorW.PrintLast Go.Proofs.YtfcadniglmhclaaDoorW.PrintMore
open Go.Proofs.YtfcadniglmhclaaDoor.R
set_option linter.unusedSimpArgs false
set_option linter.unusedVariables false

theorem fill_l0 (b : List Int) (hn : b.length ≤ 1000000) (d : Nat) : ∀ (j k : Nat), j + d = (239 - b.length % 128) % 128 → spinneyref02_Filled.l0 (k + d + 1) b (b ++ 128 :: List.replicate j 0) = spinneyref02_Filled.l1 k (b ++ 128 :: padS b.length) (b.length : Int) 15 := by
  have ew : IntKind.u64.wrap (b.length : Int) = (b.length : Int) := u64_in (by omega) (by omega)
  induction d with
  | zero =>
    intro j k hj
    have hlen : (b ++ 128 :: List.replicate j 0).length = b.length + 1 + j := by simp; omega
    simp only [spinneyref02_Filled.l0, Nat.add_zero]
    rw [if_pos (by rw [hlen]; omega), ew]
    have : j = (239 - b.length % 128) % 128 := by omega
    rw [this]; rfl
  | succ d hind =>
    intro j k hj
    have hlen : (b ++ 128 :: List.replicate j 0).length = b.length + 1 + j := by simp; omega
    have ih := hind (j + 1) k (by omega)
    have ek : k + (d + 1) = k + d + 1 := rfl
    have eR : (b ++ 128 :: List.replicate j 0) ++ [0] = b ++ 128 :: List.replicate (j + 1) 0 := by rw [List.replicate_succ']; simp
    rw [ek]
    generalize k + d + 1 = m at ih ⊢
    simp only [spinneyref02_Filled.l0]
    rw [if_neg (by rw [hlen]; omega), if_pos (by rw [hlen]; omega), eR]
    exact ih

/-- The sixteen bytes of a length. -/
def byteAt (n : Nat) (j : Nat) : Int := if j < 8 then 0 else ((n : Int) * 8 / 2 ^ (8 * (15 - j))) % 256
def lay16 (n : Nat) : List Int := (List.range 16).map (byteAt n)
theorem lay16_eq (n : Nat) : layS 0 ++ layS ((n : Int) * 8) = lay16 n := by
  apply List.ext_getElem
  · simp [layS, lay16]
  · intro i h1 h2
    have hi : i < 16 := by simpa [lay16] using h2
    by_cases hlt : i < 8
    · rw [List.getElem_append_left (by simpa [layS] using hlt)]
      simp [layS, lay16, byteAt, hlt]
    · rw [List.getElem_append_right (by simp [layS]; omega)]
      simp only [layS, lay16, byteAt, List.getElem_map, List.getElem_range, List.length_map, List.length_range, if_neg hlt]
      rw [show 56 - 8 * (i - 8) = 8 * (15 - i) by omega]
theorem fill_l1 (x : List Int) (n : Nat) (hn : n ≤ 1000000) (hx : x.length ≤ 2000000) (r : Nat) : ∀ (k : Nat), r ≤ 16 → spinneyref02_Filled.l1 (k + r + 1) (x ++ (lay16 n).take (16 - r)) (n : Int) ((r : Int) - 1) = some (x ++ lay16 n) := by
  have hl : (lay16 n).length = 16 := by simp [lay16]
  induction r with
  | zero =>
    intro k _
    simp only [spinneyref02_Filled.l1, Nat.add_zero]
    rw [if_neg (by omega), List.take_of_length_le (by omega)]
  | succ r hind =>
    intro k hr
    have ih := hind k (by omega)
    have ek : k + (r + 1) = k + r + 1 := rfl
    have e0 : ((r + 1 : Nat) : Int) - 1 = (r : Int) := by omega
    have e1 : wrap64 (8 * (r : Int)) = ((8 * r : Nat) : Int) := by unfold wrap64; omega
    have e2 : wrap64 ((r : Int) - 1) = (r : Int) - 1 := by unfold wrap64; omega
    have e3 : IntKind.u64.wrap ((8 * r : Nat) : Int) = ((8 * r : Nat) : Int) := u64_in (by omega) (by omega)
    have e4 : IntKind.u64.wrap ((n : Int) * 8) = (n : Int) * 8 := u64_in (by omega) (by omega)
    have e5 : (n : Int) / 2305843009213693952 % 256 = 0 := by omega
    have hstep : ∀ c : Int, c = byteAt n (15 - r) → (x ++ (lay16 n).take (16 - (r + 1))) ++ [c] = x ++ (lay16 n).take (16 - r) := by
      intro c hc
      have e6 : (lay16 n)[15 - r]'(by rw [hl]; omega) = c := by rw [hc]; simp [lay16]
      rw [List.append_assoc, ← e6, show 16 - (r + 1) = 15 - r by omega, show 16 - r = 15 - r + 1 by omega, List.take_succ_eq_append_getElem (by rw [hl]; omega)]
    have hlen : (x ++ (lay16 n).take (16 - (r + 1))).length < 140737488355328 := by rw [List.length_append, List.length_take]; omega
    rw [ek]
    generalize k + r + 1 = m at ih ⊢
    simp only [spinneyref02_Filled.l1]
    rw [e0, if_pos (by omega), e1, e2]
    by_cases h8 : r < 8
    · have es : shr .u64 ((n : Int) * 8) ((8 * r : Nat) : Int) = (n : Int) * 8 / 2 ^ (8 * r) := by
        unfold shr
        rw [Int.toNat_natCast, Nat.min_eq_left (show 8 * r ≤ IntKind.bits .u64 by show 8 * r ≤ 64; omega)]
      rw [if_pos (by omega), e3, if_pos (by omega), if_neg (by omega), if_pos hlen, e4, es, hstep _ (by unfold byteAt; rw [if_neg (by omega), show 15 - (15 - r) = r by omega])]
      exact ih
    · rw [if_neg (by omega)]
      by_cases h9 : r = 8
      · rw [if_pos (by omega), if_pos hlen, e5, hstep 0 (by unfold byteAt; rw [if_pos (by omega)])]
        exact ih
      · rw [if_neg (by omega), if_pos hlen, hstep 0 (by unfold byteAt; rw [if_pos (by omega)])]
        exact ih

theorem reffilled_f (b : List Int) (hn : b.length ≤ 1000000) (k : Nat) (hk : 146 ≤ k) : spinneyref02_Filled.f k b = some (filledS b) := by
  refine at_rounds (g := fun k => spinneyref02_Filled.f k b) (k := (239 - b.length % 128) % 128 + 18) (fun k => spinneyref02_Filled.mono b k) (by omega) ?_
  have h0 := fill_l0 b hn ((239 - b.length % 128) % 128) 0 17 (by omega)
  have hl : (b ++ 128 :: padS b.length).length ≤ 2000000 := by simp [padS]; omega
  have h1 := fill_l1 (b ++ 128 :: padS b.length) b.length (by omega) hl 16 0 (by omega)
  have e1 : filledS b = (b ++ 128 :: padS b.length) ++ lay16 b.length := by rw [← lay16_eq]; simp [filledS]
  rw [e1, ← h1]
  simp only [spinneyref02_Filled.f, List.length_nil, List.nil_append, Option.bind_some]
  rw [if_pos (by omega), if_pos (by omega)]
  have e2 : b ++ [128] = b ++ 128 :: List.replicate 0 0 := by simp
  rw [e2, show (239 - b.length % 128) % 128 + 18 = 17 + (239 - b.length % 128) % 128 + 1 by omega]
  exact h0.trans (by simp)
end Go.Proofs.YtfcadniglmhclaaDoor.S
