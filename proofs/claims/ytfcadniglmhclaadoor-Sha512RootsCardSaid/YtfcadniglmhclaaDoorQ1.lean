/-
  The reference's plain functions, as printed, answer what the plain functions of P1 say.
-/
import Derived.Test.YtfcadniglmhclaaDoorS8
import Derived.Test.YtfcadniglmhclaaDoorR2
import Derived.Test.YtfcadniglmhclaaDoorR3
namespace Go.Proofs.YtfcadniglmhclaaDoor.S
open Go.RowKit Go.Proofs.YtfcadniglmhclaaDoorW.PrintWords Go.Proofs.YtfcadniglmhclaaDoorW.PrintLast Go.Proofs.YtfcadniglmhclaaDoorW.PrintMore
open Go.Proofs.YtfcadniglmhclaaDoor.R
set_option linter.unusedSimpArgs false

theorem refword_l0 (l : List Int) (hl : l.length = 8) (h : By l) : ∀ (d n k : Nat), n + d = 8 → d < k → spinneyref02_word.l0 k l (wordN l n) (n : Int) = some (wordN l 8)
  | 0, n, k, hn, hk => by
    obtain ⟨k, rfl⟩ : ∃ m, k = m + 1 := ⟨k - 1, by omega⟩
    obtain rfl : n = 8 := by omega
    simp only [spinneyref02_word.l0]
    rw [if_neg (by omega)]
  | d + 1, n, k, hn, hk => by
    obtain ⟨k, rfl⟩ : ∃ m, k = m + 1 := ⟨k - 1, by omega⟩
    have hw := wordN_lt h n
    have hb := h.get n
    have hp : (256 : Int) ^ n ≤ 72057594037927936 := by
      have : n ≤ 7 := by omega
      have h7 := Nat.pow_le_pow_right (n := 256) (by omega) this
      have e : ((256 ^ n : Nat) : Int) = (256 : Int) ^ n := Int.natCast_pow 256 n
      rw [← e]
      have h8 : (256 : Nat) ^ 7 = 72057594037927936 := rfl
      omega
    have e1 : IntKind.u64.wrap (IntKind.u64.wrap (256 * wordN l n) + IntKind.u64.wrap (at' l n)) = wordN l (n + 1) := by
      rw [u64_in (x := 256 * wordN l n) (by omega) (by omega), u64_in (x := at' l n) (by omega) (by omega), u64_in (by omega) (by omega)]
      rfl
    simp only [spinneyref02_word.l0]
    rw [if_pos (by omega), if_pos (by omega), if_pos (by omega), rd_at, e1, wrap_step (by omega)]
    exact refword_l0 l hl h d (n + 1) k (by omega) (by omega)
theorem refword_f (l : List Int) (hl : l.length = 8) (h : By l) (k : Nat) (hk : 8 < k) : spinneyref02_word.f k l = some (wordS l) :=
  refword_l0 l hl h 8 0 k (by omega) hk

theorem or_comm64 (a b : Int) : Go.bits .or .u64 a b = Go.bits .or .u64 b a := by
  show IntKind.u64.wrap ((BitVec.ofInt 64 a ||| BitVec.ofInt 64 b).toNat : Int) = IntKind.u64.wrap ((BitVec.ofInt 64 b ||| BitVec.ofInt 64 a).toNat : Int)
  rw [BitVec.or_comm]
theorem refright_f (x : Int) (n : Nat) (h0 : 1 ≤ n) (h : n ≤ 63) : spinneyref02_right.f x (n : Int) = some (rr x n) := by
  have e1 : IntKind.u64.wrap (n : Int) = (n : Int) := u64_in (by omega) (by omega)
  have e2 : IntKind.u64.wrap (wrap64 (64 - (n : Int))) = ((64 - n : Nat) : Int) := by
    have : wrap64 (64 - (n : Int)) = ((64 - n : Nat) : Int) := by unfold wrap64; omega
    rw [this, u64_in (by omega) (by omega)]
  have e3 : shr .u64 x (n : Int) = x / 2 ^ n := by
    unfold shr
    rw [Int.toNat_natCast, Nat.min_eq_left (show n ≤ IntKind.bits .u64 by show n ≤ 64; omega)]
  have e4 : shl .u64 x ((64 - n : Nat) : Int) = IntKind.u64.wrap (x * 2 ^ (64 - n)) := by
    unfold shl
    rw [Int.toNat_natCast, Nat.min_eq_left (show 64 - n ≤ IntKind.bits .u64 by show 64 - n ≤ 64; omega)]
  unfold spinneyref02_right.f
  rw [e1, if_pos (by omega), e2, if_pos (by omega), e3, e4, or_comm64]
  rfl
end Go.Proofs.YtfcadniglmhclaaDoor.S
