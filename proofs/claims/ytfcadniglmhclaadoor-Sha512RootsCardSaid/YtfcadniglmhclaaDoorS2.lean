/-
  The walk of sha512.word (function 22): eight bytes as a word.
-/
import Derived.Test.YtfcadniglmhclaaDoorP1
import Derived.Outline
namespace Go.Proofs.YtfcadniglmhclaaDoor.S
open Go.RowKit Go.Proofs.YtfcadniglmhclaaDoorW.PrintWords Go.Proofs.YtfcadniglmhclaaDoorW.PrintLast Go.Proofs.YtfcadniglmhclaaDoorW.PrintMore
open Go.Proofs.YtfcadniglmhclaaDoor.R

/-- Bytes: each number of a list is one. -/
def By (l : List Int) : Prop := ∀ x ∈ l, 0 ≤ x ∧ x < 256
theorem By.get {l : List Int} (h : By l) (i : Nat) : 0 ≤ at' l i ∧ at' l i < 256 := by
  unfold at'
  by_cases hi : i < l.length
  · rw [List.getD_eq_getElem?_getD, List.getElem?_eq_getElem hi]; exact h _ (List.getElem_mem hi)
  · rw [List.getD_eq_getElem?_getD, List.getElem?_eq_none (by omega)]; simp
theorem By.drop {l : List Int} (h : By l) (n : Nat) : By (l.drop n) := fun x hx => h x (List.mem_of_mem_drop hx)
theorem By.take {l : List Int} (h : By l) (n : Nat) : By (l.take n) := fun x hx => h x (List.mem_of_mem_take hx)

theorem wordN_lt {l : List Int} (h : By l) : ∀ n, 0 ≤ wordN l n ∧ wordN l n < 256 ^ n
  | 0 => by simp [wordN]
  | n + 1 => by
    have ih := wordN_lt h n
    have hb := h.get n
    simp only [wordN]
    have e : (256 : Int) ^ (n + 1) = 256 * 256 ^ n := by rw [Int.pow_succ]; omega
    rw [e]
    generalize (256 : Int) ^ n = m at ih ⊢
    omega

theorem u64_in {x : Int} (h0 : 0 ≤ x) (h1 : x < 18446744073709551616) : IntKind.u64.wrap x = x := by
  unfold IntKind.wrap; simp [IntKind.signed, IntKind.bits]; omega

theorem or_byte (a b : Nat) (ha : a < 72057594037927936) (hb : b < 256) : Go.bits .or .u64 ((a : Int) * 256) (b : Int) = (a : Int) * 256 + b := by
  have e1 : BitVec.ofInt 64 ((a : Int) * 256) = BitVec.ofNat 64 (a * 256) := by
    rw [← BitVec.ofInt_natCast]; simp
  have e2 : BitVec.ofInt 64 (b : Int) = BitVec.ofNat 64 b := by
    rw [← BitVec.ofInt_natCast]
  have e3 : (BitVec.ofNat 64 (a * 256) ||| BitVec.ofNat 64 b).toNat = a * 256 + b := by
    rw [BitVec.toNat_or, BitVec.toNat_ofNat, BitVec.toNat_ofNat, Nat.mod_eq_of_lt (by omega), Nat.mod_eq_of_lt (by omega)]
    have := Nat.two_pow_add_eq_or_of_lt (i := 8) (b := b) (by simpa using hb) a
    rw [show a * 256 = 2 ^ 8 * a by omega]
    omega
  show IntKind.u64.wrap ((BitVec.ofInt 64 ((a : Int) * 256) ||| BitVec.ofInt 64 (b : Int)).toNat : Int) = _
  rw [e1, e2, e3, u64_in (by omega) (by omega)]
  omega

theorem word_step {x b : Int} (h0 : 0 ≤ x) (h1 : x < 72057594037927936) (b0 : 0 ≤ b) (b1 : b < 256) :
    Go.bits .or .u64 (IntKind.u64.wrap (x * 256)) (IntKind.u64.wrap b) = 256 * x + b := by
  rw [u64_in (by omega) (by omega), u64_in b0 (by omega)]
  obtain ⟨a, rfl⟩ := Int.eq_ofNat_of_zero_le h0
  obtain ⟨c, rfl⟩ := Int.eq_ofNat_of_zero_le b0
  have := or_byte a c (by omega) (by omega)
  rw [this]; omega

theorem rd_at (l : List Int) (n : Nat) : rd l (n : Int) = at' l n := by simp [rd, at']
theorem wrap_step {n : Nat} (h : n < 1000000000) : wrap64 ((n : Int) + 1) = ((n + 1 : Nat) : Int) := by unfold wrap64; omega

theorem word_l0 (l : List Int) (hl : 8 ≤ l.length) (h : By l) : ∀ (d n k : Nat), n + d = 8 → d < k → sha512_word.l0 k l (wordN l n) (n : Int) = some (wordN l 8)
  | 0, n, k, hn, hk => by
    obtain ⟨k, rfl⟩ : ∃ m, k = m + 1 := ⟨k - 1, by omega⟩
    obtain rfl : n = 8 := by omega
    simp only [sha512_word.l0]
    rw [if_neg (by omega)]
  | d + 1, n, k, hn, hk => by
    obtain ⟨k, rfl⟩ : ∃ m, k = m + 1 := ⟨k - 1, by omega⟩
    have hw := wordN_lt h n
    have hb := h.get n
    have hp : (256 : Int) ^ n ≤ 72057594037927936 := by
      have : n ≤ 7 := by omega
      have h7 := Nat.pow_le_pow_right (n := 256) (by omega) this
      have e : ((256 ^ n : Nat) : Int) = (256 : Int) ^ n := Int.natCast_pow 256 n
      rw [← e]
      have h8 : (256 : Nat) ^ 7 = 72057594037927936 := rfl
      omega
    simp only [sha512_word.l0]
    rw [if_pos (by omega), if_pos (by omega), if_pos (by omega), rd_at, word_step hw.1 (by omega) hb.1 hb.2, wrap_step (by omega)]
    exact word_l0 l hl h d (n + 1) k (by omega) (by omega)

theorem word_any (ad : Addr) (n c : Nat) (l : List Int) (w : World) (hl : 8 ≤ l.length) (h : By l) (hn : l.length = n) (hr : Kd.C (Kd.int .u8) w (some ad) n l) (hc : n ≤ c) :
    Calls Tryd.prog 22 #[.slice (some ad) n c] w fun e w' => e = .returned (.int .u64 (wordS l)) ∧ Drawn0 w w' := by
  subst hn
  exact sha512_word.calls 9 (some ad) c l (wordS l) w hr hc (by exact word_l0 l hl h 8 0 9 (by omega) (by omega))
end Go.Proofs.YtfcadniglmhclaaDoor.S
