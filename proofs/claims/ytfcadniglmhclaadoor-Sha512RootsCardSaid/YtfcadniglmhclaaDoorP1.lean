/-
  The plain functions by which SHA-512 is told here: on lists of whole numbers, without memory.
-/
import Derived.Test.YtfcadniglmhclaaDoorS1
namespace Go.Proofs.YtfcadniglmhclaaDoor.S
open Go.Proofs.YtfcadniglmhclaaDoorW.PrintWords

def xr (a b : Int) : Int := Go.bits .xor .u64 a b
def an (a b : Int) : Int := Go.bits .and .u64 a b
def ad (a b : Int) : Int := IntKind.u64.wrap (a + b)
def sg0 (x : Int) : Int := xr (xr (rr x 1) (rr x 8)) (x / 128)
def sg1 (x : Int) : Int := xr (xr (rr x 19) (rr x 61)) (x / 64)
def bs0 (x : Int) : Int := xr (xr (rr x 28) (rr x 34)) (rr x 39)
def bs1 (x : Int) : Int := xr (xr (rr x 14) (rr x 18)) (rr x 41)
def ch (e f g : Int) : Int := xr (an e f) (an (xr 18446744073709551615 e) g)
def mj (a b c : Int) : Int := xr (xr (an a b) (an a c)) (an b c)
def at' (l : List Int) (i : Nat) : Int := l.getD i 0

/-- Eight bytes as a word. -/
def wordN (b : List Int) : Nat → Int
  | 0 => 0
  | n + 1 => 256 * wordN b n + at' b n
def wordS (b : List Int) : Int := wordN b 8
def words16 (b : List Int) : List Int := (List.range 16).map fun t => wordS (b.drop (8 * t))
def ext1 (l : List Int) (t : Nat) : Int := ad (ad (ad (sg1 (at' l (t - 2))) (at' l (t - 7))) (sg0 (at' l (t - 15)))) (at' l (t - 16))
def extN (l : List Int) : Nat → List Int
  | 0 => l
  | n + 1 => extN l n ++ [ext1 (extN l n) (16 + n)]
def spreadS (b : List Int) : List Int := extN (words16 b) 64
def rnd1 (v : List Int) (k w : Int) : Int := ad (ad (ad (ad (at' v 7) (bs1 (at' v 4))) (ch (at' v 4) (at' v 5) (at' v 6))) k) w
def rnd2 (v : List Int) : Int := ad (bs0 (at' v 0)) (mj (at' v 0) (at' v 1) (at' v 2))
def rnd (v : List Int) (k w : Int) : List Int :=
  [ad (rnd1 v k w) (rnd2 v), at' v 0, at' v 1, at' v 2, ad (at' v 3) (rnd1 v k w), at' v 4, at' v 5, at' v 6]
def rnds (K W v : List Int) : Nat → List Int
  | 0 => v
  | n + 1 => rnd (rnds K W v n) (at' K n) (at' W n)
def addS (h v : List Int) : List Int := (List.range 8).map fun i => ad (at' h i) (at' v i)
def takeS (K h b : List Int) : List Int := addS h (rnds K (spreadS b) h 80)
def digN (K h b : List Int) : Nat → List Int
  | 0 => h
  | n + 1 => takeS K (digN K h b n) ((b.drop (128 * n)).take 128)
def layS (w : Int) : List Int := (List.range 8).map fun i => (w / 2 ^ (56 - 8 * i)) % 256
def bytesS (l : List Int) : List Int := l.flatMap layS
def padS (n : Nat) : List Int := List.replicate ((239 - n % 128) % 128) 0
def filledS (b : List Int) : List Int := b ++ (128 :: padS b.length) ++ layS 0 ++ layS ((b.length : Int) * 8)
def digS (K h b : List Int) : List Int := digN K h (filledS b) ((filledS b).length / 128)

theorem length_extN (l : List Int) (n : Nat) : (extN l n).length = l.length + n := by
  induction n with
  | zero => rfl
  | succ n ih => simp [extN, ih]; omega
theorem length_words16 (b : List Int) : (words16 b).length = 16 := by simp [words16]
theorem length_spreadS (b : List Int) : (spreadS b).length = 80 := by simp [spreadS, length_extN, length_words16]
theorem length_rnd (v : List Int) (k w : Int) : (rnd v k w).length = 8 := rfl
theorem length_rnds (K W v : List Int) (hv : v.length = 8) : ∀ n, (rnds K W v n).length = 8
  | 0 => hv
  | _ + 1 => rfl
theorem length_addS (h v : List Int) : (addS h v).length = 8 := by simp [addS]
theorem length_takeS (K h b : List Int) : (takeS K h b).length = 8 := length_addS _ _
theorem length_digN (K h b : List Int) (hh : h.length = 8) : ∀ n, (digN K h b n).length = 8
  | 0 => hh
  | _ + 1 => length_takeS _ _ _
theorem length_layS (w : Int) : (layS w).length = 8 := by simp [layS]
theorem length_bytesS (l : List Int) : (bytesS l).length = 8 * l.length := by
  induction l with
  | nil => rfl
  | cons x l ih => simp only [bytesS, List.flatMap_cons, List.length_append, length_layS, List.length_cons] at ih ⊢; omega
theorem length_filledS (b : List Int) : (filledS b).length = b.length + 1 + (239 - b.length % 128) % 128 + 16 := by
  simp [filledS, padS, length_layS]; omega
theorem filled_whole (b : List Int) : (filledS b).length % 128 = 0 := by rw [length_filledS]; omega
end Go.Proofs.YtfcadniglmhclaaDoor.S
