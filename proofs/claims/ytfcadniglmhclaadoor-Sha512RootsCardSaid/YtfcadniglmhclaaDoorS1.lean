/-
  The contract of sha512.right (function 38) at the ten turns that the program uses; the world stays.
-/
import Derived.Test.YtfcadniglmhclaaDoorR1
namespace Go.Proofs.YtfcadniglmhclaaDoor.S
open Go.RowKit Go.Proofs.YtfcadniglmhclaaDoorW.PrintWords Go.Proofs.YtfcadniglmhclaaDoorW.PrintLast Go.Proofs.YtfcadniglmhclaaDoorW.PrintMore
open Go.Proofs.YtfcadniglmhclaaDoor.R (info5 info27)

def rr (x : Int) (n : Nat) : Int := Go.bits .or .u64 (IntKind.u64.wrap (x * 2 ^ (64 - n))) (x / 2 ^ n)

set_option maxHeartbeats 400000 in
theorem rot_any (x n : Int) (m : Nat) (hm : Go.bits .and .u64 (IntKind.u64.wrap n) 63 = (m : Int)) (h1 : m ≤ 63) (w : World) :
    Calls Tryd.prog 41 #[.int .u64 x, .int .i64 n] w fun e w' => e = .returned (.int .u64 (Go.bits .or .u64 (IntKind.u64.wrap (x * 2 ^ m)) (x / 2 ^ (64 - m)))) ∧ w = w' := by
  have e0 : IntKind.u64.wrap (64 - (m : Int)) = 64 - (m : Int) := by unfold IntKind.wrap; simp [IntKind.signed, IntKind.bits]; omega
  have e2 : (64 - (m : Int)).toNat = 64 - m := by omega
  have h0 : (0 : Int) ≤ m := by omega
  have h3 : (m : Int) ≤ 64 := by omega
  have h4 : (0 : Int) ≤ 64 - (m : Int) := by omega
  have h5 : 64 - (m : Int) ≤ 64 := by omega
  go_enter Tryd.func41, Tryd.ntmps41
  go_wp2
  go_ret
  exact ⟨rfl, rfl⟩

theorem rr_of (x : Int) (n : Nat) (h : n ≤ 63) (h0 : 1 ≤ n) : Go.bits .or .u64 (IntKind.u64.wrap (x * 2 ^ (64 - n))) (x / 2 ^ (64 - (64 - n))) = rr x n := by
  unfold rr
  rw [show 64 - (64 - n) = n by omega]

set_option maxHeartbeats 400000 in
theorem right_any (x : Int) (n : Nat) (hn : n = 1 ∨ n = 8 ∨ n = 19 ∨ n = 61 ∨ n = 14 ∨ n = 18 ∨ n = 41 ∨ n = 28 ∨ n = 34 ∨ n = 39) (w : World) :
    Calls Tryd.prog 38 #[.int .u64 x, .int .i64 n] w fun e w' => e = .returned (.int .u64 (rr x n)) ∧ w = w' := by
  have hm : Go.bits .and .u64 (IntKind.u64.wrap (wrap64 (-(n : Int)))) 63 = ((64 - n : Nat) : Int) := by
    rcases hn with rfl | rfl | rfl | rfl | rfl | rfl | rfl | rfl | rfl | rfl <;> decide +kernel
  have hr := rr_of x n (by omega) (by omega)
  have hk : 64 - n ≤ 63 := by omega
  have hb : -(n : Int) = wrap64 (-(n : Int)) := by unfold wrap64; omega
  rw [← hb] at hm
  have hB : (n : Int) ≤ 64 := by omega
  clear hn hb
  have HR := Aside0.mk hr
  have HM := Aside0.mk hm
  clear hr hm
  go_enter Tryd.func38, Tryd.ntmps38
  go_wp2_with (go_at_call 41; refine (rot_any x _ (64 - n) HM.out hk _).mono ?_; rintro e w' ⟨rfl, rfl⟩)
  go_ret
  exact ⟨by rw [HR.out]; rfl, rfl⟩

def turnOk (m : Int) : Bool := decide (m = 1 ∨ m = 8 ∨ m = 19 ∨ m = 61 ∨ m = 14 ∨ m = 18 ∨ m = 41 ∨ m = 28 ∨ m = 34 ∨ m = 39)
theorem right_i (x m : Int) (hm : turnOk m = true) (w : World) :
    Calls Tryd.prog 38 #[.int .u64 x, .int .i64 m] w fun e w' => e = .returned (.int .u64 (rr x m.toNat)) ∧ w = w' := by
  have h := of_decide_eq_true hm
  have e : ((m.toNat : Nat) : Int) = m := by omega
  have := right_any x m.toNat (by omega) w
  rw [e] at this
  exact this
end Go.Proofs.YtfcadniglmhclaaDoor.S
