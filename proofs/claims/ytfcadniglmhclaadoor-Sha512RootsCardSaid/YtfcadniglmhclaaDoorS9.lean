/-
  The walk of slices.Chunk (function 27) and of its iterator (function 35), at bytes and 128.
-/
import Derived.Test.YtfcadniglmhclaaDoorS8
import Derived.RangeFuncNested
import Derived.RangeFuncBound
import Derived.RangeFuncCalls
import Derived.RangeFuncLeaves
import Derived.RangeFuncBox
import Derived.Shelf.Abstract
import Derived.OwnWalkIn
import Derived.TacticsInMore
import Derived.LoopNIn
import Derived.LoopIn
import Derived.Sort.QuietTacIn
import Derived.Sort.BigQuietIn
namespace Go.Proofs.YtfcadniglmhclaaDoor.S
open Go.RowKit Go.Proofs.YtfcadniglmhclaaDoorW.PrintWords Go.Proofs.YtfcadniglmhclaaDoorW.PrintLast Go.Proofs.YtfcadniglmhclaaDoorW.PrintMore
open Go.Proofs.YtfcadniglmhclaaDoor.R
attribute [local go_sem] Oper.semAt_some
attribute [local go_sem] max2_int min2_int max_two min_two max_three min_three max_four min_four

/-- The numbers of the chunks, so many of them. -/
def upto (N k : Nat) : List (Fin N) := (List.finRange N).take k
theorem upto_succ (N k : Nat) (h : k < N) : upto N (k + 1) = upto N k ++ [⟨k, h⟩] := by
  unfold upto
  rw [List.take_succ_eq_append_getElem (by simpa using h)]
  simp
theorem upto_length (N k : Nat) (h : k ≤ N) : (upto N k).length = k := by simp [upto, Nat.min_eq_left h]

/-- What a round must keep: the two boxes of the iterator. -/
def KeepTwo (Bs Bn : Nat) (A B : World) : Prop := B.heap[Bs]? = A.heap[Bs]? ∧ B.heap[Bn]? = A.heap[Bn]?
theorem KeepTwo.refl (Bs Bn : Nat) (A : World) : KeepTwo Bs Bn A A := ⟨rfl, rfl⟩
theorem KeepTwo.trans {Bs Bn : Nat} {A B C : World} (h : KeepTwo Bs Bn A B) (k : KeepTwo Bs Bn B C) : KeepTwo Bs Bn A C := ⟨k.1.trans h.1, k.2.trans h.2⟩

set_option maxRecDepth 100000 in
set_option maxHeartbeats 1000000 in
theorem chunk1_in (n : Nat) (l Bs Bn g N cap : Nat) (hcap : 128 * N ≤ cap) (hN : N ≤ 10000) (J Jx : List (Fin N) → World → Prop) (hJd : ∀ pre W m, J pre W → J pre (W.drewN m))
    (hY : ∀ pre (x : Fin N) W, J pre W → pre.length < N → YieldAt Fence.wide (n - 1) Tryd.prog l #[.slice (some ⟨g, 128 * x.1, none⟩) 128 128] W fun e W' =>
      (e = .returned (.bool true) ∧ J (pre ++ [x]) W' ∧ KeepTwo Bs Bn W W') ∨ (e = .returned (.bool false) ∧ Jx (pre ++ [x]) W'))
    (W : World) (hBs : W.heap[Bs]? = some (.cells #[.slice (some ⟨g, 0, none⟩) (128 * N) cap] 22 (0, 0))) (hBn : W.heap[Bn]? = some (.cells #[.int .i64 128] 3 (0, 0))) (h0 : J [] W) :
    CallsIn Fence.wide n Tryd.prog 35 #[.func (.yield l) #[] #[], .pointer (some ⟨Bs, 0, none⟩), .pointer (some ⟨Bn, 0, none⟩)] W fun e W' => (∃ v, e = .returned v) ∧
      ((∃ ys, ys = upto N N ∧ J ys W') ∨ (∃ pre, (∃ k, k ≤ N ∧ pre = upto N k) ∧ Jx pre W')) := by
  have HBs := Aside0.mk hBs
  have HBn := Aside0.mk hBn
  clear hBs hBn
  refine callsIn_of_wp Tryd.func35 rfl trivial ?_ rfl
  simp only [Tryd.ntmps35, List.size_toArray, List.length_cons, List.length_nil, Nat.reduceAdd, Nat.reduceSub, Array.replicate_succ, Array.replicate_zero, List.push_toArray, List.append_toArray, List.nil_append, List.cons_append]
  gi_wp2
  gi_loopw [4] (fun v4 wr => ∃ k : Nat, k ≤ N ∧ v4 = .int .i64 ((128 * k : Nat) : Int) ∧ J (upto N k) wr ∧ Aside0 (KeepTwo Bs Bn W wr)) (fun v4 _ => 128 * N - (intOf v4).toNat)
  case atStart => exact ⟨0, Nat.zero_le _, rfl, h0, ⟨KeepTwo.refl _ _ _⟩⟩
  case round =>
    obtain ⟨k, hk, rfl, hJ, HK⟩ := hrel
    have cs : wr.cell? ⟨Bs, 0, none⟩ = some (.slice (some ⟨g, 0, none⟩) (128 * N) cap) := by
      rw [cell_of_row wr Bs 0 #[.slice (some ⟨g, 0, none⟩) (128 * N) cap] 22 (0, 0) (HK.out.1.trans HBs.out)]; rfl
    have cn : wr.cell? ⟨Bn, 0, none⟩ = some (.int .i64 128) := by
      rw [cell_of_row wr Bn 0 #[.int .i64 128] 3 (0, 0) (HK.out.2.trans HBn.out)]; rfl
    by_cases hlt : k < N
    · have hlt2 : 128 * k < 128 * N := by omega
      have hm : (128 : Int) ≤ ((128 * N - 128 * k : Nat) : Int) := by omega
      have hmd : decide (((128 * N - 128 * k : Nat) : Int) < 128) = false := by simpa using hm
      obtain ⟨i0, hi0, _, hsz0, _⟩ := info_parts info5
      have hcut := cut_from (P := Tryd.prog) 22 5 .i64 Tryd.underlying22 hi0 1 hsz0 (some ⟨g, 0, none⟩) (128 * N) cap ((128 * k : Nat) : Int) (by omega) (by omega)
      have hne : ¬ (cap = 128 * k) := by omega
      rw [Int.toNat_natCast, if_neg hne, Nat.mul_one] at hcut
      have hadd : (⟨g, 0, none⟩ : Addr).add (128 * k) = ⟨g, 128 * k, none⟩ := by unfold Addr.add; split <;> simp_all
      simp only [Option.map_some, hadd] at hcut
      clear hi0 hsz0
      have hif : (if ((128 * N - 128 * k : Nat) : Int) < 128 then ((128 * N - 128 * k : Nat) : Int) else 128) = 128 := if_neg (by omega)
      gi_wp2
      gi_big_quiet_th (fail)
      obtain ⟨fn, tmps, assign, body, hy, hR⟩ := hY _ ⟨k, hlt⟩ (wr.drewN nq) (hJd _ _ _ hJ) (by rw [upto_length N k hk]; exact hlt)
      gi_wp2
      refine ⟨fun h => by simp [Fence.wide] at h, ?_⟩
      refine hR.mono ?_
      rintro e W3 (⟨rfl, hJ3, hk3⟩ | ⟨rfl, hJx3⟩)
      · have HK3 : Aside0 (KeepTwo Bs Bn W W3) := ⟨HK.out.trans ⟨hk3.1, hk3.2⟩⟩
        have cn3 : W3.cell? ⟨Bn, 0, none⟩ = some (.int .i64 128) := by
          rw [cell_of_row W3 Bn 0 #[.int .i64 128] 3 (0, 0) (HK3.out.2.trans HBn.out)]; rfl
        gi_wp2
        go_roundw
        case rel => exact ⟨k + 1, by omega, by go_num, by rw [upto_succ N k hlt]; exact hJ3, HK3⟩
        case measure => simp [intOf]; omega
      · gi_wp2
        refine bodyPost_ret (results_none rfl _ _ _) rfl ?_
        exact ⟨⟨_, rfl⟩, .inr ⟨_, ⟨k + 1, by omega, (upto_succ N k hlt).symm⟩, hJx3⟩⟩
    · obtain rfl : k = N := by omega
      gi_wp2
      go_end0
      exact ⟨⟨_, rfl⟩, .inl ⟨_, rfl, hJ⟩⟩

/-- slices.Chunk hands back an iterator that gives the chunks, in order. -/
theorem chunk_stops (n Bs Bn g N cap : Nat) (hcap : 128 * N ≤ cap) (hN : N ≤ 10000) (w : World) (hs : Bs < w.heap.size) (hn : Bn < w.heap.size)
    (hBs : w.heap[Bs]? = some (.cells #[.slice (some ⟨g, 0, none⟩) (128 * N) cap] 22 (0, 0))) (hBn : w.heap[Bn]? = some (.cells #[.int .i64 128] 3 (0, 0))) :
    SeqStopsK Fence.wide n Tryd.prog 35 #[.pointer (some ⟨Bs, 0, none⟩), .pointer (some ⟨Bn, 0, none⟩)] (fun x : Fin N => #[.slice (some ⟨g, 128 * x.1, none⟩) 128 128]) (KeepTwo Bs Bn)
      (fun ys => ys = upto N N) (fun pre => ∃ k, k ≤ N ∧ pre = upto N k) N w := fun l J Jx W hW hJ _ hY h0 =>
  chunk1_in n l Bs Bn g N cap hcap hN J Jx (fun pre W m h => hJ pre W (W.drewN m) none h ⟨rfl, rfl, rfl, Nat.le_refl _, fun _ _ _ => rfl⟩ (fun r e => by cases e)) hY W
    ((hW.block Bs hs).trans hBs) ((hW.block Bn hn).trans hBn) h0

set_option maxHeartbeats 1000000 in
theorem chunk_any (A : Option Addr) (L cap : Nat) (w : World) :
    Calls Tryd.prog 27 #[.slice A L cap, .int .i64 128] w fun e w' => e = .returned (.func (.func 35) #[] #[.pointer (some ⟨w.heap.size, 0, none⟩), .pointer (some ⟨w.heap.size + 1, 0, none⟩)]) ∧
      (w.alloc (.cells #[.slice A L cap] 22)).alloc (.cells #[.int .i64 128] 3) = w' := by
  go_enter Tryd.func27, Tryd.ntmps27
  go_wp2
  go_ret
  exact ⟨rfl, rfl⟩
end Go.Proofs.YtfcadniglmhclaaDoor.S
