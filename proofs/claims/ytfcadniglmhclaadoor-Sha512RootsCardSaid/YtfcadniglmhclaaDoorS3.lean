/-
  The walk of sha512.spread (function 37).
-/
import Derived.Test.YtfcadniglmhclaaDoorS2
import Derived.Laws.Rows
import Derived.Deep.QuietTactic
import Derived.BigQuiet
import Derived.RegionTactic
import Derived.BigRegion
import Derived.ChangeAlike
import Derived.Laws.CopyOwn
namespace Go.Proofs.YtfcadniglmhclaaDoor.S
open Go.RowKit Go.Proofs.YtfcadniglmhclaaDoorW.PrintWords Go.Proofs.YtfcadniglmhclaaDoorW.PrintLast Go.Proofs.YtfcadniglmhclaaDoorW.PrintMore
open Go.Proofs.YtfcadniglmhclaaDoor.R

def wds (l : List Int) : Array Value := (l.map (Value.int .u64)).toArray
theorem size_wds (l : List Int) : (wds l).size = l.length := by simp [wds]
theorem wds_get (l : List Int) (i : Nat) (h : i < l.length) : (wds l)[i]? = some (.int .u64 (at' l i)) := by
  simp [wds, at', h]
theorem wds_set (l : List Int) (i : Nat) (x : Int) : (wds l).setIfInBounds i (.int .u64 x) = wds (l.set i x) := by
  simp [wds, List.map_set]
theorem wds_one (l : List Int) : (wds l).all (·.oneCell') = true := by
  simp [wds, Value.oneCell']
/-- A block of words. -/
def Wb (w : World) (B : Nat) (t : TypeId) (l : List Int) : Prop := w.heap[B]? = some (.cells (wds l) t (0, 0))
theorem Wb.cell {w : World} {B : Nat} {t : TypeId} {l : List Int} (h : Wb w B t l) (i : Nat) (hi : i < l.length) : w.cell? ⟨B, i, none⟩ = some (.int .u64 (at' l i)) := by
  rw [cell_of_row w B i _ t (0, 0) h, wds_get l i hi]
theorem Wb.free {w : World} {B : Nat} {t : TypeId} {l : List Int} (h : Wb w B t l) (i : Nat) : w.frozen? ⟨B, i, none⟩ = false := frozen_of_row w B i _ t h
theorem Wb.set {w : World} {B : Nat} {t : TypeId} {l : List Int} (h : Wb w B t l) (i : Nat) (x : Int) : Wb (w.setCell ⟨B, i, none⟩ (.int .u64 x)) B t (l.set i x) := by
  unfold Wb; rw [heap_setCell_same w B i _ t _ h, wds_set]
theorem Wb.other {w : World} {B B' : Nat} {t : TypeId} {l : List Int} (h : Wb w B t l) (hB : B ≠ B') (i : Nat) (v : Value) : Wb (w.setCell ⟨B', i, none⟩ v) B t l := by
  unfold Wb; rw [heap_setCell_other w ⟨B', i, none⟩ B v hB]; exact h
theorem Wb.drewN {w : World} {B : Nat} {t : TypeId} {l : List Int} (h : Wb w B t l) (n : Nat) : Wb (w.drewN n) B t l := h
theorem Wb.drew {w : World} {B : Nat} {t : TypeId} {l : List Int} (h : Wb w B t l) : Wb w.drew B t l := h
theorem Wb.lt {w : World} {B : Nat} {t : TypeId} {l : List Int} (h : Wb w B t l) : B < w.heap.size := (Array.getElem?_eq_some_iff.1 h).1
theorem Wb.below {w w' : World} {B : Nat} {t : TypeId} {l : List Int} (h : Wb w B t l) (hb : Below w.heap.size w w') : Wb w' B t l := by
  unfold Wb; rw [hb.block B h.lt]; exact h

def Z80 : Array Value := wds (List.replicate 80 0)
theorem zero55 (w : World) : (zeroValue 55).run Tryd.prog w = .ok (.agg Z80) w := by kernel_rfl
theorem at_words16 (b : List Int) (k : Nat) (h : k < 16) : at' (words16 b) k = wordS (b.drop (8 * k)) := by
  simp [at', words16, h]

/-- What the block of words holds before round k of the first loop. -/
def first16 (b : List Int) (k : Nat) : List Int := (words16 b).take k ++ List.replicate (80 - k) 0
theorem length_first16 (b : List Int) (k : Nat) (h : k ≤ 16) : (first16 b k).length = 80 := by simp [first16, length_words16]; omega
theorem first16_zero (b : List Int) : first16 b 0 = List.replicate 80 0 := rfl
theorem first16_succ (b : List Int) (k : Nat) (h : k < 16) : (first16 b k).set k (wordS (b.drop (8 * k))) = first16 b (k + 1) := by
  have hl := length_words16 b
  have e : 80 - k = (80 - (k + 1)) + 1 := by omega
  unfold first16
  rw [e, List.replicate_succ, List.set_append_right _ _ (by simp; omega), List.length_take, hl, Nat.min_eq_left (by omega), Nat.sub_self, List.set_cons_zero,
    ← at_words16 b k h, List.take_succ_eq_append_getElem (by omega), List.append_assoc]
  simp [at', List.getD_eq_getElem?_getD, hl, h]
/-- What the block of words holds before round k of the second loop. -/
def next80 (b : List Int) (k : Nat) : List Int := extN (words16 b) k ++ List.replicate (64 - k) 0
theorem length_next80 (b : List Int) (k : Nat) (h : k ≤ 64) : (next80 b k).length = 80 := by simp [next80, length_words16, length_extN]; omega
theorem first16_next80 (b : List Int) : first16 b 16 = next80 b 0 := by
  unfold first16 next80
  rw [List.take_of_length_le (by rw [length_words16]; omega)]; rfl
theorem at_next80 (b : List Int) (k i : Nat) (h : i < 16 + k) : at' (next80 b k) i = at' (extN (words16 b) k) i := by
  unfold at' next80
  rw [List.getD_eq_getElem?_getD, List.getD_eq_getElem?_getD, List.getElem?_append_left (by rw [length_extN, length_words16]; omega)]
theorem next80_succ (b : List Int) (k : Nat) (h : k < 64) : (next80 b k).set (16 + k) (ext1 (extN (words16 b) k) (16 + k)) = next80 b (k + 1) := by
  have e : 64 - k = (64 - (k + 1)) + 1 := by omega
  unfold next80
  rw [e, List.replicate_succ, List.set_append_right _ _ (by rw [length_extN, length_words16]; omega), length_extN, length_words16, Nat.sub_self, List.set_cons_zero]
  simp [extN]
theorem next80_step (b : List Int) (t : Nat) (h0 : 16 ≤ t) (h : t < 80) : (next80 b (t - 16)).set t (ext1 (next80 b (t - 16)) t) = next80 b (t + 1 - 16) := by
  have e := next80_succ b (t - 16) (by omega)
  rw [show 16 + (t - 16) = t by omega, show t - 16 + 1 = t + 1 - 16 by omega] at e
  rw [← e]
  unfold ext1
  rw [at_next80 _ _ _ (by omega), at_next80 _ _ _ (by omega), at_next80 _ _ _ (by omega), at_next80 _ _ _ (by omega)]
theorem next80_end (b : List Int) : next80 b 64 = spreadS b := by simp [next80, spreadS]

set_option maxHeartbeats 400000 in
theorem spread_any (a0 : Addr) (c : Nat) (b : List Int) (w : World) (hb : b.length = 128) (hby : By b) (hr : Kd.C (Kd.int .u8) w (some a0) 128 b) (hc : 128 ≤ c) :
    Calls Tryd.prog 37 #[.slice (some a0) 128 c] w fun e w' => e = .returned (.agg (wds (spreadS b))) ∧ Below w.heap.size w w' := by
  have hz := zero55
  have HR := Aside0.mk hr
  have HC := Aside0.mk hc
  have HBL := Aside0.mk hb
  have HBY := Aside0.mk hby
  clear hr hc hb hby
  go_enter Tryd.func37, Tryd.ntmps37
  go_wp2
  have w1 : Aside0 (Wb ((w.alloc (Obj.cells Z80 55)).alloc (Obj.cells Z80 55)) (w.heap.size + 1) 55 (first16 b 0)) := ⟨heap_alloc2_new _ _ _⟩
  have w0 : Aside0 (Wb ((w.alloc (Obj.cells Z80 55)).alloc (Obj.cells Z80 55)) w.heap.size 55 (List.replicate 80 0)) := ⟨heap_alloc2_old _ _ _⟩
  go_loopw [10] (fun v10 wr => ∃ k : Nat, k ≤ 16 ∧ v10 = .int .i64 k ∧ Aside0 (Wb wr (w.heap.size + 1) 55 (first16 b k)) ∧ Aside0 (Wb wr w.heap.size 55 (List.replicate 80 0)) ∧ Aside0 (Below w.heap.size w wr)) (fun v10 _ => 16 - (intOf v10).toNat)
  case atStart => exact ⟨0, by omega, rfl, w1, w0, ⟨below_alloc (below_alloc (Below.refl _ _) _) _⟩⟩
  case round =>
    clear w1 w0
    obtain ⟨k, hk, rfl, W1, W0, HB⟩ := hrel
    by_cases hlt : k < 16
    · have hcell := W1.out.cell k (by rw [length_first16 b k hk]; omega)
      have hfree := W1.out.free k
      obtain ⟨i0, hi0, _, hsz0, _⟩ := info_parts info5
      have hcut := cut_from (P := Tryd.prog) 22 5 .i64 Tryd.underlying22 hi0 1 hsz0 (some a0) 128 c (8 * (k : Int)) (by omega) (by omega)
      have e8 : (8 * (k : Int)).toNat = 8 * k := by omega
      have hne : ¬ (c = 8 * k) := by have := HC.out; omega
      rw [e8, if_neg hne, Nat.mul_one] at hcut
      simp only [Option.map_some] at hcut
      have hd := Kd.C_drop (k := Kd.int .u8) (c := c) (m := 8 * k) (A := some a0) (w := wr) (xs := b) (by have := Kd.C_below HR.out HB.out; rw [HBL.out]; exact this) (by rw [HBL.out]; omega) (by rw [HBL.out]; exact HC.out)
      rw [if_neg hne, List.length_drop, HBL.out] at hd
      have HD : Aside0 (Kd.C (Kd.int .u8) wr (some (a0.add (8 * k))) (128 - 8 * k) (b.drop (8 * k))) := ⟨by simpa [Kd.int, Kd.scalar] using hd⟩
      clear hd hi0 hsz0 e8 hne
      have HW := Aside0.mk (first16_succ b k hlt)
      go_wp2_with (go_at_call 22; refine (word_any (a0.add (8 * k)) (128 - 8 * k) (c - 8 * k) (b.drop (8 * k)) _ (by rw [List.length_drop, HBL.out]; omega) (HBY.out.drop _) (by rw [List.length_drop, HBL.out]) HD.out (by have := HC.out; omega)).mono ?_; rintro e w' ⟨rfl, ⟨nd, rfl⟩⟩)
      go_roundw
      case rel => exact ⟨k + 1, by omega, by go_num, ⟨by rw [← HW.out]; exact (W1.out.drewN nd).set k _⟩, ⟨(W0.out.drewN nd).other (by omega) _ _⟩, ⟨below_set (pw_below_drewN HB.out _) (by omega)⟩⟩
      case measure => simp [intOf]; omega
    · obtain rfl : k = 16 := by omega
      go_wp2
      go_loopw [5] (fun v5 wr => ∃ t : Nat, 16 ≤ t ∧ t ≤ 80 ∧ v5 = .int .i64 t ∧ Aside0 (Wb wr (w.heap.size + 1) 55 (next80 b (t - 16))) ∧ Aside0 (Wb wr w.heap.size 55 (List.replicate 80 0)) ∧ Aside0 (Below w.heap.size w wr)) (fun v5 _ => 80 - (intOf v5).toNat)
      case atStart => exact ⟨16, by omega, by omega, rfl, ⟨by rw [← first16_next80]; exact W1.out⟩, W0, HB⟩
      case round =>
        clear W1 W0 HB
        obtain ⟨t, ht0, ht1, rfl, W1, W0, HB⟩ := hrel
        have hlen := length_next80 b (t - 16) (by omega)
        by_cases hlt : t < 80
        · have c15 := W1.out.cell (t - 15) (by omega)
          have c2 := W1.out.cell (t - 2) (by omega)
          have c7 := W1.out.cell (t - 7) (by omega)
          have c16 := W1.out.cell (t - 16) (by omega)
          have ct := W1.out.cell t (by omega)
          have ft := W1.out.free t
          have b1 : (0 : Int) ≤ (t : Int) - 15 := by omega
          have b2 : (t : Int) - 15 < 80 := by omega
          have b3 : (0 : Int) ≤ (t : Int) - 2 := by omega
          have b4 : (t : Int) - 2 < 80 := by omega
          have e15 : ((t : Int) - 15).toNat = t - 15 := by omega
          have e2 : ((t : Int) - 2).toNat = t - 2 := by omega
          have e7 : ((t : Int) - 7).toNat = t - 7 := by omega
          have e16 : ((t : Int) - 16).toNat = t - 16 := by omega
          clear hlen
          go_wp2
          go_quiet (fail)
          go_wp2_with (go_at_call 38; refine (right_i _ _ (by decide) _).mono ?_; rintro e w' ⟨rfl, rfl⟩)
          have b5 : (0 : Int) ≤ (t : Int) - 7 := by omega
          have b6 : (t : Int) - 7 < 80 := by omega
          have b7 : (0 : Int) ≤ (t : Int) - 16 := by omega
          have b8 : (t : Int) - 16 < 80 := by omega
          have HS := Aside0.mk (next80_step b t ht0 hlt)
          go_region
          go_wp2
          go_roundw
          case rel => ((repeat apply Exists.intro); exact ⟨⟨t + 1, by omega, by omega, by go_num, ⟨by rw [← HS.out]; exact W1.out.set t _⟩, ⟨W0.out.other (by omega) _ _⟩, ⟨below_set (pw_below_drewN HB.out _) (by omega)⟩⟩, rfl⟩)
          case measure => simp [intOf]; omega
        · obtain rfl : t = 80 := by omega
          have H1 := W1.out
          rw [show 80 - 16 = 64 by rfl, next80_end] at H1
          go_wp2_with (first | (refine wpList_load_row rfl 55 (.tmp 3) rfl (w.heap.size + 1) rfl 55 (wds (spreadS b)) (0, 0) _ H1 Tryd.underlying55 rfl (by rw [size_wds, length_spreadS]; kernel_rfl) ?_) | (refine wpList_store_row rfl 55 (.tmp 2) (.tmp 64) rfl w.heap.size (wds (spreadS b)) rfl rfl 55 _ W0.out (by rw [size_wds, length_spreadS]; kernel_rfl) (by rw [size_wds, size_wds, length_spreadS]; rfl) (wds_one _) ?_))
          have h2 := setRow_heap wr w.heap.size (wds (List.replicate 80 0)) (wds (spreadS b)) 55 (0, 0) W0.out
          exact bodyPost_ret (results_cell_row (fn := Tryd.f37) rfl _ _ w.heap.size 55 (wds (spreadS b)) (0, 0) _ rfl h2 Tryd.underlying55 rfl (by rw [size_wds, length_spreadS]; kernel_rfl)) rfl ⟨rfl, below_setRow HB.out (Nat.le_refl _) _⟩
end Go.Proofs.YtfcadniglmhclaaDoor.S
