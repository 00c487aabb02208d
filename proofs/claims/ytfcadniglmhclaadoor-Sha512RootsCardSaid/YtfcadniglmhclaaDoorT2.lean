/-
  Laws for arrays of bytes; the walk of sha512.Sum (function 14).
-/
import Derived.Test.YtfcadniglmhclaaDoorT1
namespace Go.Proofs.YtfcadniglmhclaaDoor.S
open Go.RowKit Go.Proofs.YtfcadniglmhclaaDoorW.PrintWords Go.Proofs.YtfcadniglmhclaaDoorW.PrintLast Go.Proofs.YtfcadniglmhclaaDoorW.PrintMore
open Go.Proofs.YtfcadniglmhclaaDoor.R

theorem size_bts (l : List Int) : (bts l).size = l.length := by simp [bts]
theorem bts_one (l : List Int) : (bts l).all (·.oneCell') = true := by simp [bts, Value.oneCell']
theorem bts_get (l : List Int) (i : Nat) (h : i < l.length) : (bts l)[i]? = some (.int .u8 (at' l i)) := by simp [bts, at', h]
theorem bts_set (l : List Int) (i : Nat) (x : Int) : (bts l).setIfInBounds i (.int .u8 x) = bts (l.set i x) := by simp [bts, List.map_set]

/-- A block of bytes. -/
def Bb (w : World) (B : Nat) (t : TypeId) (l : List Int) : Prop := w.heap[B]? = some (.cells (bts l) t (0, 0))
theorem Bb.lt {w : World} {B : Nat} {t : TypeId} {l : List Int} (h : Bb w B t l) : B < w.heap.size := (Array.getElem?_eq_some_iff.1 h).1
theorem Bb.below {w w' : World} {B : Nat} {t : TypeId} {l : List Int} (h : Bb w B t l) (hb : Below w.heap.size w w') : Bb w' B t l := (hb.block B h.lt).trans h
theorem Bb.alloc {w : World} {B : Nat} {t : TypeId} {l : List Int} (h : Bb w B t l) (o : Obj) : Bb (w.alloc o) B t l := (heap_alloc_old w o h.lt).trans h
theorem Bb.newAt (w : World) (t : TypeId) (l : List Int) (B : Nat) (h : w.heap.size = B) : Bb (w.alloc (.cells (bts l) t)) B t l := h ▸ heap_alloc_new _ _
theorem Bb.cell {w : World} {B : Nat} {t : TypeId} {l : List Int} (h : Bb w B t l) (i : Nat) (hi : i < l.length) : w.cell? ⟨B, i, none⟩ = some (.int .u8 (at' l i)) := by
  rw [cell_of_row w B i _ t (0, 0) h, bts_get l i hi]
theorem Bb.free {w : World} {B : Nat} {t : TypeId} {l : List Int} (h : Bb w B t l) (i : Nat) : w.frozen? ⟨B, i, none⟩ = false := frozen_of_row w B i _ t h
theorem Bb.set {w : World} {B : Nat} {t : TypeId} {l : List Int} (h : Bb w B t l) (i : Nat) (x : Int) : Bb (w.setCell ⟨B, i, none⟩ (.int .u8 x)) B t (l.set i x) := by
  unfold Bb; rw [heap_setCell_same w B i _ t _ h, bts_set]
theorem Bb.other {w : World} {B B' : Nat} {t : TypeId} {l : List Int} (h : Bb w B t l) (hB : B ≠ B') (i : Nat) (v : Value) : Bb (w.setCell ⟨B', i, none⟩ v) B t l := by
  unfold Bb; rw [heap_setCell_other w ⟨B', i, none⟩ B v hB]; exact h
/-- It reads as the bytes from a place on. -/
theorem Bb.reads {w : World} {B : Nat} {t : TypeId} {l : List Int} (h : Bb w B t l) (hm : l.length ≤ 1000000) (k : Nat) (hk : k ≤ l.length) : Kd.C (Kd.int .u8) w (some ⟨B, k, none⟩) (l.length - k) (l.drop k) := by
  refine Kd.C_of_reads (enc := Value.int .u8) (d := (0 : Int)) (h1 := fun _ => rfl) ⟨by rw [List.length_drop], by omega, fun hp => ⟨_, rfl, fun j hj => ?_⟩⟩
  have hadd : (⟨B, k, none⟩ : Addr).add j = ⟨B, k + j, none⟩ := by unfold Addr.add; split <;> simp_all
  rw [hadd, h.cell (k + j) (by omega)]
  simp [at', List.getD_eq_getElem?_getD, List.getElem?_drop]

section
variable {P : Program} {ops : Array Oper} {rest : List Oper} {o : Oper} {a : Act} {w : World} {Q : Exit → Act → World → Prop}
theorem alloc_array (hgd : o.guard = none) (ty : TypeId) (ho : o.op = .alloc ty) (cs : Array Value) (hz : ∀ w, (zeroValue ty).run P w = .ok (.agg cs) w)
    (h : wpList P ops Q rest (a.put o.dst (.pointer (some ⟨w.heap.size, 0, none⟩))) (w.alloc (.cells cs ty))) : wpList P ops Q (o :: rest) a w := by
  refine wpList_plain hgd fun K hK => ?_
  unfold Oper.wp
  have hrun : (execOp a.eval o).run P w = .ok (.value (.pointer (some ⟨w.heap.size, 0, none⟩))) (w.alloc (.cells cs ty)) := by
    simp [execOp, ho, Instr.alloc, hz, go_sem]
  rw [hrun, Oper.upon_value]
  exact hK _ _ h
theorem store_bytes (hgd : o.guard = none) (ty : TypeId) (x y : Operand) (ho : o.op = .store ty x y) (B : Nat) (l old : List Int) (hx : a.eval x = .pointer (some ⟨B, 0, none⟩)) (hy : a.eval y = .agg (bts l))
    (t : TypeId) (hg : Bb w B t old) (hi : (P.info? ty).map (·.size) = some l.length) (hold : old.length = l.length)
    (h : ∀ w', Aside0 (Bb w' B t l) → (∀ k, k ≠ B → w'.heap[k]? = w.heap[k]?) → Aside0 (Laid B w w') → wpList P ops Q rest (a.put o.dst undef) w') : wpList P ops Q (o :: rest) a w :=
  wpList_store_row hgd ty x y ho B (bts l) hx hy t _ hg (by rw [size_bts]; exact hi) (by rw [size_bts, size_bts]; exact hold) (bts_one l)
    (h _ ⟨setRow_heap w B _ _ t _ hg⟩ (fun k hk => setRow_other w B k _ hk) ⟨Laid.row B w _⟩)
end
theorem info25 : (Tryd.prog.info? 25).map (·.size) = some 32 := by kernel_rfl
def Z32l : List Int := List.replicate 32 0
def Z64l : List Int := List.replicate 64 0
theorem zero25 (w : World) : (zeroValue 25).run Tryd.prog w = .ok (.agg (bts Z32l)) w := by kernel_rfl
theorem zero34b (w : World) : (zeroValue 34).run Tryd.prog w = .ok (.agg (bts Z64l)) w := by kernel_rfl

/-- SHA-512, as bytes. -/
def sumS (b : List Int) : List Int := bytesS (digS KS FS b)
theorem length_digS (h b : List Int) (hh : h.length = 8) : (digS KS h b).length = 8 := length_digN KS h _ hh _
theorem length_sumS (b : List Int) : (sumS b).length = 64 := by unfold sumS; rw [length_bytesS, length_digS _ _ length_FS]

set_option maxRecDepth 100000 in
set_option maxHeartbeats 400000 in
theorem sum_any (v : Value) (b : List Int) (w : World) (hn : b.length ≤ 1000000) (hby : By b) (hi : In w v b) (hG : Gl w) :
    Calls Tryd.prog 14 #[v] w fun e w' => e = .returned (.agg (bts (sumS b))) ∧ Below w.heap.size w w' := by
  have hz := zero34b
  have HI := Aside0.mk hi
  have HG := Aside0.mk hG
  obtain ⟨⟨t0, fr0, hG0⟩, _⟩ := hG
  have HG0 := Aside0.mk hG0
  have HBY := Aside0.mk hby
  have HN := Aside0.mk hn
  clear hi hby hn hG0
  go_enter Tryd.func14, Tryd.ntmps14
  go_wp2_with (first | (refine wpList_load_row rfl 28 (.global 0) rfl 0 rfl t0 (wds FS) fr0 _ ((heap_alloc_old w _ (by have := HG.out.size; omega)).trans HG0.out) Tryd.underlying28 rfl info28 ?_) | (go_at_call 21; refine (digest_any FS _ b _ length_FS HN.out HBY.out (HI.out.below (below_alloc (Below.refl _ _) _)) (HG.out.below (below_alloc (Below.refl _ _) _))).mono ?_; rintro e w1 ⟨rfl, hb⟩; have HB := Aside0.mk hb; clear hb) | (refine store_bytes rfl 34 (.tmp 2) (.tmp 5) rfl w.heap.size (sumS b) Z64l rfl rfl 34 ((Bb.newAt w 34 Z64l _ rfl).below HB.out) (by rw [length_sumS]; exact info34) (by rw [length_sumS]; rfl) ?_; intro w2 hb2 _ HL2))
  exact bodyPost_ret (results_cell_row (fn := Tryd.f14) rfl _ _ w.heap.size 34 (bts (sumS b)) (0, 0) _ rfl hb2.out Tryd.underlying34 rfl (by rw [size_bts, length_sumS]; exact info34)) rfl ⟨rfl, HL2.out.below (Nat.le_refl _) (below_step (below_alloc (Below.refl _ _) _) HB.out)⟩
end Go.Proofs.YtfcadniglmhclaaDoor.S
