/-
  Laws for arrays of words that are read and written whole.
-/
import Derived.Test.YtfcadniglmhclaaDoorS4
import Derived.Deep.RegionLaw
import Derived.Deep.AppendLies
import Derived.Laws.CopyOwn
namespace Go.Proofs.YtfcadniglmhclaaDoor.S
open Go.RowKit Go.Proofs.YtfcadniglmhclaaDoorW.PrintWords Go.Proofs.YtfcadniglmhclaaDoorW.PrintLast Go.Proofs.YtfcadniglmhclaaDoorW.PrintMore
open Go.Proofs.YtfcadniglmhclaaDoor.R

theorem eight {l : List Int} (h : l.length = 8) : ∃ a b c d e f g i, l = [a, b, c, d, e, f, g, i] := by
  match l, h with
  | [a, b, c, d, e, f, g, i], _ => exact ⟨a, b, c, d, e, f, g, i, rfl⟩

theorem Wb.new (w : World) (t : TypeId) (l : List Int) : Wb (w.alloc (.cells (wds l) t)) w.heap.size t l := heap_alloc_new _ _
theorem Wb.alloc {w : World} {B : Nat} {t : TypeId} {l : List Int} (h : Wb w B t l) (o : Obj) : Wb (w.alloc o) B t l := (heap_alloc_old w o h.lt).trans h

theorem Wb.newAt (w : World) (t : TypeId) (l : List Int) (B : Nat) (h : w.heap.size = B) : Wb (w.alloc (.cells (wds l) t)) B t l := h ▸ Wb.new w t l
/-- Blocks below a place are kept. -/
theorem Wb.under {w w' : World} {B D : Nat} {t : TypeId} {l : List Int} (h : Wb w B t l) (hb : Below D w w') (hB : B < D) : Wb w' B t l := by
  unfold Wb; rw [hb.block B hB]; exact h

/-- What a whole store into block B leaves. -/
structure Laid (B : Nat) (w w' : World) : Prop where
  other : ∀ {B' : Nat} {t' : TypeId} {l' : List Int}, B' ≠ B → Wb w B' t' l' → Wb w' B' t' l'
  below : ∀ {D : Nat} {w0 : World}, D ≤ B → Below D w0 w → Below D w0 w'
  size : w'.heap.size = w.heap.size

theorem Laid.row (B : Nat) (w : World) (cs : Array Value) : Laid B w (w.setRow B cs) :=
  ⟨fun hB h => (setRow_other w B _ cs hB).trans h, fun hD hb => below_setRow hb hD cs, size_setRow _ _ _⟩

section
variable {P : Program} {ops : Array Oper} {rest : List Oper} {o : Oper} {a : Act} {w : World} {Q : Exit → Act → World → Prop}
theorem load_words (hgd : o.guard = none) (ty : TypeId) (x : Operand) (ho : o.op = .load ty x) (B : Nat) (hx : a.eval x = .pointer (some ⟨B, 0, none⟩)) (t : TypeId) (l : List Int) (d : TypeDesc)
    (hg : Wb w B t l) (hu : P.underlying ty = some d) (hd : (match d with | .struct _ | .array _ _ => true | _ => false) = true) (hi : (P.info? ty).map (·.size) = some l.length)
    (h : wpList P ops Q rest (a.put o.dst (.agg (wds l))) w) : wpList P ops Q (o :: rest) a w :=
  wpList_load_row hgd ty x ho B hx t (wds l) (0, 0) d hg hu hd (by rw [size_wds]; exact hi) h
theorem store_words (hgd : o.guard = none) (ty : TypeId) (x y : Operand) (ho : o.op = .store ty x y) (B : Nat) (l old : List Int) (hx : a.eval x = .pointer (some ⟨B, 0, none⟩)) (hy : a.eval y = .agg (wds l))
    (t : TypeId) (hg : Wb w B t old) (hi : (P.info? ty).map (·.size) = some l.length) (hold : old.length = l.length)
    (h : ∀ w', Aside0 (Wb w' B t l) → Aside0 (Laid B w w') → wpList P ops Q rest (a.put o.dst undef) w') : wpList P ops Q (o :: rest) a w :=
  wpList_store_row hgd ty x y ho B (wds l) hx hy t _ hg (by rw [size_wds]; exact hi) (by rw [size_wds, size_wds]; exact hold) (wds_one l)
    (h _ ⟨setRow_heap w B _ _ t _ hg⟩ ⟨Laid.row B w _⟩)
end
theorem size27 : (Tryd.prog.info? 27).map (·.size) = some 1 := by kernel_rfl
theorem info28 : (Tryd.prog.info? 28).map (·.size) = some 8 := by kernel_rfl
theorem info55 : (Tryd.prog.info? 55).map (·.size) = some 80 := by kernel_rfl

theorem shift_cells {w : World} {B : Nat} {t : TypeId} {v0 v1 v2 v3 v4 v5 v6 v7 : Int} (h : Wb w B t [v0, v1, v2, v3, v4, v5, v6, v7]) (j : Nat) (v : Value) (hj : ([.int .u64 v0, .int .u64 v1, .int .u64 v2, .int .u64 v3, .int .u64 v4, .int .u64 v5, .int .u64 v6] : List Value)[j]? = some v) : w.cell? ((⟨B, 0, none⟩ : Addr).add j) = some v := by
  have hadd : (⟨B, 0, none⟩ : Addr).add j = ⟨B, j, none⟩ := by unfold Addr.add; split <;> simp_all
  rw [hadd]
  match j, hj with
  | 0, hj => exact (h.cell 0 (by simp)).trans hj
  | 1, hj => exact (h.cell 1 (by simp)).trans hj
  | 2, hj => exact (h.cell 2 (by simp)).trans hj
  | 3, hj => exact (h.cell 3 (by simp)).trans hj
  | 4, hj => exact (h.cell 4 (by simp)).trans hj
  | 5, hj => exact (h.cell 5 (by simp)).trans hj
  | 6, hj => exact (h.cell 6 (by simp)).trans hj
  | n + 7, hj => simp at hj

/-- 'copy(v[1:], v[:7])' of an array of eight words: each goes one place up. -/
theorem step_shift {ops : Array Oper} {o : Oper} {a : Act} {w : World} {K : Act → World → Prop} {Q : Exit → Act → World → Prop} {E : Prop} (hgd : o.guard = none) (d s : Operand)
    (ho : o.op = .call { callee := .builtin .copy, args := #[d, s], argTypes := #[30, 30] }) (B : Nat) (hd : a.eval d = .slice (some ⟨B, 1, none⟩) 7 7) (hs : a.eval s = .slice (some ⟨B, 0, none⟩) 7 8)
    (v0 v1 v2 v3 v4 v5 v6 v7 : Int) (hg : Wb w B 28 [v0, v1, v2, v3, v4, v5, v6, v7]) (h : ∀ w', Aside0 (Wb w' B 28 [v0, v0, v1, v2, v3, v4, v5, v6]) → Aside0 (Below B w w') → K (a.put o.dst (goInt 7)) w') :
    if Region.wanted o (yielded ops a.tmps) = true then Oper.wp Tryd.prog o a w K Q else E := by
  refine step_copy_splice hgd d s 30 30 ho 27 Tryd.underlying30 size27 _ _ 7 7 7 8 hd hs B 1 [.int .u64 v0, .int .u64 v1, .int .u64 v2, .int .u64 v3, .int .u64 v4, .int .u64 v5, .int .u64 v6, .int .u64 v7] 28 hg [.int .u64 v0, .int .u64 v1, .int .u64 v2, .int .u64 v3, .int .u64 v4, .int .u64 v5, .int .u64 v6] rfl
    (fun _ => ⟨rfl, _, rfl, fun j v hj => shift_cells hg j v hj⟩) (by simp) (by simp [Value.oneCell']) B w (Below.refl _ _) (Nat.le_refl _) ?_
  intro w' h1 h2
  exact h w' ⟨h1⟩ ⟨h2⟩
end Go.Proofs.YtfcadniglmhclaaDoor.S
