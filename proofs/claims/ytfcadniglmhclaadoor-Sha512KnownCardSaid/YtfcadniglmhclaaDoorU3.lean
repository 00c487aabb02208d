/-
  Laws that the later walks want: arrays of bytes compared, loaded in a region that draws; a row cut from a place on.
-/
import Derived.Test.YtfcadniglmhclaaDoorU2
import Derived.Laws.StructEq
namespace Go.Proofs.YtfcadniglmhclaaDoor.S
open Go.RowKit Go.Proofs.YtfcadniglmhclaaDoorW.PrintWords Go.Proofs.YtfcadniglmhclaaDoorW.PrintLast Go.Proofs.YtfcadniglmhclaaDoorW.PrintMore
open Go.Proofs.YtfcadniglmhclaaDoor.R
set_option linter.unusedSimpArgs false
set_option linter.unusedVariables false

theorem size5 (w : World) : (sizeOf 5).run Tryd.prog w = .ok 1 w := by kernel_rfl
theorem eq_array (w : World) (d n : Nat) (t : TypeId) (ht : Tryd.prog.underlying t = some (.array n 5)) (l : List Int) (hl : l.length = n) :
    (Op.equalIn (d + 2) t (.agg (bts l)) (.agg (bts l))).run Tryd.prog w = .ok true w := by
  rw [Op.equalIn]
  simp only [Sem.run_bind, run_underlying ht, Result.andThen_ok, size5, Std.Legacy.Range.forIn_eq_forIn_range', Std.Legacy.Range.size, Nat.sub_zero, Nat.add_sub_cancel, Nat.div_one]
  have hall : ∀ i ∈ List.range' 0 n 1, i < n := fun i hi => by simpa using (List.mem_range'_1.1 hi).2
  generalize List.range' 0 n 1 = is at hall ⊢
  induction is with
  | nil => simp
  | cons i is ih =>
    have hi : i < n := hall i (by simp)
    have px : (part 5 (bts l) (i * 1)).run Tryd.prog w = .ok (.int .u8 (at' l i)) w := by
      simp [part, isAgg, run_underlying Tryd.underlying5, bts_get l i (by omega)]
    have pe : (Op.equalIn (d + 1) 5 (.int .u8 (at' l i)) (.int .u8 (at' l i))).run Tryd.prog w = .ok true w := by
      rw [run_equalIn_int w d 5 .u8 .u8 _ _ Tryd.underlying5]
      simp
    simp only [List.forIn_cons, Sem.run_bind, px, pe, Result.andThen_ok, Bool.not_true, Bool.false_eq_true, if_false, Sem.run_pure]
    exact ih fun j hj => hall j (by simp [hj])
theorem eql_25 (l : List Int) (hl : l.length = 32) (w : World) : (binOp .eql 25 (.agg (bts l)) (.agg (bts l))).run Tryd.prog w = .ok (.bool true) w := by
  rw [run_eql_struct, eq_array w 9998 32 25 Tryd.underlying25 l hl]
  rfl
theorem eql_34 (l : List Int) (hl : l.length = 64) (w : World) : (binOp .eql 34 (.agg (bts l)) (.agg (bts l))).run Tryd.prog w = .ok (.bool true) w := by
  rw [run_eql_struct, eq_array w 9998 64 34 Tryd.underlying34 l hl]
  rfl
theorem eqi_25 (l : List Int) (hl : l.length = 32) (w : World) : (Op.equalIn 10000 25 (.agg (bts l)) (.agg (bts l))).run Tryd.prog w = .ok true w := eq_array w 9998 32 25 Tryd.underlying25 l hl
theorem eqi_34 (l : List Int) (hl : l.length = 64) (w : World) : (Op.equalIn 10000 34 (.agg (bts l)) (.agg (bts l))).run Tryd.prog w = .ok true w := eq_array w 9998 64 34 Tryd.underlying34 l hl
/-- A load, by what it reads. -/
theorem exec_load {w : World} {o : Oper} {a : Act} {ty : TypeId} {x : Operand} {p : Addr} {v : Value} (ho : o.op = .load ty x) (hx : a.eval x = .pointer (some p)) (h : (loadVar ty p).run Tryd.prog w = .ok v w) :
    (execOp a.eval o).run Tryd.prog w = .ok (.value v) w := by
  unfold execOp
  simp only [ho, hx, Instr.loadAt, Instr.sureAddr, Sem.run_bind, Sem.run_pure, Result.andThen_ok, h]
/-- A whole array of bytes, loaded. -/
theorem Bb.loads25 {w : World} {B : Nat} {l : List Int} (h : Bb w B 25 l) (hl : l.length = 32) : (loadVar 25 ⟨B, 0, none⟩).run Tryd.prog w = .ok (.agg (bts l)) w :=
  run_loadVar_row w B 25 25 (bts l) (0, 0) _ h Tryd.underlying25 rfl (by rw [size_bts, hl]; exact info25)
theorem Bb.loads34 {w : World} {B : Nat} {l : List Int} (h : Bb w B 34 l) (hl : l.length = 64) : (loadVar 34 ⟨B, 0, none⟩).run Tryd.prog w = .ok (.agg (bts l)) w :=
  run_loadVar_row w B 34 34 (bts l) (0, 0) _ h Tryd.underlying34 rfl (by rw [size_bts, hl]; exact info34)
/-- A row of bytes cut from a place on. -/
theorem In.cut_from {w : World} {A : Option Addr} {c k : Nat} {b : List Int} (h : In w (.slice A b.length c) b) (hk : k ≤ b.length) :
    ∃ A', (∀ W : World, (Instr.slice 22 (.slice A b.length c) (some (.int .i64 (k : Int))) none none).run Tryd.prog W = .ok (.slice A' (b.drop k).length (c - k)) W) ∧
      In w (.slice A' (b.drop k).length (c - k)) (b.drop k) := by
  obtain ⟨i0, hi0, _, hsz0, _⟩ := info_parts info5
  have h1 := Go.Proofs.YtfcadniglmhclaaDoorW.PrintWords.cut_from (P := Tryd.prog) 22 5 .i64 Tryd.underlying22 hi0 1 hsz0 A b.length c (k : Int) (by omega) (by omega)
  rw [Int.toNat_natCast] at h1
  refine ⟨if c = k then A else A.map (·.add (k * 1)), fun W => by rw [h1 W, List.length_drop], ?_⟩
  rcases h with ⟨hv, rfl⟩ | ⟨a0, c0, hv, hc, hC⟩
  · injection hv with hA _ hc
    subst hA
    have hk0 : k = 0 := by simpa using hk
    subst hk0
    left
    subst hc
    exact ⟨rfl, rfl⟩
  · injection hv with hA _ hc0
    subst hA
    subst hc0
    have h2 := Kd.C_drop (m := k) (c := c) hC hk hc
    right
    by_cases h3 : c = k
    · rw [if_pos h3] at h2 ⊢
      exact ⟨a0, c - k, rfl, by rw [List.length_drop]; omega, h2⟩
    · rw [if_neg h3] at h2 ⊢
      exact ⟨_, c - k, rfl, by rw [List.length_drop]; omega, h2⟩
end Go.Proofs.YtfcadniglmhclaaDoor.S
