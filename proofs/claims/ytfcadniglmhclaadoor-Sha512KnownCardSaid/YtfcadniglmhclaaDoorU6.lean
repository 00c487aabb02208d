/-
  The walk of text (function 16): bytes as hex digits.
-/
import Derived.Test.YtfcadniglmhclaaDoorU5
namespace Go.Proofs.YtfcadniglmhclaaDoor.S
open Go.RowKit Go.Proofs.YtfcadniglmhclaaDoorW.PrintWords Go.Proofs.YtfcadniglmhclaaDoorW.PrintLast Go.Proofs.YtfcadniglmhclaaDoorW.PrintMore
open Go.Proofs.YtfcadniglmhclaaDoor.R
set_option linter.unusedSimpArgs false
set_option linter.unusedVariables false

/-- A hex digit, as a byte. -/
def hexd (n : Int) : Int := if n < 10 then 48 + n else 87 + n
def hexS (b : List Int) : List Int := b.flatMap fun x => [hexd (x / 16), hexd (x % 16)]
theorem length_hexS (b : List Int) : (hexS b).length = 2 * b.length := by
  induction b with
  | nil => rfl
  | cons x b ih => simp [hexS] at ih ⊢; omega
theorem hex_step (b : List Int) (i : Nat) (h : i < b.length) : hexS (b.take (i + 1)) = hexS (b.take i) ++ [hexd (at' b i / 16), hexd (at' b i % 16)] := by
  rw [← take_at b i h]
  simp [hexS]
def digitsS : ByteArray := ⟨#[48, 49, 50, 51, 52, 53, 54, 55, 56, 57, 97, 98, 99, 100, 101, 102]⟩
theorem index9_0 (w : World) : (Instr.index 9 (.string digitsS) (.int .u8 0)).run Tryd.prog w = .ok (.int .u8 (hexd 0)) w := by kernel_rfl
theorem index9_1 (w : World) : (Instr.index 9 (.string digitsS) (.int .u8 1)).run Tryd.prog w = .ok (.int .u8 (hexd 1)) w := by kernel_rfl
theorem index9_2 (w : World) : (Instr.index 9 (.string digitsS) (.int .u8 2)).run Tryd.prog w = .ok (.int .u8 (hexd 2)) w := by kernel_rfl
theorem index9_3 (w : World) : (Instr.index 9 (.string digitsS) (.int .u8 3)).run Tryd.prog w = .ok (.int .u8 (hexd 3)) w := by kernel_rfl
theorem index9_4 (w : World) : (Instr.index 9 (.string digitsS) (.int .u8 4)).run Tryd.prog w = .ok (.int .u8 (hexd 4)) w := by kernel_rfl
theorem index9_5 (w : World) : (Instr.index 9 (.string digitsS) (.int .u8 5)).run Tryd.prog w = .ok (.int .u8 (hexd 5)) w := by kernel_rfl
theorem index9_6 (w : World) : (Instr.index 9 (.string digitsS) (.int .u8 6)).run Tryd.prog w = .ok (.int .u8 (hexd 6)) w := by kernel_rfl
theorem index9_7 (w : World) : (Instr.index 9 (.string digitsS) (.int .u8 7)).run Tryd.prog w = .ok (.int .u8 (hexd 7)) w := by kernel_rfl
theorem index9_8 (w : World) : (Instr.index 9 (.string digitsS) (.int .u8 8)).run Tryd.prog w = .ok (.int .u8 (hexd 8)) w := by kernel_rfl
theorem index9_9 (w : World) : (Instr.index 9 (.string digitsS) (.int .u8 9)).run Tryd.prog w = .ok (.int .u8 (hexd 9)) w := by kernel_rfl
theorem index9_10 (w : World) : (Instr.index 9 (.string digitsS) (.int .u8 10)).run Tryd.prog w = .ok (.int .u8 (hexd 10)) w := by kernel_rfl
theorem index9_11 (w : World) : (Instr.index 9 (.string digitsS) (.int .u8 11)).run Tryd.prog w = .ok (.int .u8 (hexd 11)) w := by kernel_rfl
theorem index9_12 (w : World) : (Instr.index 9 (.string digitsS) (.int .u8 12)).run Tryd.prog w = .ok (.int .u8 (hexd 12)) w := by kernel_rfl
theorem index9_13 (w : World) : (Instr.index 9 (.string digitsS) (.int .u8 13)).run Tryd.prog w = .ok (.int .u8 (hexd 13)) w := by kernel_rfl
theorem index9_14 (w : World) : (Instr.index 9 (.string digitsS) (.int .u8 14)).run Tryd.prog w = .ok (.int .u8 (hexd 14)) w := by kernel_rfl
theorem index9_15 (w : World) : (Instr.index 9 (.string digitsS) (.int .u8 15)).run Tryd.prog w = .ok (.int .u8 (hexd 15)) w := by kernel_rfl
theorem index9 (j : Int) (h0 : 0 ≤ j) (h1 : j < 16) (w : World) : (Instr.index 9 (.string digitsS) (.int .u8 j)).run Tryd.prog w = .ok (.int .u8 (hexd j)) w := by
  have h : j = 0 ∨ j = 1 ∨ j = 2 ∨ j = 3 ∨ j = 4 ∨ j = 5 ∨ j = 6 ∨ j = 7 ∨ j = 8 ∨ j = 9 ∨ j = 10 ∨ j = 11 ∨ j = 12 ∨ j = 13 ∨ j = 14 ∨ j = 15 := by omega
  rcases h with h | h | h | h | h | h | h | h | h | h | h | h | h | h | h | h <;> subst h
  · exact index9_0 w
  · exact index9_1 w
  · exact index9_2 w
  · exact index9_3 w
  · exact index9_4 w
  · exact index9_5 w
  · exact index9_6 w
  · exact index9_7 w
  · exact index9_8 w
  · exact index9_9 w
  · exact index9_10 w
  · exact index9_11 w
  · exact index9_12 w
  · exact index9_13 w
  · exact index9_14 w
  · exact index9_15 w

theorem exec_index9 {w : World} {o : Oper} {a : Act} {x y : Operand} {j : Int} (ho : o.op = .index 9 x y) (hx : a.eval x = .string digitsS) (hy : a.eval y = .int .u8 j) (h : (Instr.index 9 (.string digitsS) (.int .u8 j)).run Tryd.prog w = .ok (.int .u8 (hexd j)) w) :
    (execOp a.eval o).run Tryd.prog w = .ok (.value (.int .u8 (hexd j))) w := by
  unfold execOp
  simp only [ho, hx, hy, Sem.run_bind, Sem.run_pure, Result.andThen_ok, h]
theorem quo16 (x : Int) (h0 : 0 ≤ x) (h1 : x < 256) : IntKind.u8.wrap (x.tdiv 16) = x / 16 := by
  rw [Int.tdiv_eq_ediv_of_nonneg h0]
  simp [IntKind.wrap, IntKind.bits, IntKind.signed]
  omega
theorem rem16 (x : Int) (h0 : 0 ≤ x) : x.tmod 16 = x % 16 := Int.tmod_eq_emod_of_nonneg h0

set_option maxRecDepth 100000 in
set_option maxHeartbeats 1000000 in
theorem text_any (v : Value) (b : List Int) (w : World) (hn : b.length ≤ 1000) (hby : By b) (hi : In w v b) :
    Calls Tryd.prog 16 #[v] w fun e w' => e = .returned (.string (strOfNums (hexS b))) ∧ Below w.heap.size w w' := by
  obtain ⟨A, c, rfl, hc, hC⟩ := hi.came
  have HC := Aside0.mk hC
  have HN := Aside0.mk hn
  have HBY := Aside0.mk hby
  clear hC hi hn hc hby
  go_enter Tryd.func16, Tryd.ntmps16
  go_wp2
  go_loopw [4, 5] (fun u4 v5 wr => ∃ i : Nat, i ≤ b.length ∧ v5 = .int .i64 i ∧ Aside0 (Kd.R (Kd.int .u8) 5 wr w.heap.size (fun _ => True) u4 (hexS (b.take i))) ∧ Aside0 (Below w.heap.size w wr)) (fun v4 v5 _ => b.length - (intOf v5).toNat)
  case atStart => exact ⟨0, by omega, rfl, ⟨Kd.R_nil _ _ _ _ _⟩, ⟨Below.refl _ _⟩⟩
  case round =>
    obtain ⟨i, hi, rfl, HO0, HB0⟩ := hrel
    by_cases hlt : i < b.length
    · obtain ⟨ad, he, hx⟩ := Kd.at_int HC.out (i : Int) (by omega) (by omega)
      subst he
      rw [Int.toNat_natCast, rd_at] at hx
      have L17 : Aside0 (∀ w', Below w.heap.size w w' → w'.cell? (ad.add i) = some (.int .u8 (at' b i))) := ⟨fun w' h => (h.cell (World.block_lt_of_cell? w _ hx)).trans hx⟩
      have hb1 := HBY.out.get i
      have QUO := Aside0.mk (quo16 (at' b i) hb1.1 hb1.2)
      have REM := Aside0.mk (rem16 (at' b i) hb1.1)
      have IX1 := Aside0.mk (index9 (at' b i / 16) (by omega) (by omega))
      have IX2 := Aside0.mk (index9 (at' b i % 16) (by omega) (by omega))
      have P16 : Aside0 ((0 : Int) ≤ (i : Int)) := ⟨by omega⟩
      have Q16 : Aside0 ((i : Int) < (b.length : Int)) := ⟨by omega⟩
      have WS : Aside0 (wrap64 ((i : Int) + 1) = ((i + 1 : Nat) : Int)) := ⟨wrap_step (by have := HN.out; omega)⟩
      clear hx hb1
      have HO : Aside0 (Kd.R (Kd.int .u8) 5 wr.drew w.heap.size (fun _ => True) u4 (hexS (b.take i))) := ⟨Kd.R_drew HO0.out⟩
      have HB := HB0
      go_wp2
      refine start_ (n := 18) (S := fun w' => Below w.heap.size w w') (ds := []) #[false, false, false, false, false, false, false, false, false, false, false, false, false, false, false, false, false, false] (by kernel_rfl) rfl rfl (below_drew HB.out) (fun hHeld => ?_)
      generalize wr.drew = wD at hHeld HB HO ⊢
      refine pure_ (i := 0) (N := some 12) (v := ?_) (a' := ?_) #[true, false, false, false, false, false, false, false, false, false, false, false, false, false, false, false, false, false] rfl rfl (by kernel_rfl) (fun _ _ _ h => h) (Or.inl ⟨by rfl, ?_⟩) ?_ ?_
      rotate_left
      · intro w'
        go_simp
        with_reducible rfl
      rotate_left
      · simp only [Act.put, List.setIfInBounds_toArray, List.set_cons_zero, List.set_cons_succ, i64_w, i32_w]
        rfl
      refine pure_ (i := 1) (N := some 13) (v := ?_) (a' := ?_) #[true, true, false, false, false, false, false, false, false, false, false, false, false, false, false, false, false, false] rfl rfl (by kernel_rfl) (fun _ _ _ h => h) (Or.inl ⟨by rfl, ?_⟩) ?_ ?_
      rotate_left
      · intro w'
        go_simp
        with_reducible rfl
      rotate_left
      · simp only [Act.put, List.setIfInBounds_toArray, List.set_cons_zero, List.set_cons_succ, i64_w, i32_w]
        rfl
      refine pure_ (i := 2) (N := some 14) (v := ?_) (a' := ?_) #[true, true, true, false, false, false, false, false, false, false, false, false, false, false, false, false, false, false] rfl rfl (by kernel_rfl) (fun _ _ _ h => h) (Or.inl ⟨by rfl, ?_⟩) ?_ ?_
      rotate_left
      · intro w'
        go_simp
        with_reducible rfl
      rotate_left
      · simp only [Act.put, List.setIfInBounds_toArray, List.set_cons_zero, List.set_cons_succ, i64_w, i32_w]
        rfl
      refine pure_ (i := 3) (N := some 15) (v := ?_) (a' := ?_) #[true, true, true, true, false, false, false, false, false, false, false, false, false, false, false, false, false, false] rfl rfl (by kernel_rfl) (fun _ _ _ h => h) (Or.inl ⟨by rfl, ?_⟩) ?_ ?_
      rotate_left
      · intro w'
        go_simp
        with_reducible rfl
      rotate_left
      · simp only [Act.put, List.setIfInBounds_toArray, List.set_cons_zero, List.set_cons_succ, i64_w, i32_w]
        rfl
      refine pure_ (i := 4) (N := some 16) (v := .pointer (some (ad.add i))) (a' := ?_) #[true, true, true, true, true, false, false, false, false, false, false, false, false, false, false, false, false, false] rfl rfl (by kernel_rfl) (fun _ _ _ h => h) (Or.inl ⟨by rfl, ?_⟩) ?_ ?_
      · intro w'
        have k_ := P16.out
        have k2_ := Q16.out
        go_simp
      rotate_left
      · simp only [Act.put, List.setIfInBounds_toArray, List.set_cons_zero, List.set_cons_succ, i64_w, i32_w]
        rfl
      refine take_ (i := 5) (N := some 17) (v := .int .u8 (at' b i)) (a' := ?_) #[true, true, true, true, true, true, false, false, false, false, false, false, false, false, false, false, false, false] rfl rfl (by kernel_rfl) (fun _ _ _ h => h) (Or.inl ⟨by rfl, ?_⟩) hHeld ?_ ?_
      · intro w' hS'
        have f0_ := L17.out w' hS'
        go_simp
      rotate_left
      · simp only [Act.put, List.setIfInBounds_toArray, List.set_cons_zero, List.set_cons_succ, i64_w, i32_w]
        rfl
      refine pure_ (i := 6) (N := some 18) (v := .int .u8 (at' b i / 16)) (a' := ?_) #[true, true, true, true, true, true, true, false, false, false, false, false, false, false, false, false, false, false] rfl rfl (by kernel_rfl) (fun _ _ _ h => h) (Or.inl ⟨by rfl, ?_⟩) ?_ ?_
      · intro w'
        have k_ := QUO.out
        go_simp
        all_goals exact QUO.out
      rotate_left
      · simp only [Act.put, List.setIfInBounds_toArray, List.set_cons_zero, List.set_cons_succ, i64_w, i32_w]
        rfl
      refine pure_ (i := 7) (N := some 19) (v := .int .u8 (hexd (at' b i / 16))) (a' := ?_) #[true, true, true, true, true, true, true, true, false, false, false, false, false, false, false, false, false, false] rfl rfl (by kernel_rfl) (fun _ _ _ h => h) (Or.inl ⟨by rfl, ?_⟩) ?_ ?_
      · intro w'
        exact exec_index9 rfl rfl rfl (IX1.out w')
      rotate_left
      · simp only [Act.put, List.setIfInBounds_toArray, List.set_cons_zero, List.set_cons_succ, i64_w, i32_w]
        rfl
      refine pure_ (i := 8) (N := some 20) (v := ?_) (a' := ?_) #[true, true, true, true, true, true, true, true, true, false, false, false, false, false, false, false, false, false] rfl rfl (by kernel_rfl) (fun _ _ _ h => h) (Or.inl ⟨by rfl, ?_⟩) ?_ ?_
      rotate_left
      · intro w'
        go_simp
        with_reducible rfl
      rotate_left
      · simp only [Act.put, List.setIfInBounds_toArray, List.set_cons_zero, List.set_cons_succ, i64_w, i32_w]
        rfl
      refine pure_ (i := 9) (N := some 21) (v := ?_) (a' := ?_) #[true, true, true, true, true, true, true, true, true, true, false, false, false, false, false, false, false, false] rfl rfl (by kernel_rfl) (fun _ _ _ h => h) (Or.inl ⟨by rfl, ?_⟩) ?_ ?_
      rotate_left
      · intro w'
        go_simp
        with_reducible rfl
      rotate_left
      · simp only [Act.put, List.setIfInBounds_toArray, List.set_cons_zero, List.set_cons_succ, i64_w, i32_w]
        rfl
      refine pure_ (i := 10) (N := some 22) (v := ?_) (a' := ?_) #[true, true, true, true, true, true, true, true, true, true, true, false, false, false, false, false, false, false] rfl rfl (by kernel_rfl) (fun _ _ _ h => h) (Or.inl ⟨by rfl, ?_⟩) ?_ ?_
      rotate_left
      · intro w'
        go_simp
        with_reducible rfl
      rotate_left
      · simp only [Act.put, List.setIfInBounds_toArray, List.set_cons_zero, List.set_cons_succ, i64_w, i32_w]
        rfl
      refine pure_ (i := 11) (N := some 23) (v := .pointer (some (ad.add i))) (a' := ?_) #[true, true, true, true, true, true, true, true, true, true, true, true, false, false, false, false, false, false] rfl rfl (by kernel_rfl) (fun _ _ _ h => h) (Or.inl ⟨by rfl, ?_⟩) ?_ ?_
      · intro w'
        have k_ := P16.out
        have k2_ := Q16.out
        go_simp
      rotate_left
      · simp only [Act.put, List.setIfInBounds_toArray, List.set_cons_zero, List.set_cons_succ, i64_w, i32_w]
        rfl
      refine take_ (i := 12) (N := some 24) (v := .int .u8 (at' b i)) (a' := ?_) #[true, true, true, true, true, true, true, true, true, true, true, true, true, false, false, false, false, false] rfl rfl (by kernel_rfl) (fun _ _ _ h => h) (Or.inl ⟨by rfl, ?_⟩) hHeld ?_ ?_
      · intro w' hS'
        have f0_ := L17.out w' hS'
        go_simp
      rotate_left
      · simp only [Act.put, List.setIfInBounds_toArray, List.set_cons_zero, List.set_cons_succ, i64_w, i32_w]
        rfl
      refine pure_ (i := 13) (N := some 25) (v := .int .u8 (at' b i % 16)) (a' := ?_) #[true, true, true, true, true, true, true, true, true, true, true, true, true, true, false, false, false, false] rfl rfl (by kernel_rfl) (fun _ _ _ h => h) (Or.inl ⟨by rfl, ?_⟩) ?_ ?_
      · intro w'
        have k_ := REM.out
        go_simp
        all_goals exact REM.out
      rotate_left
      · simp only [Act.put, List.setIfInBounds_toArray, List.set_cons_zero, List.set_cons_succ, i64_w, i32_w]
        rfl
      refine pure_ (i := 14) (N := some 26) (v := .int .u8 (hexd (at' b i % 16))) (a' := ?_) #[true, true, true, true, true, true, true, true, true, true, true, true, true, true, true, false, false, false] rfl rfl (by kernel_rfl) (fun _ _ _ h => h) (Or.inl ⟨by rfl, ?_⟩) ?_ ?_
      · intro w'
        exact exec_index9 rfl rfl rfl (IX2.out w')
      rotate_left
      · simp only [Act.put, List.setIfInBounds_toArray, List.set_cons_zero, List.set_cons_succ, i64_w, i32_w]
        rfl
      refine one_ (i := 15) (N := some 27) #[true, true, true, true, true, true, true, true, true, true, true, true, true, true, true, true, false, false] rfl rfl (by kernel_rfl) (by decide) (fun K hK => ?_)
      refine value_ (w1 := (wD.alloc (.cells #[.int .u8 (hexd (at' b i / 16)), .int .u8 (hexd (at' b i % 16))] 5))) (v := .slice (some ⟨wD.heap.size, 0, none⟩) 2 2) (by rfl) rfl (by go_simp) ?_
      refine hK.out _ _ (below_alloc hHeld _) (fun hHeld => ?_)
      clear hK K
      refine norm_ (a' := ?_) ?_ ?_
      rotate_left
      · show Act.put _ (some 27) _ = _
        simp only [Act.put, List.setIfInBounds_toArray, List.set_cons_zero, List.set_cons_succ, i64_w, i32_w]
        rfl
      refine one_ (i := 16) (N := some 28) #[true, true, true, true, true, true, true, true, true, true, true, true, true, true, true, true, true, false] rfl rfl (by kernel_rfl) (by decide) (fun K hK => ?_)
      refine Kd.R_append_rows_step (Kd.int .u8) (w0 := w) w.heap.size (by rfl) (.tmp 12) (.tmp 27) 22 5 (.int .u8 0) 1 rfl Tryd.underlying22 info5 rfl (by decide) (by omega) u4 (hexS (b.take i)) [hexd (at' b i / 16), hexd (at' b i % 16)] _ _ _ (fun _ => True) (fun _ => False) rfl rfl ?aO ?aR (fun _ _ h => h) (fun _ h => h.elim) ?aF ?aB ?aS ?aL ?_
      (case aR => exact C_new wD [hexd (at' b i / 16), hexd (at' b i % 16)] (by simp))
      (case aB => exact hHeld)
      (case aF => exact (fun _ _ => trivial))
      (case aO => exact Kd.R_alloc HO.out _)
      (case aS => exact below_size hHeld)
      (case aL => have h1 := HN.out; have h2 := length_hexS (b.take i); rw [List.length_take] at h2; omega)
      intro v28 w28 ho hb _ _
      have HO28 : Aside0 (Kd.R (Kd.int .u8) 5 w28 w.heap.size (fun _ => True) v28 (hexS (b.take (i + 1)))) := ⟨by rw [hex_step b i hlt]; exact ho⟩
      clear ho
      refine hK.out _ _ hb (fun hHeld => ?_)
      clear hK K
      refine norm_ (a' := ?_) ?_ ?_
      rotate_left
      · show Act.put _ (some 28) _ = _
        simp only [Act.put, List.setIfInBounds_toArray, List.set_cons_zero, List.set_cons_succ, i64_w, i32_w]
        rfl
      refine pure_ (i := 17) (N := some 4) (v := ?_) (a' := ?_) #[true, true, true, true, true, true, true, true, true, true, true, true, true, true, true, true, true, true] rfl rfl (by kernel_rfl) (fun _ _ _ h => h) (Or.inl ⟨by rfl, ?_⟩) ?_ ?_
      rotate_left
      · intro w'
        go_simp
        with_reducible rfl
      rotate_left
      · simp only [Act.put, List.setIfInBounds_toArray, List.set_cons_zero, List.set_cons_succ, i64_w, i32_w]
        rfl
      refine done_ (by kernel_rfl) ?_
      go_wp2
      go_roundw
      case rel => exact ⟨i + 1, by omega, by rw [WS.out], HO28, ⟨hHeld⟩⟩
      case measure => rw [WS.out]; simp [intOf]; omega
    · obtain rfl : i = b.length := by omega
      rw [List.take_length] at HO0
      have hcv := own_string (P := Tryd.prog) Tryd.underlying22 Tryd.underlying5 Tryd.underlying9 (Kd.own_of_R HO0.out)
      go_wp2
      go_ret
      exact ⟨rfl, HB0.out⟩
end Go.Proofs.YtfcadniglmhclaaDoor.S
