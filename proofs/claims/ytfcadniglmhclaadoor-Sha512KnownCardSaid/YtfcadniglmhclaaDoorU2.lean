/-
  The walk of Sha512Sums (function 4).
-/
import Derived.Test.YtfcadniglmhclaaDoorU1
namespace Go.Proofs.YtfcadniglmhclaaDoor.S
open Go.RowKit Go.Proofs.YtfcadniglmhclaaDoorW.PrintWords Go.Proofs.YtfcadniglmhclaaDoorW.PrintLast Go.Proofs.YtfcadniglmhclaaDoorW.PrintMore
open Go.Proofs.YtfcadniglmhclaaDoor.R
set_option linter.unusedSimpArgs false
set_option linter.unusedVariables false

/-- A slice that reads so makes this string. -/
theorem In.string {w : World} {v : Value} {b : List Int} (h : In w v b) : (convert 22 9 v).run Tryd.prog w = .ok (.string (strOfNums b)) w := by
  obtain ⟨A, c, rfl, _, hC⟩ := h.came
  exact Kd.C_string Tryd.underlying22 Tryd.underlying5 Tryd.underlying9 hC

set_option maxRecDepth 100000 in
set_option maxHeartbeats 1000000 in
theorem sums_any (hw : Works) (v : Value) (b : List Int) (w : World) (hby : By b) (hi : In w v b) (hG : Gl w) :
    Calls Tryd.prog 4 #[v] w fun e w' => e = .returned (.bool true) ∧ Below w.heap.size w w' := by
  have hz := zero34b
  have HW := Aside0.mk hw
  have HG := Aside0.mk hG
  have HI := Aside0.mk hi
  obtain ⟨d, hd⟩ : ∃ d, d = b.take 2000 := ⟨_, rfl⟩
  have HCUT : Aside0 (Calls Tryd.prog 8 #[v] w fun e w' => ∃ v', e = .returned v' ∧ In w v' d ∧ w = w') := ⟨by rw [hd]; exact cut_any w v b hi⟩
  have HD : Aside0 (d.length ≤ 2000) := ⟨by rw [hd, List.length_take]; omega⟩
  have HD1 : Aside0 (d.length ≤ 1000000) := ⟨by have := HD.out; omega⟩
  have HBY : Aside0 (By d) := ⟨by rw [hd]; exact hby.take _⟩
  clear hw hG hi hd hby
  go_enter Tryd.func4, Tryd.ntmps4
  go_wp2_with (first | (go_at_call 8; refine HCUT.out.mono ?_; rintro e w' ⟨v1, rfl, hi1, rfl⟩; obtain ⟨A1, c1, rfl, hc1, hC1⟩ := hi1.came; have I1 := Aside0.mk hi1; have C1 := Aside0.mk hC1; clear hi1 hC1 hc1) | ((with_reducible refine gate_builtin (b := .append) (xs := #[.tmp 7, .tmp 8]) rfl ?_); at_builtin; refine Kd.R_append_rows (Kd.int .u8) (w0 := w) w.heap.size rfl (.tmp 7) (.tmp 8) 22 5 (.int .u8 0) 1 rfl Tryd.underlying22 info5 rfl (by decide) (by omega) (.slice (some ⟨w.heap.size, 0, none⟩) 0 0) ([] : List Int) d _ _ _ (fun _ => True) (fun _ => False) rfl rfl ?aO ?aR (fun _ _ h => h) (fun _ h => h.elim) ?aF ?aB ?aS ?aL ?_; (case aR => exact Kd.C_alloc C1.out _); (case aB => exact below_alloc (Below.refl _ _) _); (case aF => exact (fun _ _ => trivial)); (case aO => exact R_empty w); (case aS => simp); (case aL => have := HD.out; simp; omega); intro v2 w1 ho hb _ _; have I2 : Aside0 (In w1 v2 d) := ⟨In_of_R (by simpa using ho)⟩; have B1 := Aside0.mk hb; clear ho hb) | (go_at_call 14; refine (sum_any _ d _ HD1.out HBY.out I2.out (HG.out.below B1.out)).mono ?_; rintro e w2 ⟨rfl, hb⟩; have B2 := Aside0.mk hb; clear hb) | (refine alloc_array rfl 34 rfl (bts Z64l) zero34b ?_) | (refine store_bytes rfl 34 (.tmp 4) (.tmp 11) rfl w2.heap.size (sumS d) Z64l rfl rfl 34 (Bb.newAt w2 34 Z64l _ rfl) (by rw [length_sumS]; exact info34) (by rw [length_sumS]; rfl) ?_; intro w3 hb3 hk3 HL3))
  have B3 : Aside0 (Below w2.heap.size w2 w3) := ⟨HL3.out.below (Nat.le_refl _) (below_alloc (Below.refl _ _) _)⟩
  have G2 : Aside0 (Gl w2) := ⟨HG.out.below (below_step B1.out B2.out)⟩
  have BW : Aside0 (Below w.heap.size w w3) := ⟨below_step (below_step B1.out B2.out) B3.out⟩
  have HG3 : Aside0 (Gl w3) := ⟨HG.out.below BW.out⟩
  have I23 : Aside0 (In w3 v2 d) := ⟨(I2.out.below B2.out).below B3.out⟩
  have I13 : Aside0 (In w3 (.slice A1 d.length c1) d) := ⟨I1.out.below BW.out⟩
  have K12 : Aside0 (∀ w', Below w3.heap.size w3 w' → (convert 22 9 (.slice (some ⟨w2.heap.size, 0, none⟩) 64 64)).run Tryd.prog w' = .ok (.string (strOfNums (sumS d))) w') := ⟨fun w' h => by
    have h1 := (hb3.out.below h).reads (by rw [length_sumS]; omega) 0 (Nat.zero_le _)
    rw [length_sumS] at h1
    exact Kd.C_string Tryd.underlying22 Tryd.underlying5 Tryd.underlying9 h1⟩
  have K19 : Aside0 (∀ w', Below w3.heap.size w3 w' → (convert 22 9 v2).run Tryd.prog w' = .ok (.string (strOfNums d)) w') := ⟨fun w' h => (I23.out.below h).string⟩
  have K21 : Aside0 (∀ w', Below w3.heap.size w3 w' → (convert 22 9 (.slice A1 d.length c1)).run Tryd.prog w' = .ok (.string (strOfNums d)) w') := ⟨fun w' h => (I13.out.below h).string⟩
  refine start_ (n := 17) (S := fun w' => Below w3.heap.size w3 w') (ds := []) #[false, false, false, false, false, false, false, false, false, false, false, false, false, false, false, false, false] (by kernel_rfl) rfl rfl (below_drew (Below.refl _ _)) (fun hHeld => ?_)
  generalize w3.drew = wD at hHeld  ⊢
  refine pure_ (i := 0) (N := some 12) (v := .slice (some ⟨w2.heap.size, 0, none⟩) 64 64) (a' := ?_) #[true, false, false, false, false, false, false, false, false, false, false, false, false, false, false, false, false] rfl rfl (by kernel_rfl) (fun _ _ _ h => h) (Or.inl ⟨by rfl, ?_⟩) ?_ ?_
  · intro w'
    go_simp
  rotate_left
  · simp only [Act.put, List.setIfInBounds_toArray, List.set_cons_zero, List.set_cons_succ, i64_w, i32_w]
    rfl
  refine take_ (i := 1) (N := some 13) (v := .string (strOfNums (sumS d))) (a' := ?_) #[true, true, false, false, false, false, false, false, false, false, false, false, false, false, false, false, false] rfl rfl (by kernel_rfl) (fun _ _ _ h => h) (Or.inl ⟨by rfl, ?_⟩) hHeld ?_ ?_
  · intro w' hS'
    have f0_ := K12.out w' hS'
    go_simp
    all_goals exact f0_
  rotate_left
  · simp only [Act.put, List.setIfInBounds_toArray, List.set_cons_zero, List.set_cons_succ, i64_w, i32_w]
    rfl
  refine pure_ (i := 2) (N := some 14) (v := ?_) (a' := ?_) #[true, true, true, false, false, false, false, false, false, false, false, false, false, false, false, false, false] rfl rfl (by kernel_rfl) (fun _ _ _ h => h) (Or.inl ⟨by rfl, ?_⟩) ?_ ?_
  rotate_left
  · intro w'
    go_simp
    with_reducible rfl
  rotate_left
  · simp only [Act.put, List.setIfInBounds_toArray, List.set_cons_zero, List.set_cons_succ, i64_w, i32_w]
    rfl
  refine one_ (i := 3) (N := some 15) #[true, true, true, true, false, false, false, false, false, false, false, false, false, false, false, false, false] rfl rfl (by kernel_rfl) (by decide) (fun K hK => ?_)
  refine goes_ Tryd.func15 (by kernel_rfl) rfl #[.slice A1 d.length c1] (by rfl) rfl rfl (by (try simp only [List.map_toArray, List.map_cons, List.map_nil]); first | done | rfl) ?_
  refine Calls.mono (refsum_any _ d wD HD1.out HBY.out (I13.out.below hHeld)) ?_
  rintro e w15 ⟨A15, c15, rfl, hc15, hC15, hb15⟩
  refine ⟨_, rfl, ?_⟩
  refine hK.out _ _ (below_step hHeld hb15) (fun hHeld => ?_)
  clear hK K
  refine norm_ (a' := ?_) ?_ ?_
  rotate_left
  · show Act.put _ (some 15) _ = _
    simp only [Act.put, List.setIfInBounds_toArray, List.set_cons_zero, List.set_cons_succ, i64_w, i32_w]
    rfl
  refine one_ (i := 4) (N := some 16) #[true, true, true, true, true, false, false, false, false, false, false, false, false, false, false, false, false] rfl rfl (by kernel_rfl) (by decide) (fun K hK => ?_)
  refine value_ (w1 := w15) (v := .string (strOfNums (sumS d))) (by rfl) rfl (by have k_ := Kd.C_string (P := Tryd.prog) (c := c15) Tryd.underlying22 Tryd.underlying5 Tryd.underlying9 hC15; go_simp) ?_
  refine hK.out _ _ hHeld (fun hHeld => ?_)
  clear hK K
  refine norm_ (a' := ?_) ?_ ?_
  rotate_left
  · show Act.put _ (some 16) _ = _
    simp only [Act.put, List.setIfInBounds_toArray, List.set_cons_zero, List.set_cons_succ, i64_w, i32_w]
    rfl
  refine pure_ (i := 5) (N := some 17) (v := .bool true) (a' := ?_) #[true, true, true, true, true, true, false, false, false, false, false, false, false, false, false, false, false] rfl rfl (by kernel_rfl) (fun _ _ _ h => h) (Or.inl ⟨by rfl, ?_⟩) ?_ ?_
  · intro w'
    go_simp
  rotate_left
  · simp only [Act.put, List.setIfInBounds_toArray, List.set_cons_zero, List.set_cons_succ, i64_w, i32_w]
    rfl
  refine pure_ (i := 6) (N := some 18) (v := ?_) (a' := ?_) #[true, true, true, true, true, true, true, false, false, false, false, false, false, false, false, false, false] rfl rfl (by kernel_rfl) (fun _ _ _ h => h) (Or.inl ⟨by rfl, ?_⟩) ?_ ?_
  rotate_left
  · intro w'
    go_simp
    with_reducible rfl
  rotate_left
  · simp only [Act.put, List.setIfInBounds_toArray, List.set_cons_zero, List.set_cons_succ, i64_w, i32_w]
    rfl
  refine pure_ (i := 7) (N := some 19) (v := ?_) (a' := ?_) #[true, true, true, true, true, true, true, true, false, false, false, false, false, false, false, false, false] rfl rfl (by kernel_rfl) (fun _ _ _ h => h) (Or.inl ⟨by rfl, ?_⟩) ?_ ?_
  rotate_left
  · intro w'
    go_simp
    with_reducible rfl
  rotate_left
  · simp only [Act.put, List.setIfInBounds_toArray, List.set_cons_zero, List.set_cons_succ, i64_w, i32_w]
    rfl
  refine take_ (i := 8) (N := some 20) (v := .string (strOfNums d)) (a' := ?_) #[true, true, true, true, true, true, true, true, true, false, false, false, false, false, false, false, false] rfl rfl (by kernel_rfl) (fun _ _ _ h => h) (Or.inl ⟨by rfl, ?_⟩) hHeld ?_ ?_
  · intro w' hS'
    have f0_ := K19.out w' hS'
    go_simp
    all_goals exact f0_
  rotate_left
  · simp only [Act.put, List.setIfInBounds_toArray, List.set_cons_zero, List.set_cons_succ, i64_w, i32_w]
    rfl
  refine pure_ (i := 9) (N := some 21) (v := ?_) (a' := ?_) #[true, true, true, true, true, true, true, true, true, true, false, false, false, false, false, false, false] rfl rfl (by kernel_rfl) (fun _ _ _ h => h) (Or.inl ⟨by rfl, ?_⟩) ?_ ?_
  rotate_left
  · intro w'
    go_simp
    with_reducible rfl
  rotate_left
  · simp only [Act.put, List.setIfInBounds_toArray, List.set_cons_zero, List.set_cons_succ, i64_w, i32_w]
    rfl
  refine take_ (i := 10) (N := some 22) (v := .string (strOfNums d)) (a' := ?_) #[true, true, true, true, true, true, true, true, true, true, true, false, false, false, false, false, false] rfl rfl (by kernel_rfl) (fun _ _ _ h => h) (Or.inl ⟨by rfl, ?_⟩) hHeld ?_ ?_
  · intro w' hS'
    have f0_ := K21.out w' hS'
    go_simp
    all_goals exact f0_
  rotate_left
  · simp only [Act.put, List.setIfInBounds_toArray, List.set_cons_zero, List.set_cons_succ, i64_w, i32_w]
    rfl
  refine pure_ (i := 11) (N := some 23) (v := .bool true) (a' := ?_) #[true, true, true, true, true, true, true, true, true, true, true, true, false, false, false, false, false] rfl rfl (by kernel_rfl) (fun _ _ _ h => h) (Or.inl ⟨by rfl, ?_⟩) ?_ ?_
  · intro w'
    go_simp
  rotate_left
  · simp only [Act.put, List.setIfInBounds_toArray, List.set_cons_zero, List.set_cons_succ, i64_w, i32_w]
    rfl
  refine pure_ (i := 12) (N := some 24) (v := .bool true) (a' := ?_) #[true, true, true, true, true, true, true, true, true, true, true, true, true, false, false, false, false] rfl rfl (by kernel_rfl) (fun _ _ _ h => h) (Or.inl ⟨by rfl, ?_⟩) ?_ ?_
  · intro w'
    go_simp
  rotate_left
  · simp only [Act.put, List.setIfInBounds_toArray, List.set_cons_zero, List.set_cons_succ, i64_w, i32_w]
    rfl
  refine pure_ (i := 13) (N := some 25) (v := ?_) (a' := ?_) #[true, true, true, true, true, true, true, true, true, true, true, true, true, true, false, false, false] rfl rfl (by kernel_rfl) (fun _ _ _ h => h) (Or.inl ⟨by rfl, ?_⟩) ?_ ?_
  rotate_left
  · intro w'
    go_simp
    with_reducible rfl
  rotate_left
  · simp only [Act.put, List.setIfInBounds_toArray, List.set_cons_zero, List.set_cons_succ, i64_w, i32_w]
    rfl
  refine one_ (i := 14) (N := some 26) #[true, true, true, true, true, true, true, true, true, true, true, true, true, true, true, false, false] rfl rfl (by kernel_rfl) (by decide) (fun K hK => ?_)
  refine goes_ Tryd.func13 (by kernel_rfl) rfl #[] (by rfl) rfl rfl (by (try simp only [List.map_toArray, List.map_cons, List.map_nil]); first | done | rfl) ?_
  refine Calls.mono (works_any HW.out _ (HG3.out.below hHeld)) ?_
  rintro e w26 ⟨rfl, hb26⟩
  refine ⟨_, rfl, ?_⟩
  refine hK.out _ _ (below_step hHeld hb26) (fun hHeld => ?_)
  clear hK K
  refine norm_ (a' := ?_) ?_ ?_
  rotate_left
  · show Act.put _ (some 26) _ = _
    simp only [Act.put, List.setIfInBounds_toArray, List.set_cons_zero, List.set_cons_succ, i64_w, i32_w]
    rfl
  refine pure_ (i := 15) (N := some 27) (v := .bool true) (a' := ?_) #[true, true, true, true, true, true, true, true, true, true, true, true, true, true, true, true, false] rfl rfl (by kernel_rfl) (fun _ _ _ h => h) (Or.inl ⟨by rfl, ?_⟩) ?_ ?_
  · intro w'
    go_simp
  rotate_left
  · simp only [Act.put, List.setIfInBounds_toArray, List.set_cons_zero, List.set_cons_succ, i64_w, i32_w]
    rfl
  refine pure_ (i := 16) (N := some 2) (v := ?_) (a' := ?_) #[true, true, true, true, true, true, true, true, true, true, true, true, true, true, true, true, true] rfl rfl (by kernel_rfl) (fun _ _ _ h => h) (Or.inl ⟨by rfl, ?_⟩) ?_ ?_
  rotate_left
  · intro w'
    go_simp
    with_reducible rfl
  rotate_left
  · simp only [Act.put, List.setIfInBounds_toArray, List.set_cons_zero, List.set_cons_succ, i64_w, i32_w]
    rfl
  refine done_ (by kernel_rfl) ?_
  go_wp2
  go_ret
  exact ⟨rfl, below_step BW.out hHeld⟩
end Go.Proofs.YtfcadniglmhclaaDoor.S
