/-
  The walk of Sha512Shorts (function 3).
-/
import Derived.Test.YtfcadniglmhclaaDoorU3
import Derived.Test.YtfcadniglmhclaaDoorV1
namespace Go.Proofs.YtfcadniglmhclaaDoor.S
open Go.RowKit Go.Proofs.YtfcadniglmhclaaDoorW.PrintWords Go.Proofs.YtfcadniglmhclaaDoorW.PrintLast Go.Proofs.YtfcadniglmhclaaDoorW.PrintMore
open Go.Proofs.YtfcadniglmhclaaDoor.R
set_option linter.unusedSimpArgs false
set_option linter.unusedVariables false

/-- A row of bytes cut up to a place. -/
theorem In.cut_upto {w : World} {A : Option Addr} {c k : Nat} {b : List Int} (h : In w (.slice A b.length c) b) (hk : k ≤ b.length) :
    (∀ W : World, (Instr.slice 22 (.slice A b.length c) none (some (.int .i64 (k : Int))) none).run Tryd.prog W = .ok (.slice A k c) W) ∧
      In w (.slice A k c) (b.take k) := by
  obtain ⟨i0, hi0, _, hsz0, _⟩ := info_parts info5
  have hl : (b.take k).length = k := by rw [List.length_take]; omega
  rcases h with ⟨hv, rfl⟩ | ⟨a0, c0, hv, hc, hC⟩
  · injection hv with hA _ hc
    subst hA
    subst hc
    have hk0 : k = 0 := by simpa using hk
    subst hk0
    have h1 := Go.Proofs.YtfcadniglmhclaaDoorW.PrintWords.cut_to (P := Tryd.prog) 22 5 .i64 Tryd.underlying22 hi0 none 0 0 ((0 : Nat) : Int) (by omega) (by omega) (by omega)
    exact ⟨fun W => h1 W, .inl ⟨rfl, rfl⟩⟩
  · injection hv with hA _ hc0
    subst hA
    subst hc0
    have h1 := Go.Proofs.YtfcadniglmhclaaDoorW.PrintWords.cut_to (P := Tryd.prog) 22 5 .i64 Tryd.underlying22 hi0 (some a0) b.length c (k : Int) (by omega) (by omega) hc
    rw [Int.toNat_natCast] at h1
    exact ⟨h1, .inr ⟨a0, c, by rw [hl], by omega, Kd.C_take hC hk⟩⟩
def tailS : List Int := [1, 2, 3]
theorem C_new (w : World) (l : List Int) (hm : l.length ≤ 1000000) : Kd.C (Kd.int .u8) (w.alloc (.cells (bts l) 5)) (some ⟨w.heap.size, 0, none⟩) l.length l := C_const w l (0, 0) hm

set_option maxRecDepth 100000 in
set_option maxHeartbeats 1000000 in
theorem shorts_any (hw : Works) (v : Value) (b : List Int) (w : World) (hby : By b) (hi : In w v b) (hG0 : Gl w) :
    Calls Tryd.prog 3 #[v] w fun e w' => e = .returned (.bool true) ∧ Below w.heap.size w w' := by
  have HW := Aside0.mk hw
  have HG0 := Aside0.mk hG0
  obtain ⟨d, hd⟩ : ∃ d, d = b.take 2000 := ⟨_, rfl⟩
  obtain ⟨x, hx⟩ : ∃ x, x = d ++ tailS := ⟨_, rfl⟩
  obtain ⟨F, hF⟩ : ∃ F, F = WS := ⟨_, rfl⟩
  have HFL : Aside0 (F.length = 8) := ⟨by rw [hF]; exact length_WS⟩
  have HX := Aside0.mk hx
  have HXL : Aside0 (x.length = d.length + 3) := ⟨by rw [hx, List.length_append]; rfl⟩
  have HXD : Aside0 (x.take d.length = d) := ⟨by rw [hx, List.take_left]⟩
  have HX1 : Aside0 (at' x d.length = 1) := ⟨by rw [hx]; simp [at', tailS, List.getD_eq_getElem?_getD]⟩
  have HCUT : Aside0 (Calls Tryd.prog 8 #[v] w fun e w' => ∃ v', e = .returned v' ∧ In w v' d ∧ w = w') := ⟨by rw [hd]; exact cut_any w v b hi⟩
  have HD : Aside0 (d.length ≤ 2000) := ⟨by rw [hd, List.length_take]; omega⟩
  have HD1 : Aside0 (d.length ≤ 1000000) := ⟨by have := HD.out; omega⟩
  have HBY : Aside0 (By d) := ⟨by rw [hd]; exact hby.take _⟩
  have HWDS : Aside0 (∀ w, Gl w → Calls Tryd.prog 10 #[] w fun e w' => e = .returned (.agg (wds F)) ∧ Below w.heap.size w w') := ⟨by rw [hF]; exact words_any⟩
  have HRW : Aside0 (∀ w, Calls Tryd.prog 11 #[] w fun e w' => ∃ A c, e = .returned (.slice A F.length c) ∧ F.length ≤ c ∧ Kd.C (Kd.int .u64) w' A F.length F ∧ Below w.heap.size w w') := ⟨by rw [hF, WS_eq]; exact refwords_any⟩
  have HREF : Aside0 (∀ {A1 : Option Addr} {c1 : Nat} (w : World), In w (.slice A1 d.length c1) d → Calls Tryd.prog 12 #[.slice A1 d.length c1] w fun e w' => e = .returned (.agg (bts (sum256S d))) ∧ Below w.heap.size w w') := ⟨fun w h => by rw [sum256_ref]; exact refsum256_any _ d w HD1.out HBY.out h⟩
  clear hw hG0 hi hd hx hF hby
  go_enter Tryd.func3, Tryd.ntmps3
  go_wp2_with (first | (go_at_call 8; refine HCUT.out.mono ?_; rintro e w' ⟨v1, rfl, hi1, rfl⟩; obtain ⟨A1, c1, rfl, hc1, hC1⟩ := hi1.came; have I1 := Aside0.mk hi1; have C1 := Aside0.mk hC1; clear hi1 hC1 hc1) | ((with_reducible refine gate_builtin (b := .append) (xs := #[.tmp 10, .tmp 11]) rfl ?_); at_builtin; refine Kd.R_append_rows (Kd.int .u8) (w0 := w) w.heap.size rfl (.tmp 10) (.tmp 11) 22 5 (.int .u8 0) 1 rfl Tryd.underlying22 info5 rfl (by decide) (by omega) (.slice (some ⟨w.heap.size, 0, none⟩) 0 0) ([] : List Int) d _ _ _ (fun _ => True) (fun _ => False) rfl rfl ?aO ?aR (fun _ _ h => h) (fun _ h => h.elim) ?aF ?aB ?aS ?aL ?_; (case aR => exact Kd.C_alloc C1.out _); (case aB => exact below_alloc (Below.refl _ _) _); (case aF => exact (fun _ _ => trivial)); (case aO => exact R_empty w); (case aS => simp); (case aL => have := HD.out; simp; omega); intro v5 w5 ho hb _ _; have O5 : Aside0 (Kd.R (Kd.int .u8) 5 w5 w.heap.size (fun _ => True) v5 d) := ⟨by simpa using ho⟩; have B5 := Aside0.mk hb; clear ho hb) | ((with_reducible refine gate_builtin (b := .append) (xs := #[.tmp 12, .tmp 13]) rfl ?_); at_builtin; refine Kd.R_append_rows (Kd.int .u8) (w0 := w) w.heap.size rfl (.tmp 12) (.tmp 13) 22 5 (.int .u8 0) 1 rfl Tryd.underlying22 info5 rfl (by decide) (by omega) v5 d tailS _ _ _ (fun _ => True) (fun _ => False) rfl rfl ?aO ?aR (fun _ _ h => h) (fun _ h => h.elim) ?aF ?aB ?aS ?aL ?_; (case aR => exact C_new w5 tailS (by decide)); (case aB => exact below_alloc B5.out _); (case aF => exact (fun _ _ => trivial)); (case aO => exact Kd.R_alloc O5.out _); (case aS => have := below_size B5.out; simp; omega); (case aL => have := HD.out; simp; omega); intro v6 w6 ho hb _ _; have I6' : In w6 v6 x := (by rw [HX.out]; exact In_of_R ho); obtain ⟨A7, c7, rfl, _, _⟩ := I6'.came; have I6 := Aside0.mk I6'; have B6 : Aside0 (Below w.heap.size w w6) := ⟨hb⟩; obtain ⟨hc18, hi18⟩ := In.cut_upto I6' (k := d.length) (by rw [HXL.out]; omega); rw [HXD.out] at hi18; have K18 := Aside0.mk hc18; have I18 := Aside0.mk hi18; clear ho hb O5 B5 I6' hi18) | (go_at_call 9; refine (sum256_any (.slice A7 d.length c7) d w6 HD1.out HBY.out I18.out (HG0.out.below B6.out)).mono ?_; rintro e w7 ⟨rfl, hb⟩; have B7 := Aside0.mk hb; clear hb) | (refine alloc_array rfl 25 rfl (bts Z32l) zero25 ?_) | (refine store_bytes rfl 25 (.tmp 4) (.tmp 19) rfl w7.heap.size (sum256S d) Z32l rfl rfl 25 (Bb.newAt w7 25 Z32l _ rfl) (by rw [length_sum256S]; exact info25) (by rw [length_sum256S]; rfl) ?_; intro w8 hb8 hk8 HL8; have B8 : Aside0 (Below w6.heap.size w6 w8) := ⟨HL8.out.below (below_size B7.out) (below_alloc B7.out _)⟩; have R8 : Aside0 (Bb w8 w7.heap.size 25 (sum256S d)) := ⟨hb8.out⟩; clear hb8 hk8 HL8 B7) | (go_at_call 10; refine (HWDS.out w8 (HG0.out.below (below_step B6.out B8.out))).mono ?_; rintro e w9 ⟨rfl, hb⟩; have B9 := Aside0.mk (below_step B8.out hb); have R9 : Aside0 (Bb w9 w7.heap.size 25 (sum256S d)) := ⟨R8.out.below hb⟩; clear hb B8 R8) | (refine alloc_array rfl 28 rfl (wds Z8) zero28 ?_) | (refine store_words rfl 28 (.tmp 5) (.tmp 20) rfl w9.heap.size F Z8 rfl rfl 28 (Wb.newAt w9 28 Z8 _ rfl) (by rw [HFL.out]; exact info28) (by rw [HFL.out]; rfl) ?_; intro w10 hb10 HL10; have B10 : Aside0 (Below w6.heap.size w6 w10) := ⟨HL10.out.below (below_size B9.out) (below_alloc B9.out _)⟩; have R10 : Aside0 (Bb w10 w7.heap.size 25 (sum256S d)) := ⟨R9.out.below (HL10.out.below (Nat.le_refl _) (below_alloc (Below.refl _ _) _))⟩; have V10 : Aside0 (Wb w10 w9.heap.size 28 F) := ⟨hb10.out⟩; clear hb10 HL10 B9 R9) | (go_at_call 11; refine (HRW.out w10).mono ?_; rintro e w11 ⟨A11, c11, rfl, hc, hC, hb⟩; have C11 := Aside0.mk hC; have L11 := Aside0.mk hc; have B11 : Aside0 (Below w6.heap.size w6 w11) := ⟨below_step B10.out hb⟩; have R11 : Aside0 (Bb w11 w7.heap.size 25 (sum256S d)) := ⟨R10.out.below hb⟩; have V11 : Aside0 (Wb w11 w9.heap.size 28 F) := ⟨V10.out.below hb⟩; clear hb hc hC B10 R10 V10))
  have K18' := K18
  clear hc18
  go_loopw [7] (fun v7 wr => ∃ i : Nat, i ≤ 8 ∧ v7 = .int .i64 i ∧ Aside0 (Below w11.heap.size w11 wr)) (fun v7 _ => 8 - (intOf v7).toNat)
  case atStart => exact ⟨0, by omega, rfl, ⟨Below.refl _ _⟩⟩
  case round =>
    obtain ⟨i, hi, rfl, HB⟩ := hrel
    by_cases hlt : i < 8
    · have ca := (V11.out.below HB.out).cell i (by rw [HFL.out]; exact hlt)
      obtain ⟨ad, he, hx2⟩ := Kd.at_int (Kd.C_below C11.out HB.out) (i : Int) (by omega) (by rw [HFL.out]; omega)
      subst he
      rw [Int.toNat_natCast, rd_at] at hx2
      have hF8 : (F.length : Int) = 8 := by rw [HFL.out]; rfl
      go_wp2
      go_quiet (fail)
      go_wp2
      go_roundw
      case rel => exact ⟨i + 1, by omega, by go_num, ⟨pw_below_drewN HB.out _⟩⟩
      case measure => simp [intOf]; omega
    · obtain rfl : i = 8 := by omega
      have BW : Aside0 (Below w.heap.size w wr) := ⟨below_step B6.out (below_step B11.out HB.out)⟩
      have B6R : Aside0 (Below w6.heap.size w6 wr) := ⟨below_step B11.out HB.out⟩
      have HG : Aside0 (Gl wr) := ⟨HG0.out.below BW.out⟩
      have J1 : Aside0 (In wr (.slice A1 d.length c1) d) := ⟨I1.out.below BW.out⟩
      have J7 : Aside0 (In wr (.slice A7 d.length c7) d) := ⟨I18.out.below B6R.out⟩
      have M4 : Aside0 (Bb wr w7.heap.size 25 (sum256S d)) := ⟨R11.out.below HB.out⟩
      obtain ⟨_, _, he0, _, hC7⟩ := (I6.out.below B6R.out).came
      injection he0 with hA0 _ hc0
      subst hA0
      subst hc0
      obtain ⟨ad7, he7, hx7⟩ := Kd.at_int hC7 (d.length : Int) (by omega) (by rw [HXL.out]; omega)
      subst he7
      rw [Int.toNat_natCast, rd_at, HX1.out] at hx7
      have L4 : Aside0 (∀ w', Below wr.heap.size wr w' → (loadVar 25 ⟨w7.heap.size, 0, none⟩).run Tryd.prog w' = .ok (.agg (bts (sum256S d))) w') := ⟨fun w' h => (M4.out.below h).loads25 (length_sum256S d)⟩
      have K43 : Aside0 (∀ w', Below wr.heap.size wr w' → (convert 22 9 (.slice (some ad7) d.length c7)).run Tryd.prog w' = .ok (.string (strOfNums d)) w') := ⟨fun w' h => (J7.out.below h).string⟩
      have K45 : Aside0 (∀ w', Below wr.heap.size wr w' → (convert 22 9 (.slice A1 d.length c1)).run Tryd.prog w' = .ok (.string (strOfNums d)) w') := ⟨fun w' h => (J1.out.below h).string⟩
      have L52 : Aside0 (∀ w', Below wr.heap.size wr w' → w'.cell? (ad7.add d.length) = some (.int .u8 1)) := ⟨fun w' h => (h.cell (World.block_lt_of_cell? wr _ hx7)).trans hx7⟩
      have P52 : Aside0 ((0 : Int) ≤ (d.length : Int)) := ⟨by omega⟩
      have Q52 : Aside0 ((d.length : Int) < (x.length : Int)) := ⟨by rw [HXL.out]; omega⟩
      clear hx7 hC7 hlt I1 C1 I6 I18 B6 B11 B6R C11 L11 R11 V11 HB J7 M4
      go_wp2
      refine start_ (n := 26) (S := fun w' => Below wr.heap.size wr w') (ds := []) #[false, false, false, false, false, false, false, false, false, false, false, false, false, false, false, false, false, false, false, false, false, false, false, false, false, false] (by kernel_rfl) rfl rfl (below_drew (Below.refl _ _)) (fun hHeld => ?_)
      generalize wr.drew = wD at hHeld  ⊢
      refine take_ (i := 0) (N := some 34) (v := .agg (bts (sum256S d))) (a' := ?_) #[true, false, false, false, false, false, false, false, false, false, false, false, false, false, false, false, false, false, false, false, false, false, false, false, false, false] rfl rfl (by kernel_rfl) (fun _ _ _ h => h) (Or.inl ⟨by rfl, ?_⟩) hHeld ?_ ?_
      · intro w' hS'
        have f0_ := L4.out w' hS'
        exact exec_load rfl rfl f0_
      rotate_left
      · simp only [Act.put, List.setIfInBounds_toArray, List.set_cons_zero, List.set_cons_succ, i64_w, i32_w]
        rfl
      refine pure_ (i := 1) (N := some 35) (v := ?_) (a' := ?_) #[true, true, false, false, false, false, false, false, false, false, false, false, false, false, false, false, false, false, false, false, false, false, false, false, false, false] rfl rfl (by kernel_rfl) (fun _ _ _ h => h) (Or.inl ⟨by rfl, ?_⟩) ?_ ?_
      rotate_left
      · intro w'
        go_simp
        with_reducible rfl
      rotate_left
      · simp only [Act.put, List.setIfInBounds_toArray, List.set_cons_zero, List.set_cons_succ, i64_w, i32_w]
        rfl
      refine one_ (i := 2) (N := some 36) #[true, true, true, false, false, false, false, false, false, false, false, false, false, false, false, false, false, false, false, false, false, false, false, false, false, false] rfl rfl (by kernel_rfl) (by decide) (fun K hK => ?_)
      refine goes_ Tryd.func12 (by kernel_rfl) rfl #[.slice A1 d.length c1] (by rfl) rfl rfl (by (try simp only [List.map_toArray, List.map_cons, List.map_nil]); first | done | rfl) ?_
      refine Calls.mono (HREF.out _ (J1.out.below hHeld)) ?_
      rintro e w36 ⟨rfl, hb36⟩
      refine ⟨_, rfl, ?_⟩
      refine hK.out _ _ (below_step hHeld hb36) (fun hHeld => ?_)
      clear hK K
      refine norm_ (a' := ?_) ?_ ?_
      rotate_left
      · show Act.put _ (some 36) _ = _
        simp only [Act.put, List.setIfInBounds_toArray, List.set_cons_zero, List.set_cons_succ, i64_w, i32_w]
        rfl
      refine pure_ (i := 3) (N := some 37) (v := .bool true) (a' := ?_) #[true, true, true, true, false, false, false, false, false, false, false, false, false, false, false, false, false, false, false, false, false, false, false, false, false, false] rfl rfl (by kernel_rfl) (fun _ _ _ h => h) (Or.inl ⟨by rfl, ?_⟩) ?_ ?_
      · intro w'
        have k_ := eqi_25 (sum256S d) (length_sum256S d) w'
        go_simp
      rotate_left
      · simp only [Act.put, List.setIfInBounds_toArray, List.set_cons_zero, List.set_cons_succ, i64_w, i32_w]
        rfl
      refine pure_ (i := 4) (N := some 38) (v := ?_) (a' := ?_) #[true, true, true, true, true, false, false, false, false, false, false, false, false, false, false, false, false, false, false, false, false, false, false, false, false, false] rfl rfl (by kernel_rfl) (fun _ _ _ h => h) (Or.inl ⟨by rfl, ?_⟩) ?_ ?_
      rotate_left
      · intro w'
        go_simp
        with_reducible rfl
      rotate_left
      · simp only [Act.put, List.setIfInBounds_toArray, List.set_cons_zero, List.set_cons_succ, i64_w, i32_w]
        rfl
      refine pure_ (i := 5) (N := some 39) (v := ?_) (a' := ?_) #[true, true, true, true, true, true, false, false, false, false, false, false, false, false, false, false, false, false, false, false, false, false, false, false, false, false] rfl rfl (by kernel_rfl) (fun _ _ _ h => h) (Or.inl ⟨by rfl, ?_⟩) ?_ ?_
      rotate_left
      · intro w'
        go_simp
        with_reducible rfl
      rotate_left
      · simp only [Act.put, List.setIfInBounds_toArray, List.set_cons_zero, List.set_cons_succ, i64_w, i32_w]
        rfl
      refine pure_ (i := 6) (N := some 40) (v := ?_) (a' := ?_) #[true, true, true, true, true, true, true, false, false, false, false, false, false, false, false, false, false, false, false, false, false, false, false, false, false, false] rfl rfl (by kernel_rfl) (fun _ _ _ h => h) (Or.inl ⟨by rfl, ?_⟩) ?_ ?_
      rotate_left
      · intro w'
        go_simp
        with_reducible rfl
      rotate_left
      · simp only [Act.put, List.setIfInBounds_toArray, List.set_cons_zero, List.set_cons_succ, i64_w, i32_w]
        rfl
      refine pure_ (i := 7) (N := some 41) (v := ?_) (a' := ?_) #[true, true, true, true, true, true, true, true, false, false, false, false, false, false, false, false, false, false, false, false, false, false, false, false, false, false] rfl rfl (by kernel_rfl) (fun _ _ _ h => h) (Or.inl ⟨by rfl, ?_⟩) ?_ ?_
      rotate_left
      · intro w'
        go_simp
        with_reducible rfl
      rotate_left
      · simp only [Act.put, List.setIfInBounds_toArray, List.set_cons_zero, List.set_cons_succ, i64_w, i32_w]
        rfl
      refine pure_ (i := 8) (N := some 42) (v := .slice (some ad7) d.length c7) (a' := ?_) #[true, true, true, true, true, true, true, true, true, false, false, false, false, false, false, false, false, false, false, false, false, false, false, false, false, false] rfl rfl (by kernel_rfl) (fun _ _ _ h => h) (Or.inl ⟨by rfl, ?_⟩) ?_ ?_
      · intro w'
        have k_ := K18.out w'
        go_simp
      rotate_left
      · simp only [Act.put, List.setIfInBounds_toArray, List.set_cons_zero, List.set_cons_succ, i64_w, i32_w]
        rfl
      refine take_ (i := 9) (N := some 43) (v := .string (strOfNums d)) (a' := ?_) #[true, true, true, true, true, true, true, true, true, true, false, false, false, false, false, false, false, false, false, false, false, false, false, false, false, false] rfl rfl (by kernel_rfl) (fun _ _ _ h => h) (Or.inl ⟨by rfl, ?_⟩) hHeld ?_ ?_
      · intro w' hS'
        have f0_ := K43.out w' hS'
        go_simp
      rotate_left
      · simp only [Act.put, List.setIfInBounds_toArray, List.set_cons_zero, List.set_cons_succ, i64_w, i32_w]
        rfl
      refine pure_ (i := 10) (N := some 44) (v := ?_) (a' := ?_) #[true, true, true, true, true, true, true, true, true, true, true, false, false, false, false, false, false, false, false, false, false, false, false, false, false, false] rfl rfl (by kernel_rfl) (fun _ _ _ h => h) (Or.inl ⟨by rfl, ?_⟩) ?_ ?_
      rotate_left
      · intro w'
        go_simp
        with_reducible rfl
      rotate_left
      · simp only [Act.put, List.setIfInBounds_toArray, List.set_cons_zero, List.set_cons_succ, i64_w, i32_w]
        rfl
      refine take_ (i := 11) (N := some 45) (v := .string (strOfNums d)) (a' := ?_) #[true, true, true, true, true, true, true, true, true, true, true, true, false, false, false, false, false, false, false, false, false, false, false, false, false, false] rfl rfl (by kernel_rfl) (fun _ _ _ h => h) (Or.inl ⟨by rfl, ?_⟩) hHeld ?_ ?_
      · intro w' hS'
        have f0_ := K45.out w' hS'
        go_simp
      rotate_left
      · simp only [Act.put, List.setIfInBounds_toArray, List.set_cons_zero, List.set_cons_succ, i64_w, i32_w]
        rfl
      refine pure_ (i := 12) (N := some 46) (v := .bool true) (a' := ?_) #[true, true, true, true, true, true, true, true, true, true, true, true, true, false, false, false, false, false, false, false, false, false, false, false, false, false] rfl rfl (by kernel_rfl) (fun _ _ _ h => h) (Or.inl ⟨by rfl, ?_⟩) ?_ ?_
      · intro w'
        go_simp
      rotate_left
      · simp only [Act.put, List.setIfInBounds_toArray, List.set_cons_zero, List.set_cons_succ, i64_w, i32_w]
        rfl
      refine pure_ (i := 13) (N := some 47) (v := .bool true) (a' := ?_) #[true, true, true, true, true, true, true, true, true, true, true, true, true, true, false, false, false, false, false, false, false, false, false, false, false, false] rfl rfl (by kernel_rfl) (fun _ _ _ h => h) (Or.inl ⟨by rfl, ?_⟩) ?_ ?_
      · intro w'
        go_simp
      rotate_left
      · simp only [Act.put, List.setIfInBounds_toArray, List.set_cons_zero, List.set_cons_succ, i64_w, i32_w]
        rfl
      refine pure_ (i := 14) (N := some 48) (v := ?_) (a' := ?_) #[true, true, true, true, true, true, true, true, true, true, true, true, true, true, true, false, false, false, false, false, false, false, false, false, false, false] rfl rfl (by kernel_rfl) (fun _ _ _ h => h) (Or.inl ⟨by rfl, ?_⟩) ?_ ?_
      rotate_left
      · intro w'
        go_simp
        with_reducible rfl
      rotate_left
      · simp only [Act.put, List.setIfInBounds_toArray, List.set_cons_zero, List.set_cons_succ, i64_w, i32_w]
        rfl
      refine pure_ (i := 15) (N := some 49) (v := ?_) (a' := ?_) #[true, true, true, true, true, true, true, true, true, true, true, true, true, true, true, true, false, false, false, false, false, false, false, false, false, false] rfl rfl (by kernel_rfl) (fun _ _ _ h => h) (Or.inl ⟨by rfl, ?_⟩) ?_ ?_
      rotate_left
      · intro w'
        go_simp
        with_reducible rfl
      rotate_left
      · simp only [Act.put, List.setIfInBounds_toArray, List.set_cons_zero, List.set_cons_succ, i64_w, i32_w]
        rfl
      refine pure_ (i := 16) (N := some 50) (v := ?_) (a' := ?_) #[true, true, true, true, true, true, true, true, true, true, true, true, true, true, true, true, true, false, false, false, false, false, false, false, false, false] rfl rfl (by kernel_rfl) (fun _ _ _ h => h) (Or.inl ⟨by rfl, ?_⟩) ?_ ?_
      rotate_left
      · intro w'
        go_simp
        with_reducible rfl
      rotate_left
      · simp only [Act.put, List.setIfInBounds_toArray, List.set_cons_zero, List.set_cons_succ, i64_w, i32_w]
        rfl
      refine pure_ (i := 17) (N := some 51) (v := ?_) (a' := ?_) #[true, true, true, true, true, true, true, true, true, true, true, true, true, true, true, true, true, true, false, false, false, false, false, false, false, false] rfl rfl (by kernel_rfl) (fun _ _ _ h => h) (Or.inl ⟨by rfl, ?_⟩) ?_ ?_
      rotate_left
      · intro w'
        go_simp
        with_reducible rfl
      rotate_left
      · simp only [Act.put, List.setIfInBounds_toArray, List.set_cons_zero, List.set_cons_succ, i64_w, i32_w]
        rfl
      refine pure_ (i := 18) (N := some 52) (v := .pointer (some (ad7.add d.length))) (a' := ?_) #[true, true, true, true, true, true, true, true, true, true, true, true, true, true, true, true, true, true, true, false, false, false, false, false, false, false] rfl rfl (by kernel_rfl) (fun _ _ _ h => h) (Or.inl ⟨by rfl, ?_⟩) ?_ ?_
      · intro w'
        have k_ := P52.out
        have k2_ := Q52.out
        go_simp
      rotate_left
      · simp only [Act.put, List.setIfInBounds_toArray, List.set_cons_zero, List.set_cons_succ, i64_w, i32_w]
        rfl
      refine take_ (i := 19) (N := some 53) (v := .int .u8 1) (a' := ?_) #[true, true, true, true, true, true, true, true, true, true, true, true, true, true, true, true, true, true, true, true, false, false, false, false, false, false] rfl rfl (by kernel_rfl) (fun _ _ _ h => h) (Or.inl ⟨by rfl, ?_⟩) hHeld ?_ ?_
      · intro w' hS'
        have f0_ := L52.out w' hS'
        go_simp
      rotate_left
      · simp only [Act.put, List.setIfInBounds_toArray, List.set_cons_zero, List.set_cons_succ, i64_w, i32_w]
        rfl
      refine pure_ (i := 20) (N := some 54) (v := .bool true) (a' := ?_) #[true, true, true, true, true, true, true, true, true, true, true, true, true, true, true, true, true, true, true, true, true, false, false, false, false, false] rfl rfl (by kernel_rfl) (fun _ _ _ h => h) (Or.inl ⟨by rfl, ?_⟩) ?_ ?_
      · intro w'
        go_simp
      rotate_left
      · simp only [Act.put, List.setIfInBounds_toArray, List.set_cons_zero, List.set_cons_succ, i64_w, i32_w]
        rfl
      refine pure_ (i := 21) (N := some 55) (v := .bool true) (a' := ?_) #[true, true, true, true, true, true, true, true, true, true, true, true, true, true, true, true, true, true, true, true, true, true, false, false, false, false] rfl rfl (by kernel_rfl) (fun _ _ _ h => h) (Or.inl ⟨by rfl, ?_⟩) ?_ ?_
      · intro w'
        go_simp
      rotate_left
      · simp only [Act.put, List.setIfInBounds_toArray, List.set_cons_zero, List.set_cons_succ, i64_w, i32_w]
        rfl
      refine pure_ (i := 22) (N := some 56) (v := ?_) (a' := ?_) #[true, true, true, true, true, true, true, true, true, true, true, true, true, true, true, true, true, true, true, true, true, true, true, false, false, false] rfl rfl (by kernel_rfl) (fun _ _ _ h => h) (Or.inl ⟨by rfl, ?_⟩) ?_ ?_
      rotate_left
      · intro w'
        go_simp
        with_reducible rfl
      rotate_left
      · simp only [Act.put, List.setIfInBounds_toArray, List.set_cons_zero, List.set_cons_succ, i64_w, i32_w]
        rfl
      refine one_ (i := 23) (N := some 57) #[true, true, true, true, true, true, true, true, true, true, true, true, true, true, true, true, true, true, true, true, true, true, true, true, false, false] rfl rfl (by kernel_rfl) (by decide) (fun K hK => ?_)
      refine goes_ Tryd.func13 (by kernel_rfl) rfl #[] (by rfl) rfl rfl (by (try simp only [List.map_toArray, List.map_cons, List.map_nil]); first | done | rfl) ?_
      refine Calls.mono (works_any HW.out _ (HG.out.below hHeld)) ?_
      rintro e w57 ⟨rfl, hb57⟩
      refine ⟨_, rfl, ?_⟩
      refine hK.out _ _ (below_step hHeld hb57) (fun hHeld => ?_)
      clear hK K
      refine norm_ (a' := ?_) ?_ ?_
      rotate_left
      · show Act.put _ (some 57) _ = _
        simp only [Act.put, List.setIfInBounds_toArray, List.set_cons_zero, List.set_cons_succ, i64_w, i32_w]
        rfl
      refine pure_ (i := 24) (N := some 58) (v := .bool true) (a' := ?_) #[true, true, true, true, true, true, true, true, true, true, true, true, true, true, true, true, true, true, true, true, true, true, true, true, true, false] rfl rfl (by kernel_rfl) (fun _ _ _ h => h) (Or.inl ⟨by rfl, ?_⟩) ?_ ?_
      · intro w'
        go_simp
      rotate_left
      · simp only [Act.put, List.setIfInBounds_toArray, List.set_cons_zero, List.set_cons_succ, i64_w, i32_w]
        rfl
      refine pure_ (i := 25) (N := some 2) (v := ?_) (a' := ?_) #[true, true, true, true, true, true, true, true, true, true, true, true, true, true, true, true, true, true, true, true, true, true, true, true, true, true] rfl rfl (by kernel_rfl) (fun _ _ _ h => h) (Or.inl ⟨by rfl, ?_⟩) ?_ ?_
      rotate_left
      · intro w'
        go_simp
        with_reducible rfl
      rotate_left
      · simp only [Act.put, List.setIfInBounds_toArray, List.set_cons_zero, List.set_cons_succ, i64_w, i32_w]
        rfl
      refine done_ (by kernel_rfl) ?_
      go_wp2
      go_ret
      exact ⟨rfl, below_step BW.out hHeld⟩
end Go.Proofs.YtfcadniglmhclaaDoor.S
