/-
  The walk of sha512.take (function 29).
-/
import Derived.Test.YtfcadniglmhclaaDoorS5
namespace Go.Proofs.YtfcadniglmhclaaDoor.S
open Go.RowKit Go.Proofs.YtfcadniglmhclaaDoorW.PrintWords Go.Proofs.YtfcadniglmhclaaDoorW.PrintLast Go.Proofs.YtfcadniglmhclaaDoorW.PrintMore
open Go.Proofs.YtfcadniglmhclaaDoor.R

theorem zero28' (w : World) : (zeroValue 28).run Tryd.prog w = .ok (.agg #[.int .u64 0, .int .u64 0, .int .u64 0, .int .u64 0, .int .u64 0, .int .u64 0, .int .u64 0, .int .u64 0]) w := zero28 w

theorem add_at (h v : List Int) (i : Nat) (hi : i < 8) : at' ((addS h v).take i ++ h.drop i) i = at' h i := by
  unfold at'
  rw [List.getD_eq_getElem?_getD, List.getElem?_append_right (by rw [List.length_take]; exact Nat.min_le_left _ _), List.getD_eq_getElem?_getD, List.getElem?_drop]
  simp [length_addS, Nat.min_eq_left (Nat.le_of_lt hi)]
theorem add_set (h v : List Int) (i : Nat) (hh : h.length = 8) (hi : i < 8) : ((addS h v).take i ++ h.drop i).set i (ad (at' h i) (at' v i)) = (addS h v).take (i + 1) ++ h.drop (i + 1) := by
  have hl : (addS h v).length = 8 := length_addS h v
  have e1 : (addS h v)[i]'(by omega) = ad (at' h i) (at' v i) := by simp [addS]
  rw [List.set_append_right _ _ (by simp; omega), List.length_take, hl, Nat.min_eq_left (by omega), Nat.sub_self, List.drop_eq_getElem_cons (by omega : i < h.length), List.set_cons_zero,
    List.take_succ_eq_append_getElem (by omega), e1]
  simp

set_option maxHeartbeats 1000000 in
set_option maxRecDepth 100000 in
theorem take_any (h : List Int) (a0 : Addr) (c : Nat) (b : List Int) (w : World) (hh : h.length = 8) (hb : b.length = 128) (hby : By b) (hr : Kd.C (Kd.int .u8) w (some a0) 128 b) (hc : 128 ≤ c) (hG : Gl w) :
    Calls Tryd.prog 29 #[.agg (wds h), .slice (some a0) 128 c] w fun e w' => e = .returned (.agg (wds (takeS KS h b))) ∧ Below w.heap.size w w' := by
  have hz := zero28'
  have HR := Aside0.mk hr
  have HG := Aside0.mk hG
  have HBY := Aside0.mk hby
  have HBL := Aside0.mk hb
  obtain ⟨h0, h1, h2, h3, h4, h5, h6, h7, rfl⟩ := eight hh
  have HC := Aside0.mk hc
  obtain ⟨res, hres⟩ : ∃ r, r = wds (takeS KS [h0, h1, h2, h3, h4, h5, h6, h7] b) := ⟨_, rfl⟩
  rw [← hres]
  have HRES := Aside0.mk hres
  clear hr hG hby hb hh hc hres
  change Calls Tryd.prog 29 #[.agg #[.int .u64 h0, .int .u64 h1, .int .u64 h2, .int .u64 h3, .int .u64 h4, .int .u64 h5, .int .u64 h6, .int .u64 h7], .slice (some a0) 128 c] w fun e w' => e = .returned (.agg res) ∧ Below w.heap.size w w'
  go_enter Tryd.func29, Tryd.ntmps29
  go_wp2_with (go_at_call 37; refine (spread_any a0 c b _ HBL.out HBY.out (Kd.C_below HR.out (below_alloc (below_alloc (below_alloc (Below.refl _ _) _) _) _)) HC.out).mono ?_; rintro e w4 ⟨rfl, hb4⟩)
  have g4 : Aside0 (Gl w4) := ⟨(HG.out.below (below_alloc (below_alloc (below_alloc (Below.refl _ _) _) _) _)).below hb4⟩
  have n4 : Aside0 (Below w.heap.size w w4) := ⟨below_step (below_alloc (below_alloc (below_alloc (Below.refl _ _) _) _) _) hb4⟩
  have p4 : Aside0 (Wb w4 w.heap.size 28 [h0, h1, h2, h3, h4, h5, h6, h7]) := ⟨(((Wb.new w 28 [h0, h1, h2, h3, h4, h5, h6, h7]).alloc _).alloc _).below hb4⟩
  have q4 : Aside0 (Wb w4 (w.heap.size + 1) 28 Z8) := ⟨((Wb.newAt (w.alloc _) 28 Z8 _ (by simp)).alloc _).below hb4⟩
  have r4 : Aside0 (Wb w4 (w.heap.size + 1 + 1) 28 [h0, h1, h2, h3, h4, h5, h6, h7]) := ⟨(Wb.newAt ((w.alloc _).alloc _) 28 [h0, h1, h2, h3, h4, h5, h6, h7] _ (by simp)).below hb4⟩
  clear hb4
  obtain ⟨W, hW⟩ : ∃ W, W = spreadS b := ⟨_, rfl⟩
  have HWL : Aside0 (W.length = 80) := ⟨by rw [hW]; exact length_spreadS b⟩
  rw [← hW]
  have HWE := Aside0.mk hW
  clear hW
  go_loopw [18] (fun v18 wr => ∃ t : Nat, t ≤ 80 ∧ v18 = .int .i64 t ∧ Aside0 (Wb wr (w.heap.size + 1 + 1) 28 (rnds KS W [h0, h1, h2, h3, h4, h5, h6, h7] t)) ∧ Aside0 (Wb wr w.heap.size 28 [h0, h1, h2, h3, h4, h5, h6, h7]) ∧ Aside0 (Wb wr (w.heap.size + 1) 28 Z8) ∧ Aside0 (Below w.heap.size w wr)) (fun v18 _ => 80 - (intOf v18).toNat)
  case atStart => exact ⟨0, by omega, rfl, r4, p4, q4, n4⟩
  case round =>
    clear p4 q4 r4
    obtain ⟨t, ht, rfl, V1, P1, Q1, HB⟩ := hrel
    by_cases hlt : t < 80
    · obtain ⟨v0, v1, v2, v3, v4, v5, v6, v7, hv⟩ := eight (length_rnds KS W [h0, h1, h2, h3, h4, h5, h6, h7] rfl t)
      have V2 := V1.out
      rw [hv] at V2
      have HV := Aside0.mk hv
      have hN : Aside0 (rnds KS W [h0, h1, h2, h3, h4, h5, h6, h7] (t + 1) = rnd [v0, v1, v2, v3, v4, v5, v6, v7] (at' KS t) (at' W t)) := ⟨by rw [rnds, hv]⟩
      clear V1 hv
      have c0 := V2.cell 0 (by simp)
      have c1 := V2.cell 1 (by simp)
      have c2 := V2.cell 2 (by simp)
      have c3 := V2.cell 3 (by simp)
      have c4 := V2.cell 4 (by simp)
      have c5 := V2.cell 5 (by simp)
      have c6 := V2.cell 6 (by simp)
      have c7 := V2.cell 7 (by simp)
      simp only [at', List.getD_cons_zero, List.getD_cons_succ] at c0 c1 c2 c3 c4 c5 c6 c7
      have hk := (HG.out.below HB.out).cellK t hlt
      have hx := index55 W t hlt HWL.out
      have V3 := Aside0.mk V2
      clear V2
      go_wp2
      go_quiet (fail)
      go_wp2_with (go_at_call 38; refine (right_i _ _ (by decide) _).mono ?_; rintro e w' ⟨rfl, rfl⟩)
      go_quiet (fail)
      go_wp2
      go_region_law (refine step_shift rfl (.tmp 80) (.tmp 81) rfl (w.heap.size + 1 + 1) rfl rfl v0 v1 v2 v3 v4 v5 v6 v7 V3.out ?_; intro w5 hg5 hb5)
      have hb6 : Below (w.heap.size + 1 + 1) wr w5 := ⟨hb5.out.os, hb5.out.tape, hb5.out.output, hb5.out.size, hb5.out.block⟩
      have HB6 := Aside0.mk hb6
      clear hb5 hb6
      have d0 := hg5.out.cell 0 (by simp)
      have d4 := hg5.out.cell 4 (by simp)
      have f0 := hg5.out.free 0
      have f4 := hg5.out.free 4
      simp only [at', List.getD_cons_zero, List.getD_cons_succ] at d0 d4
      go_wp2
      go_roundw
      case rel =>
        exact ⟨t + 1, by omega, by go_num, ⟨by rw [hN.out]; exact (hg5.out.set 4 _).set 0 _⟩, ⟨((P1.out.under HB6.out (by omega)).other (B' := w.heap.size + 1 + 1) (by omega) _ _).other (B' := w.heap.size + 1 + 1) (by omega) _ _⟩, ⟨((Q1.out.under HB6.out (by omega)).other (B' := w.heap.size + 1 + 1) (by omega) _ _).other (B' := w.heap.size + 1 + 1) (by omega) _ _⟩, ⟨below_set (below_set (HB.out.trans (HB6.out.mono (show w.heap.size ≤ w.heap.size + 1 + 1 by omega))) (by omega)) (by omega)⟩⟩
      case measure => simp [intOf]; omega
    · obtain rfl : t = 80 := by omega
      go_wp2
      obtain ⟨v, hv⟩ : ∃ v, v = rnds KS W [h0, h1, h2, h3, h4, h5, h6, h7] 80 := ⟨_, rfl⟩
      have hvl : v.length = 8 := by rw [hv]; exact length_rnds KS W _ rfl 80
      rw [← hv] at V1
      have HVE := Aside0.mk hv
      have HVL := Aside0.mk hvl
      clear hv hvl
      obtain ⟨hl, hhl⟩ : ∃ hl, hl = [h0, h1, h2, h3, h4, h5, h6, h7] := ⟨_, rfl⟩
      have HHL : Aside0 (hl.length = 8) := ⟨by rw [hhl]; rfl⟩
      rw [← hhl] at P1 HVE HRES
      have HHE := Aside0.mk hhl
      clear hhl
      go_loopw [93] (fun v93 wr => ∃ i : Nat, i ≤ 8 ∧ v93 = .int .i64 i ∧ Aside0 (Wb wr (w.heap.size + 1 + 1) 28 v) ∧ Aside0 (Wb wr w.heap.size 28 ((addS hl v).take i ++ hl.drop i)) ∧ Aside0 (Wb wr (w.heap.size + 1) 28 Z8) ∧ Aside0 (Below w.heap.size w wr)) (fun v93 _ => 8 - (intOf v93).toNat)
      case atStart => exact ⟨0, by omega, rfl, V1, P1, Q1, HB⟩
      case round =>
        clear V1 P1 Q1 HB
        obtain ⟨i, hi, rfl, V1, P1, Q1, HB⟩ := hrel
        have hlen : ((addS hl v).take i ++ hl.drop i).length = 8 := by simp [length_addS, HHL.out]; omega
        by_cases hlt : i < 8
        · have ca := P1.out.cell i (by omega)
          have cv := V1.out.cell i (by rw [HVL.out]; omega)
          have fa := P1.out.free i
          have ea := add_at hl v i hlt
          rw [ea] at ca
          have HS := Aside0.mk (add_set hl v i HHL.out hlt)
          clear hlen ea
          go_wp2
          go_region
          go_wp2
          go_roundw
          case rel => exact ⟨i + 1, by omega, by go_num, ⟨V1.out.other (B' := w.heap.size) (by omega) _ _⟩, ⟨by rw [← HS.out]; exact P1.out.set i _⟩, ⟨Q1.out.other (B' := w.heap.size) (by omega) _ _⟩, ⟨below_set (pw_below_drewN HB.out _) (by omega)⟩⟩
          case measure => simp [intOf]; omega
        · obtain rfl : i = 8 := by omega
          have hfin : (addS hl v).take 8 ++ hl.drop 8 = addS hl v := by rw [List.take_of_length_le (by rw [length_addS]; omega), List.drop_of_length_le (by rw [HHL.out]; omega), List.append_nil]
          have P2 := P1.out
          rw [hfin] at P2
          have hres : wds (addS hl v) = res := by rw [HRES.out, HVE.out, HWE.out, HHE.out]; rfl
          clear hfin
          go_wp2_with (first | (refine load_words rfl 28 (.tmp 2) rfl w.heap.size rfl 28 (addS hl v) _ P2 Tryd.underlying28 rfl (by rw [length_addS]; exact info28) ?_) | (refine store_words rfl 28 (.tmp 4) (.tmp 105) rfl (w.heap.size + 1) (addS hl v) Z8 rfl rfl 28 Q1.out (by rw [length_addS]; exact info28) (by rw [length_addS]; rfl) ?_; intro w6 HR6 HL6))
          exact bodyPost_ret (results_cell_row (fn := Tryd.f29) rfl _ _ (w.heap.size + 1) 28 (wds (addS hl v)) (0, 0) _ rfl HR6.out Tryd.underlying28 rfl (by rw [size_wds, length_addS]; exact info28)) rfl ⟨by rw [hres], HL6.out.below (by omega) HB.out⟩
end Go.Proofs.YtfcadniglmhclaaDoor.S
