/-
  The walk of sha512.Words (function 10).
-/
import Derived.Test.YtfcadniglmhclaaDoorT2
import Derived.Lib.SlBytesConst
namespace Go.Proofs.YtfcadniglmhclaaDoor.S
open Go.RowKit Go.Proofs.YtfcadniglmhclaaDoorW.PrintWords Go.Proofs.YtfcadniglmhclaaDoorW.PrintLast Go.Proofs.YtfcadniglmhclaaDoorW.PrintMore
open Go.Proofs.YtfcadniglmhclaaDoor.R

def turned : Int := 11936128518282651045
def nameS : List Int := [83, 72, 65, 45, 53, 49, 50, 47, 50, 53, 54]
/-- The beginning of SHA-512, turned. -/
def FX : List Int := FS.map fun x => xr x turned
def WS : List Int := (List.range 8).map fun i => wordS ((bytesS (digS KS FX nameS)).drop (8 * i))
theorem length_FX : FX.length = 8 := rfl
theorem length_WS : WS.length = 8 := by simp [WS]

theorem half_at (x y : List Int) (i : Nat) (hi : i < x.length) : at' (x.take i ++ y.drop i) i = at' y i := by
  unfold at'
  rw [List.getD_eq_getElem?_getD, List.getElem?_append_right (by rw [List.length_take]; exact Nat.min_le_left _ _), List.getD_eq_getElem?_getD, List.getElem?_drop, List.length_take, Nat.min_eq_left (by omega)]
  simp
theorem half_set (x y : List Int) (i : Nat) (hi : i < x.length) (hl : x.length = y.length) : (x.take i ++ y.drop i).set i (at' x i) = x.take (i + 1) ++ y.drop (i + 1) := by
  have ha : at' x i = x[i] := by simp [at', List.getD_eq_getElem?_getD, hi]
  rw [List.set_append_right _ _ (by rw [List.length_take]; exact Nat.min_le_left _ _), List.length_take, Nat.min_eq_left (by omega), Nat.sub_self, List.drop_eq_getElem_cons (by omega : i < y.length), List.set_cons_zero, ha,
    List.take_succ_eq_append_getElem hi, List.append_assoc]
  rfl
theorem at_FX (i : Nat) (hi : i < 8) : at' FX i = xr (at' FS i) turned := by
  have hl : i < FS.length := by rw [length_FS]; exact hi
  simp [FX, at', List.getD_eq_getElem?_getD, hl]

/-- A new block of constants. -/
theorem C_const (w : World) (l : List Int) (fr : Nat × Nat) (hm : l.length ≤ 1000000) : Kd.C (Kd.int .u8) (w.alloc (.cells (bts l) 5 fr)) (some ⟨w.heap.size, 0, none⟩) l.length l := by
  refine Kd.C_of_reads (enc := Value.int .u8) (d := (0 : Int)) (h1 := fun _ => rfl) ⟨rfl, by omega, fun hp => ⟨_, rfl, fun j hj => ?_⟩⟩
  have hadd : (⟨w.heap.size, 0, none⟩ : Addr).add j = ⟨w.heap.size, j, none⟩ := by unfold Addr.add; split <;> simp_all
  rw [hadd, cell_of_row _ w.heap.size j (bts l) 5 fr (heap_alloc_new _ _), bts_get l j hj]
  rfl
theorem In_const (w : World) (l : List Int) (fr : Nat × Nat) (hm : l.length ≤ 1000000) : In (w.alloc (.cells (bts l) 5 fr)) (.slice (some ⟨w.heap.size, 0, none⟩) l.length l.length) l :=
  .inr ⟨_, _, rfl, Nat.le_refl _, C_const w l fr hm⟩
theorem by_name : By nameS := fun x hx => by simp [nameS] at hx; omega

theorem by_bytesS (l : List Int) : By (bytesS l) := fun x hx => by
  obtain ⟨y, _, h⟩ := List.mem_flatMap.1 hx
  exact by_layS y x h
theorem at_WS (i : Nat) (hi : i < 8) : at' WS i = wordS ((bytesS (digS KS FX nameS)).drop (8 * i)) := by
  simp [WS, at', List.getD_eq_getElem?_getD, hi]
theorem slice34 (B i : Nat) (hi : i < 8) (W : World) : (Instr.sliceAt 34 (.pointer (some ⟨B, 0, none⟩)) (some (.int .i64 (8 * (i : Int)))) none none).run Tryd.prog W = .ok (.slice (some ⟨B, 8 * i, none⟩) (64 - 8 * i) (64 - 8 * i)) W := by
  have h5 : (sizeOf 5).run Tryd.prog W = .ok 1 W := by kernel_rfl
  have e : (8 * (i : Int)).toNat = 8 * i := by omega
  have hne : ¬ (64 = 8 * i) := by omega
  have h0 : (0 : Int) ≤ 8 * (i : Int) ∧ 8 * (i : Int) ≤ 64 := by omega
  simp [Instr.sliceAt, run_underlying Tryd.underlying34, Instr.sliceBounds, Instr.sliceBound, Instr.sureAddr, asIntOf, h5, e, hne, h0, go_sem]

theorem load_first {ops : Array Oper} {rest : List Oper} {o : Oper} {a : Act} {w : World} {Q : Exit → Act → World → Prop} (hgd : o.guard = none) (ho : o.op = .load 28 (.global 0)) (hG : Gl w) (f0 f1 f2 f3 f4 f5 f6 f7 : Int) (hF : FS = [f0, f1, f2, f3, f4, f5, f6, f7])
    (h : wpList Tryd.prog ops Q rest (a.put o.dst (.agg #[Value.int .u64 f0, Value.int .u64 f1, Value.int .u64 f2, Value.int .u64 f3, Value.int .u64 f4, Value.int .u64 f5, Value.int .u64 f6, Value.int .u64 f7])) w) : wpList Tryd.prog ops Q (o :: rest) a w := by
  obtain ⟨⟨t0, fr0, hG0⟩, _⟩ := hG
  refine wpList_load_row hgd 28 (.global 0) ho 0 rfl t0 (wds FS) fr0 _ hG0 Tryd.underlying28 rfl info28 ?_
  rw [hF]
  exact h

set_option maxRecDepth 100000 in
set_option maxHeartbeats 1000000 in
theorem words_any (w : World) (hG : Gl w) :
    Calls Tryd.prog 10 #[] w fun e w' => e = .returned (.agg (wds WS)) ∧ Below w.heap.size w w' := by
  have hz := zero28'
  have hz34 := zero34b
  have HG := Aside0.mk hG
  obtain ⟨f0, f1, f2, f3, f4, f5, f6, f7, hF⟩ := eight length_FS
  have HF := Aside0.mk hF
  clear hG hF
  go_enter Tryd.func10, Tryd.ntmps10
  go_wp2_with (refine load_first rfl rfl (HG.out.below (below_alloc (Below.refl _ _) _)) f0 f1 f2 f3 f4 f5 f6 f7 HF.out ?_)
  have r1 : Aside0 (Wb ((w.alloc (.cells (wds Z8) 28)).alloc (.cells (wds [f0, f1, f2, f3, f4, f5, f6, f7]) 28)) w.heap.size 28 Z8) := ⟨(Wb.new w 28 Z8).alloc _⟩
  have p1 : Aside0 (Wb ((w.alloc (.cells (wds Z8) 28)).alloc (.cells (wds [f0, f1, f2, f3, f4, f5, f6, f7]) 28)) (w.heap.size + 1) 28 [f0, f1, f2, f3, f4, f5, f6, f7]) := ⟨Wb.newAt _ _ _ _ (by simp)⟩
  have b1 : Aside0 (Below w.heap.size w ((w.alloc (.cells (wds Z8) 28)).alloc (.cells (wds [f0, f1, f2, f3, f4, f5, f6, f7]) 28))) := ⟨below_alloc (below_alloc (Below.refl _ _) _) _⟩
  have p2 : Aside0 (Wb ((w.alloc (.cells (wds Z8) 28)).alloc (.cells (wds [f0, f1, f2, f3, f4, f5, f6, f7]) 28)) (w.heap.size + 1) 28 (FX.take 0 ++ FS.drop 0)) := ⟨by rw [List.take_zero, List.nil_append, List.drop_zero, HF.out]; exact p1.out⟩
  go_loopw [6] (fun v6 wr => ∃ i : Nat, i ≤ 8 ∧ v6 = .int .i64 i ∧ Aside0 (Wb wr (w.heap.size + 1) 28 (FX.take i ++ FS.drop i)) ∧ Aside0 (Wb wr w.heap.size 28 Z8) ∧ Aside0 (Below w.heap.size w wr)) (fun v6 _ => 8 - (intOf v6).toNat)
  case atStart => exact ⟨0, by omega, rfl, p2, r1, b1⟩
  case round =>
    clear p1 p2 r1 b1
    obtain ⟨i, hi, rfl, P1, R1, B1⟩ := hrel
    have hlen : (FX.take i ++ FS.drop i).length = 8 := by simp [length_FX, length_FS]; omega
    by_cases hlt : i < 8
    · have ca := P1.out.cell i (by omega)
      have fa := P1.out.free i
      rw [half_at FX FS i (by rw [length_FX]; exact hlt)] at ca
      have HS : Aside0 ((FX.take i ++ FS.drop i).set i (xr (at' FS i) turned) = FX.take (i + 1) ++ FS.drop (i + 1)) := ⟨by rw [← at_FX i hlt]; exact half_set FX FS i (by rw [length_FX]; exact hlt) rfl⟩
      clear hlen
      go_wp2
      go_roundw
      case rel => exact ⟨i + 1, by omega, by go_num, ⟨by rw [← HS.out]; exact P1.out.set i _⟩, ⟨R1.out.other (B' := w.heap.size + 1) (by omega) _ _⟩, ⟨below_set B1.out (by omega)⟩⟩
      case measure => simp [intOf]; omega
    · obtain rfl : i = 8 := by omega
      rw [List.take_of_length_le (by rw [length_FX]; omega), List.drop_of_length_le (by rw [length_FS]; omega), List.append_nil] at P1
      obtain ⟨x0, x1, x2, x3, x4, x5, x6, x7, hx⟩ := eight length_FX
      have HX := Aside0.mk hx
      rw [hx] at P1
      clear hx hlen
      have c0 := P1.out.cell 0 (by simp)
      have c1 := P1.out.cell 1 (by simp)
      have c2 := P1.out.cell 2 (by simp)
      have c3 := P1.out.cell 3 (by simp)
      have c4 := P1.out.cell 4 (by simp)
      have c5 := P1.out.cell 5 (by simp)
      have c6 := P1.out.cell 6 (by simp)
      have c7 := P1.out.cell 7 (by simp)
      simp only [at', List.getD_cons_zero, List.getD_cons_succ] at c0 c1 c2 c3 c4 c5 c6 c7
      have kc := fun (w : World) (C : Array Value) (n c : Nat) => Lib.run_convert_bytes_const (P := Tryd.prog) w 22 5 C n c Tryd.underlying22 Tryd.underlying5
      have N1 : Aside0 (In (wr.alloc (.cells (bts nameS) 5 (11, 12))) (.slice (some ⟨wr.heap.size, 0, none⟩) 11 11) nameS) := ⟨In_const wr nameS (11, 12) (by decide)⟩
      have HG2 : Aside0 (Gl (wr.alloc (.cells (bts nameS) 5 (11, 12)))) := ⟨(HG.out.below B1.out).below (below_alloc (Below.refl _ _) _)⟩
      have HCALL : Aside0 (Calls Tryd.prog 21 #[.agg #[Value.int .u64 x0, Value.int .u64 x1, Value.int .u64 x2, Value.int .u64 x3, Value.int .u64 x4, Value.int .u64 x5, Value.int .u64 x6, Value.int .u64 x7], .slice (some ⟨wr.heap.size, 0, none⟩) 11 11] (wr.alloc (.cells (bts nameS) 5 (11, 12))) fun e w' => e = .returned (.agg (bts (bytesS (digS KS FX nameS)))) ∧ Below (wr.alloc (.cells (bts nameS) 5 (11, 12))).heap.size (wr.alloc (.cells (bts nameS) 5 (11, 12))) w') := ⟨by
        have h1 := digest_any FX _ nameS _ length_FX (by decide) by_name N1.out HG2.out
        rw [HX.out] at h1 ⊢
        exact h1⟩
      go_wp2_with (first | (go_at_call 21; refine HCALL.out.mono ?_; rintro e w5 ⟨rfl, hb5⟩; have H5 := Aside0.mk hb5; clear hb5) | (refine alloc_array rfl 34 rfl (bts Z64l) zero34b ?_) | (refine store_bytes rfl 34 (.tmp 3) (.tmp 18) rfl w5.heap.size (bytesS (digS KS FX nameS)) Z64l rfl rfl 34 (Bb.newAt w5 34 Z64l _ rfl) (by rw [length_bytesS, length_digS _ _ length_FX]; exact info34) (by rw [length_bytesS, length_digS _ _ length_FX]; rfl) ?_; intro w6 hb6 hk6 HL6; have HK6 := Aside0.mk hk6; clear hk6))
      have hs5 : wr.heap.size + 1 ≤ w5.heap.size := by have := H5.out.size; simpa using this
      have hV : w.heap.size + 1 < wr.heap.size := P1.out.lt
      have P6 : Aside0 (Wb w6 (w.heap.size + 1) 28 FX) := ⟨HL6.out.other (by omega) (((by rw [HX.out]; exact (P1.out.alloc _).below H5.out : Wb w5 (w.heap.size + 1) 28 FX)).alloc _)⟩
      have R6 : Aside0 (Wb w6 w.heap.size 28 Z8) := ⟨HL6.out.other (by omega) (((R1.out.alloc _).below H5.out).alloc _)⟩
      have B6 : Aside0 (Below w.heap.size w w6) := ⟨HL6.out.below (by omega) (below_alloc (below_step (below_alloc B1.out _) H5.out) _)⟩
      have hV5 : w.heap.size + 1 < w5.heap.size := by omega
      clear hs5 hV N1 HG2 HCALL H5 HL6 HK6
      clear P1 R1 B1 kc c0 c1 c2 c3 c4 c5 c6 c7
      go_loopw [19] (fun v19 wr => ∃ i : Nat, i ≤ 8 ∧ v19 = .int .i64 i ∧ Aside0 (Wb wr (w.heap.size + 1) 28 (WS.take i ++ FX.drop i)) ∧ Aside0 (Wb wr w.heap.size 28 Z8) ∧ Aside0 (Bb wr w5.heap.size 34 (bytesS (digS KS FX nameS))) ∧ Aside0 (Below w.heap.size w wr)) (fun v19 _ => 8 - (intOf v19).toNat)
      case atStart => exact ⟨0, by omega, rfl, P6, R6, hb6, B6⟩
      case round =>
        clear P6 R6 hb6 B6
        obtain ⟨i, hi, rfl, P1, R1, D1, B1⟩ := hrel
        have hlen : (WS.take i ++ FX.drop i).length = 8 := by simp [length_FX, length_WS]; omega
        have hbl : (bytesS (digS KS FX nameS)).length = 64 := by rw [length_bytesS, length_digS _ _ length_FX]
        by_cases hlt : i < 8
        · have ca := P1.out.cell i (by omega)
          have fa := P1.out.free i
          have HS : Aside0 ((WS.take i ++ FX.drop i).set i (wordS ((bytesS (digS KS FX nameS)).drop (8 * i))) = WS.take (i + 1) ++ FX.drop (i + 1)) := ⟨by rw [← at_WS i hlt]; exact half_set WS FX i (by rw [length_WS]; exact hlt) rfl⟩
          have hcut := slice34 w5.heap.size i hlt
          have HRd : Aside0 (Kd.C (Kd.int .u8) wr (some ⟨w5.heap.size, 8 * i, none⟩) (64 - 8 * i) ((bytesS (digS KS FX nameS)).drop (8 * i))) := ⟨by have := D1.out.reads (by omega) (8 * i) (by omega); rw [hbl] at this; exact this⟩
          have HBL := Aside0.mk hbl
          clear hlen hbl
          go_wp2_with (go_at_call 22; refine (word_any ⟨w5.heap.size, 8 * i, none⟩ (64 - 8 * i) (64 - 8 * i) ((bytesS (digS KS FX nameS)).drop (8 * i)) _ (by rw [List.length_drop, HBL.out]; omega) ((by_bytesS _).drop _) (by rw [List.length_drop, HBL.out]) HRd.out (Nat.le_refl _)).mono ?_; rintro e w' ⟨rfl, ⟨nd, rfl⟩⟩)
          go_roundw
          case rel => exact ⟨i + 1, by omega, by go_num, ⟨by rw [← HS.out]; exact (P1.out.drewN nd).set i _⟩, ⟨(R1.out.drewN nd).other (B' := w.heap.size + 1) (by omega) _ _⟩, ⟨Bb.other (B' := w.heap.size + 1) D1.out (by omega) _ _⟩, ⟨below_set (pw_below_drewN B1.out _) (by omega)⟩⟩
          case measure => simp [intOf]; omega
        · obtain rfl : i = 8 := by omega
          have P2 := P1.out
          rw [List.take_of_length_le (by rw [length_WS]; omega), List.drop_of_length_le (by rw [length_FX]; omega), List.append_nil] at P2
          go_wp2_with (first | (refine load_words rfl 28 (.tmp 1) rfl (w.heap.size + 1) rfl 28 WS _ P2 Tryd.underlying28 rfl (by rw [length_WS]; exact info28) ?_) | (refine store_words rfl 28 (.tmp 0) (.tmp 29) rfl w.heap.size WS Z8 rfl rfl 28 R1.out (by rw [length_WS]; exact info28) (by rw [length_WS]; rfl) ?_; intro w7 HR7 HL7))
          exact bodyPost_ret (results_cell_row (fn := Tryd.f10) rfl _ _ w.heap.size 28 (wds WS) (0, 0) _ rfl HR7.out Tryd.underlying28 rfl (by rw [size_wds, length_WS]; exact info28)) rfl ⟨rfl, HL7.out.below (Nat.le_refl _) B1.out⟩
end Go.Proofs.YtfcadniglmhclaaDoor.S
