/-
  The walk of the reference's Sum256 (function 12); the contract of cut (function 8).
-/
import Derived.Test.YtfcadniglmhclaaDoorQ5
import Derived.Test.YtfcadniglmhclaaDoorT4

namespace Go.Proofs.YtfcadniglmhclaaDoor.S
open Go.RowKit Go.Proofs.YtfcadniglmhclaaDoorW.PrintWords Go.Proofs.YtfcadniglmhclaaDoorW.PrintLast Go.Proofs.YtfcadniglmhclaaDoorW.PrintMore
open Go.Proofs.YtfcadniglmhclaaDoor.R
set_option linter.unusedSimpArgs false
set_option linter.unusedVariables false

/-- SHA-512/256 as the reference has it. -/
def ref256S (b : List Int) : List Int := (bytesS (digS KS (digS KS FX nameS) b)).take 32
theorem length_ref256S (b : List Int) : (ref256S b).length = 32 := by
  unfold ref256S; rw [List.length_take, length_bytesS, length_digS _ _ (length_digS _ _ length_FX)]; rfl

theorem refbytes_block (A : Option Addr) (c : Nat) (l : List Int) (w : World) (hl : l.length = 8) (hr : Kd.C (Kd.int .u64) w A l.length l) (hc : l.length ≤ c) :
    Calls Tryd.prog 24 #[.slice A l.length c] w fun e w' => ∃ g cap cells, e = .returned (.slice (some ⟨g, 0, none⟩) 64 cap) ∧ 64 ≤ cap ∧ w.heap.size ≤ g ∧ w'.heap[g]? = some (.cells cells 5 (0, 0)) ∧ Kd.C (Kd.int .u8) w' (some ⟨g, 0, none⟩) (bytesS l).length (bytesS l) ∧ Below w.heap.size w w' :=
  (spinneyref02_bytes.calls (10 * l.length + 1) A c l (bytesS l) w hr hc (refbytes_f l (by omega))).mono fun e w' ⟨v, he, ho, hb⟩ => by
    have h64 : (bytesS l).length = 64 := by rw [length_bytesS, hl]
    obtain ⟨g, cap, cells, rfl, h1, h2, h3, h4⟩ := R_block ho (by intro hf; rw [hf] at h64; simp at h64) 64 h64
    exact ⟨g, cap, cells, he, h1, h2, h3, h4, hb⟩

set_option maxRecDepth 100000 in
set_option maxHeartbeats 1000000 in
theorem refsum256_any (v : Value) (b : List Int) (w : World) (hn : b.length ≤ 1000000) (hby : By b) (hi : In w v b) :
    Calls Tryd.prog 12 #[v] w fun e w' => e = .returned (.agg (bts (ref256S b))) ∧ Below w.heap.size w w' := by
  have hz := zero25
  have HI := Aside0.mk hi
  have HBY := Aside0.mk hby
  have HN := Aside0.mk hn
  obtain ⟨F, hF⟩ : ∃ F, F = digS KS FX nameS := ⟨_, rfl⟩
  obtain ⟨D, hD⟩ : ∃ D, D = digS KS F b := ⟨_, rfl⟩
  obtain ⟨r, hr⟩ : ∃ r, r = bytesS D := ⟨_, rfl⟩
  obtain ⟨l, hl⟩ : ∃ l, l = ref256S b := ⟨_, rfl⟩
  have hfl : F.length = 8 := by rw [hF]; exact length_digS _ _ length_FX
  have hdl : D.length = 8 := by rw [hD]; exact length_digS _ _ hfl
  have HRL : Aside0 (r.length = 64) := ⟨by rw [hr, length_bytesS, hdl]⟩
  have HLE : Aside0 (l = r.take 32) := ⟨by rw [hl, hr, hD, hF]; rfl⟩
  have HLL : Aside0 (l.length = 32) := ⟨by rw [hl]; exact length_ref256S b⟩
  rw [← hl]
  have C11 : ∀ w, Calls Tryd.prog 11 #[] w fun e w' => ∃ A c, e = .returned (.slice A F.length c) ∧ F.length ≤ c ∧ Kd.C (Kd.int .u64) w' A F.length F ∧ Below w.heap.size w w' := by rw [hF]; exact refwords_any
  have C23 : ∀ (A0 : Option Addr) (c0 : Nat) (w : World), Kd.C (Kd.int .u64) w A0 F.length F → F.length ≤ c0 → In w v b → Calls Tryd.prog 23 #[.slice A0 F.length c0, v] w fun e w' => ∃ A c, e = .returned (.slice A D.length c) ∧ D.length ≤ c ∧ Kd.C (Kd.int .u64) w' A D.length D ∧ Below w.heap.size w w' := fun A0 c0 w h1 h2 h3 => by rw [hD]; exact refdigest_any F A0 c0 v b w hfl HN.out HBY.out h1 h2 h3
  have C24 : ∀ (A : Option Addr) (c : Nat) (w : World), Kd.C (Kd.int .u64) w A D.length D → D.length ≤ c → Calls Tryd.prog 24 #[.slice A D.length c] w fun e w' => ∃ g cap cells, e = .returned (.slice (some ⟨g, 0, none⟩) 64 cap) ∧ 64 ≤ cap ∧ w.heap.size ≤ g ∧ w'.heap[g]? = some (.cells cells 5 (0, 0)) ∧ Kd.C (Kd.int .u8) w' (some ⟨g, 0, none⟩) r.length r ∧ Below w.heap.size w w' := fun A c w h1 h2 => by rw [hr]; exact refbytes_block A c D w hdl h1 h2
  have H11 := Aside0.mk C11
  have H23 := Aside0.mk C23
  have H24 := Aside0.mk C24
  have B0 : Aside0 (Below w.heap.size w ((w.alloc (.cells (bts Z32l) 25)).alloc (.cells (bts Z32l) 25))) := ⟨below_alloc (below_alloc (Below.refl _ _) _) _⟩
  clear hi hby hn hF hD hr hl hfl hdl C11 C23 C24
  go_enter Tryd.func12, Tryd.ntmps12
  go_wp2_with (first | (go_at_call 11; refine (H11.out _).mono ?_; rintro e w1 ⟨A1, c1, rfl, h1, h2, h3⟩; have L1 := Aside0.mk h1; have C1 := Aside0.mk h2; have B1 := Aside0.mk h3; clear h1 h2 h3) | (go_at_call 23; refine (H23.out _ _ _ C1.out L1.out (HI.out.below (below_step B0.out B1.out))).mono ?_; rintro e w2 ⟨A2, c2, rfl, h1, h2, h3⟩; have L2 := Aside0.mk h1; have C2 := Aside0.mk h2; have B2 := Aside0.mk (below_step B1.out h3); clear h1 h2 h3) | (go_at_call 24; refine (H24.out _ _ _ C2.out L2.out).mono ?_; rintro e w3 ⟨g, c3, cells, rfl, h1, h0, h4, h2, h3⟩; have L3 := Aside0.mk h1; have G3 := Aside0.mk h0; have K3 := Aside0.mk h4; have C3 := Aside0.mk h2; have B3 := Aside0.mk (below_step B2.out h3); clear h1 h0 h4 h2 h3))
  have V3 : Aside0 (Bb w3 (w.heap.size + 1) 25 Z32l) := ⟨(Bb.newAt (w.alloc _) 25 Z32l _ (by simp)).below B3.out⟩
  have R3 : Aside0 (Bb w3 w.heap.size 25 Z32l) := ⟨((Bb.newAt w 25 Z32l _ rfl).alloc _).below B3.out⟩
  have B4 : Aside0 (Below w.heap.size w w3) := ⟨below_step B0.out B3.out⟩
  have S3 : w.heap.size + 1 < g := by have h1 := G3.out; have h2 := B2.out.size; simp at h2; omega
  clear C1 L1 B1 C2 L2 B2 B3 B0
  go_loopw [5] (fun v5 wr => ∃ i : Nat, i ≤ 32 ∧ v5 = .int .i64 i ∧ Aside0 (Bb wr (w.heap.size + 1) 25 (l.take i ++ Z32l.drop i)) ∧ Aside0 (Bb wr w.heap.size 25 Z32l) ∧ Aside0 (wr.heap[g]? = some (.cells cells 5 (0, 0))) ∧ Aside0 (Below w.heap.size w wr)) (fun v5 _ => 32 - (intOf v5).toNat)
  case atStart => exact ⟨0, by omega, rfl, ⟨by rw [List.take_zero, List.nil_append, List.drop_zero]; exact V3.out⟩, R3, K3, B4⟩
  case round =>
    clear V3 R3 B4
    obtain ⟨i, hi, rfl, V1, R1, K1, B1⟩ := hrel
    have hlen : (l.take i ++ Z32l.drop i).length = 32 := by have h1 := HLL.out; simp [Z32l]; omega
    by_cases hlt : i < 32
    · have ca := V1.out.cell i (by omega)
      have fa := V1.out.free i
      obtain ⟨ad, he, hx⟩ := Kd.at_int (C_block C3.out K3.out K1.out) (i : Int) (by omega) (by rw [HRL.out]; omega)
      obtain rfl := Option.some.inj he
      have hadd : (⟨g, 0, none⟩ : Addr).add i = ⟨g, i, none⟩ := by unfold Addr.add; split <;> simp_all
      rw [Int.toNat_natCast, rd_at, hadd] at hx
      have hat : at' l i = at' r i := by
        rw [HLE.out]; unfold at'; rw [List.getD_eq_getElem?_getD, List.getElem?_take_of_lt hlt, List.getD_eq_getElem?_getD]
      have HS : Aside0 ((l.take i ++ Z32l.drop i).set i (at' r i) = l.take (i + 1) ++ Z32l.drop (i + 1)) := ⟨by rw [← hat]; exact half_set l Z32l i (by rw [HLL.out]; exact hlt) (by rw [HLL.out]; rfl)⟩
      clear hlen hat he hadd
      go_wp2
      go_roundw
      case rel => exact ⟨i + 1, by omega, by go_num, ⟨by rw [← HS.out]; exact V1.out.set i _⟩, ⟨R1.out.other (B' := w.heap.size + 1) (by omega) _ _⟩, ⟨(heap_setCell_other _ _ g _ (show g ≠ w.heap.size + 1 by omega)).trans K1.out⟩, ⟨below_set B1.out (by omega)⟩⟩
      case measure => simp [intOf]; omega
    · obtain rfl : i = 32 := by omega
      have V2 := V1.out
      rw [List.take_of_length_le (by rw [HLL.out]; omega), List.drop_of_length_le (by simp [Z32l]), List.append_nil] at V2
      have hC : Aside0 (Kd.C (Kd.int .u8) wr (some ⟨w.heap.size + 1, 0, none⟩) l.length l) := ⟨by have := V2.reads (by rw [HLL.out]; omega) 0 (Nat.zero_le _); simpa using this⟩
      clear V2 hlen
      go_wp2_with (first | (refine load_bytes rfl 25 (.tmp 3) rfl ⟨w.heap.size + 1, 0, none⟩ rfl l _ hC.out Tryd.underlying25 rfl (by rw [HLL.out]; exact info25) ?_) | (refine store_bytes rfl 25 (.tmp 2) (.tmp 20) rfl w.heap.size l Z32l rfl rfl 25 R1.out (by rw [HLL.out]; exact info25) (by rw [HLL.out]; rfl) ?_; intro w4 hb4 _ HL4))
      exact bodyPost_ret (results_cell_row (fn := Tryd.f12) rfl _ _ w.heap.size 25 (bts l) (0, 0) _ rfl hb4.out Tryd.underlying25 rfl (by rw [size_bts, HLL.out]; exact info25)) rfl ⟨rfl, HL4.out.below (Nat.le_refl _) B1.out⟩
end Go.Proofs.YtfcadniglmhclaaDoor.S
