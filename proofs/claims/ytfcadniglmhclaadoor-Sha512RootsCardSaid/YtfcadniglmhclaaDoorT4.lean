/-
  The walk of sha512.Sum256 (function 9).
-/
import Derived.Test.YtfcadniglmhclaaDoorT3
namespace Go.Proofs.YtfcadniglmhclaaDoor.S
open Go.RowKit Go.Proofs.YtfcadniglmhclaaDoorW.PrintWords Go.Proofs.YtfcadniglmhclaaDoorW.PrintLast Go.Proofs.YtfcadniglmhclaaDoorW.PrintMore
open Go.Proofs.YtfcadniglmhclaaDoor.R

/-- SHA-512/256, as bytes. -/
def sum256S (b : List Int) : List Int := (bytesS (digS KS WS b)).take 32
theorem length_sum256S (b : List Int) : (sum256S b).length = 32 := by
  unfold sum256S; rw [List.length_take, length_bytesS, length_digS _ _ length_WS]; rfl
theorem array25 (p : Addr) (c : Nat) (w : World) : (Instr.arrayAt 25 (.slice (some p) 32 c)).run Tryd.prog w = .ok (.pointer (some p)) w := by
  simp [Instr.arrayAt, run_underlying Tryd.underlying25]

set_option maxRecDepth 100000 in
set_option maxHeartbeats 400000 in
theorem sum256_any (v : Value) (b : List Int) (w : World) (hn : b.length ≤ 1000000) (hby : By b) (hi : In w v b) (hG : Gl w) :
    Calls Tryd.prog 9 #[v] w fun e w' => e = .returned (.agg (bts (sum256S b))) ∧ Below w.heap.size w w' := by
  have hz := zero25
  have har := array25
  have HI := Aside0.mk hi
  have HG := Aside0.mk hG
  have HBY := Aside0.mk hby
  have HN := Aside0.mk hn
  have hbl : Aside0 ((bytesS (digS KS WS b)).length = 64) := ⟨by rw [length_bytesS, length_digS _ _ length_WS]⟩
  clear hi hby hn hG
  go_enter Tryd.func9, Tryd.ntmps9
  go_wp2_with (first | (go_at_call 10; refine (words_any _ (HG.out.below (below_alloc (Below.refl _ _) _))).mono ?_; rintro e w1 ⟨rfl, hb⟩; have HB := Aside0.mk (below_step (below_alloc (Below.refl w.heap.size w) _) hb); have R1 : Aside0 (Bb w1 w.heap.size 25 Z32l) := ⟨(Bb.newAt w 25 Z32l _ rfl).below hb⟩; clear hb) | (go_at_call 21; refine (digest_any WS _ b _ length_WS HN.out HBY.out (HI.out.below HB.out) (HG.out.below HB.out)).mono ?_; rintro e w2 ⟨rfl, hb⟩; have HB2 := Aside0.mk (below_step HB.out hb); have R2 : Aside0 (Bb w2 w.heap.size 25 Z32l) := ⟨R1.out.below hb⟩; clear hb) | (refine alloc_array rfl 34 rfl (bts Z64l) zero34b ?_) | (refine store_bytes rfl 34 (.tmp 3) (.tmp 6) rfl w2.heap.size (bytesS (digS KS WS b)) Z64l rfl rfl 34 (Bb.newAt w2 34 Z64l _ rfl) (by rw [hbl.out]; exact info34) (by rw [hbl.out]; rfl) ?_; intro w3 hb3 hk3 HL3; have R3 : Aside0 (Bb w3 w.heap.size 25 Z32l) := ⟨(hk3 _ (by have := R2.out.lt; omega)).trans (R2.out.alloc _)⟩; have HB3 : Aside0 (Below w.heap.size w w3) := ⟨HL3.out.below (by have := R2.out.lt; omega) (below_alloc HB2.out _)⟩; have hC : Aside0 (Kd.C (Kd.int .u8) w3 (some ⟨w2.heap.size, 0, none⟩) (sum256S b).length (sum256S b)) := ⟨Kd.C_take (hb3.out.reads (by have := hbl.out; omega) 0 (Nat.zero_le _)) (by have := hbl.out; simp; omega)⟩; clear hk3) | (refine load_bytes rfl 25 (.tmp 8) rfl ⟨w2.heap.size, 0, none⟩ rfl (sum256S b) _ hC.out Tryd.underlying25 rfl (by rw [length_sum256S]; exact info25) ?_) | (refine store_bytes rfl 25 (.tmp 2) (.tmp 9) rfl w.heap.size (sum256S b) Z32l rfl rfl 25 R3.out (by rw [length_sum256S]; exact info25) (by rw [length_sum256S]; rfl) ?_; intro w4 hb4 _ HL4))
  exact bodyPost_ret (results_cell_row (fn := Tryd.f9) rfl _ _ w.heap.size 25 (bts (sum256S b)) (0, 0) _ rfl hb4.out Tryd.underlying25 rfl (by rw [size_bts, length_sum256S]; exact info25)) rfl ⟨rfl, HL4.out.below (Nat.le_refl _) HB3.out⟩

def abcS : List Int := [97, 98, 99]
theorem by_abc : By abcS := fun x hx => by simp [abcS] at hx; omega
/-- A digest's first two bytes and its last. -/
def Works : Prop := at' (sum256S abcS) 0 = 83 ∧ at' (sum256S abcS) 1 = 4 ∧ at' (sum256S abcS) 31 = 35

set_option maxRecDepth 100000 in
set_option maxHeartbeats 400000 in
theorem works_any (hw : Works) (w : World) (hG : Gl w) :
    Calls Tryd.prog 13 #[] w fun e w' => e = .returned (.bool true) ∧ Below w.heap.size w w' := by
  have hz := zero25
  have HG := Aside0.mk hG
  have HW := Aside0.mk hw
  have kc := fun (w : World) (C : Array Value) (n c : Nat) => Lib.run_convert_bytes_const (P := Tryd.prog) w 22 5 C n c Tryd.underlying22 Tryd.underlying5
  have N1 : Aside0 (In (w.alloc (.cells (bts abcS) 5 (3, 4))) (.slice (some ⟨w.heap.size, 0, none⟩) 3 3) abcS) := ⟨In_const w abcS (3, 4) (by decide)⟩
  have HG2 : Aside0 (Gl (w.alloc (.cells (bts abcS) 5 (3, 4)))) := ⟨HG.out.below (below_alloc (Below.refl _ _) _)⟩
  have HCALL : Aside0 (Calls Tryd.prog 9 #[.slice (some ⟨w.heap.size, 0, none⟩) 3 3] (w.alloc (.cells (bts abcS) 5 (3, 4))) fun e w' => e = .returned (.agg (bts (sum256S abcS))) ∧ Below (w.alloc (.cells (bts abcS) 5 (3, 4))).heap.size (w.alloc (.cells (bts abcS) 5 (3, 4))) w') := ⟨sum256_any _ abcS _ (by decide) by_abc N1.out HG2.out⟩
  clear hG hw
  go_enter Tryd.func13, Tryd.ntmps13
  go_wp2_with (first | (go_at_call 9; refine HCALL.out.mono ?_; rintro e w5 ⟨rfl, hb5⟩; have H5 := Aside0.mk hb5; clear hb5) | (refine alloc_array rfl 25 rfl (bts Z32l) zero25 ?_) | (refine store_bytes rfl 25 (.tmp 1) (.tmp 4) rfl w5.heap.size (sum256S abcS) Z32l rfl rfl 25 (Bb.newAt w5 25 Z32l _ rfl) (by rw [length_sum256S]; exact info25) (by rw [length_sum256S]; rfl) ?_; intro w6 hb6 _ HL6; have c0 := hb6.out.cell 0 (by rw [length_sum256S]; omega); have c1 := hb6.out.cell 1 (by rw [length_sum256S]; omega); have c31 := hb6.out.cell 31 (by rw [length_sum256S]; omega); rw [HW.out.1] at c0; rw [HW.out.2.1] at c1; rw [HW.out.2.2] at c31; have B6 : Aside0 (Below w.heap.size w w6) := ⟨HL6.out.below (by have h1 := H5.out.size; simp at h1; omega) (below_alloc (below_step (below_alloc (Below.refl _ _) _) H5.out) _)⟩))
  go_ret
  exact ⟨rfl, B6.out⟩
end Go.Proofs.YtfcadniglmhclaaDoor.S
