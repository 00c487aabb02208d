/-
  The walk of Sha512Known (function 6).
-/
import Derived.Test.YtfcadniglmhclaaDoorU6
namespace Go.Proofs.YtfcadniglmhclaaDoor.S
open Go.RowKit Go.Proofs.YtfcadniglmhclaaDoorW.PrintWords Go.Proofs.YtfcadniglmhclaaDoorW.PrintLast Go.Proofs.YtfcadniglmhclaaDoorW.PrintMore
open Go.Proofs.YtfcadniglmhclaaDoor.R
set_option linter.unusedSimpArgs false
set_option linter.unusedVariables false

def E64 : List Int := [207, 131, 225, 53, 126, 239, 184, 189, 241, 84, 40, 80, 214, 109, 128, 7, 214, 32, 228, 5, 11, 87, 21, 220, 131, 244, 169, 33, 211, 108, 233, 206, 71, 208, 209, 60, 93, 133, 242, 176, 255, 131, 24, 210, 135, 126, 236, 47, 99, 185, 49, 189, 71, 65, 122, 129, 165, 56, 50, 122, 249, 39, 218, 62]
def A64 : List Int := [221, 175, 53, 161, 147, 97, 122, 186, 204, 65, 115, 73, 174, 32, 65, 49, 18, 230, 250, 78, 137, 169, 126, 162, 10, 158, 238, 230, 75, 85, 211, 154, 33, 146, 153, 42, 39, 79, 193, 168, 54, 186, 60, 35, 163, 254, 235, 189, 69, 77, 68, 35, 100, 60, 232, 14, 42, 154, 201, 79, 165, 76, 164, 159]
def E32 : List Int := [198, 114, 184, 209, 239, 86, 237, 40, 171, 135, 195, 98, 44, 81, 20, 6, 155, 221, 58, 215, 184, 249, 115, 116, 152, 208, 192, 30, 206, 240, 150, 122]
def A32 : List Int := [83, 4, 142, 38, 129, 148, 30, 249, 155, 46, 41, 183, 107, 76, 125, 171, 228, 194, 208, 198, 52, 252, 109, 70, 224, 226, 241, 49, 7, 231, 175, 35]
set_option maxRecDepth 1000000 in
theorem sumE : sumS [] = E64 := by decide +kernel
set_option maxRecDepth 1000000 in
theorem sumA : sumS abcS = A64 := by decide +kernel
set_option maxRecDepth 1000000 in
theorem sum256E : sum256S [] = E32 := by decide +kernel
set_option maxRecDepth 1000000 in
theorem sum256A : sum256S abcS = A32 := by decide +kernel
set_option maxRecDepth 1000000 in
theorem hexE64 : strOfNums (hexS E64) = (⟨(List.append [99, 102, 56, 51, 101, 49, 51, 53, 55, 101, 101, 102, 98, 56, 98, 100, 102, 49, 53, 52, 50, 56, 53, 48, 100, 54, 54, 100, 56, 48, 48, 55, 100, 54, 50, 48, 101, 52, 48, 53, 48, 98, 53, 55, 49, 53, 100, 99, 56, 51, 102, 52, 97, 57, 50, 49, 100, 51, 54, 99, 101, 57, 99, 101] [52, 55, 100, 48, 100, 49, 51, 99, 53, 100, 56, 53, 102, 50, 98, 48, 102, 102, 56, 51, 49, 56, 100, 50, 56, 55, 55, 101, 101, 99, 50, 102, 54, 51, 98, 57, 51, 49, 98, 100, 52, 55, 52, 49, 55, 97, 56, 49, 97, 53, 51, 56, 51, 50, 55, 97, 102, 57, 50, 55, 100, 97, 51, 101]).toArray⟩ : ByteArray) := by decide +kernel
set_option maxRecDepth 1000000 in
theorem hexA64 : strOfNums (hexS A64) = (⟨(List.append [100, 100, 97, 102, 51, 53, 97, 49, 57, 51, 54, 49, 55, 97, 98, 97, 99, 99, 52, 49, 55, 51, 52, 57, 97, 101, 50, 48, 52, 49, 51, 49, 49, 50, 101, 54, 102, 97, 52, 101, 56, 57, 97, 57, 55, 101, 97, 50, 48, 97, 57, 101, 101, 101, 101, 54, 52, 98, 53, 53, 100, 51, 57, 97] [50, 49, 57, 50, 57, 57, 50, 97, 50, 55, 52, 102, 99, 49, 97, 56, 51, 54, 98, 97, 51, 99, 50, 51, 97, 51, 102, 101, 101, 98, 98, 100, 52, 53, 52, 100, 52, 52, 50, 51, 54, 52, 51, 99, 101, 56, 48, 101, 50, 97, 57, 97, 99, 57, 52, 102, 97, 53, 52, 99, 97, 52, 57, 102]).toArray⟩ : ByteArray) := by decide +kernel
set_option maxRecDepth 1000000 in
theorem hexE32 : strOfNums (hexS E32) = (⟨#[99, 54, 55, 50, 98, 56, 100, 49, 101, 102, 53, 54, 101, 100, 50, 56, 97, 98, 56, 55, 99, 51, 54, 50, 50, 99, 53, 49, 49, 52, 48, 54, 57, 98, 100, 100, 51, 97, 100, 55, 98, 56, 102, 57, 55, 51, 55, 52, 57, 56, 100, 48, 99, 48, 49, 101, 99, 101, 102, 48, 57, 54, 55, 97]⟩ : ByteArray) := by decide +kernel
set_option maxRecDepth 1000000 in
theorem hexA32 : strOfNums (hexS A32) = (⟨#[53, 51, 48, 52, 56, 101, 50, 54, 56, 49, 57, 52, 49, 101, 102, 57, 57, 98, 50, 101, 50, 57, 98, 55, 54, 98, 52, 99, 55, 100, 97, 98, 101, 52, 99, 50, 100, 48, 99, 54, 51, 52, 102, 99, 54, 100, 52, 54, 101, 48, 101, 50, 102, 49, 51, 49, 48, 55, 101, 55, 97, 102, 50, 51]⟩ : ByteArray) := by decide +kernel
set_option maxRecDepth 1000000 in
theorem ne_zero32 (w : World) : (Op.equalIn 10000 25 (.agg (bts E32)) (.agg (bts Z32l))).run Tryd.prog w = .ok false w := by kernel_rfl
theorem by_E64 : By E64 := by unfold By; decide +kernel
theorem by_A64 : By A64 := by unfold By; decide +kernel
theorem by_E32 : By E32 := by unfold By; decide +kernel
theorem by_A32 : By A32 := by unfold By; decide +kernel
theorem len_E64 : E64.length = 64 := rfl
theorem len_A64 : A64.length = 64 := rfl
theorem len_E32 : E32.length = 32 := rfl
theorem len_A32 : A32.length = 32 := rfl
/-- A block of bytes is a row that may be handed in. -/
theorem Bb.in_ {w : World} {B : Nat} {t : TypeId} {l : List Int} (h : Bb w B t l) (n : Nat) (hn : l.length = n) (hm : n ≤ 1000000) : In w (.slice (some ⟨B, 0, none⟩) n n) l := by
  have h1 := h.reads (by omega) 0 (Nat.zero_le _)
  subst hn
  exact .inr ⟨_, _, rfl, Nat.le_refl _, by simpa using h1⟩
section
variable {P : Program} {ops : Array Oper} {rest : List Oper} {o : Oper} {a : Act} {w : World} {Q : Exit → Act → World → Prop}
theorem guarded_load (hw : Region.wanted o (yielded ops a.tmps) = true) (ty : TypeId) (x : Operand) (ho : o.op = .load ty x) (B : Nat) (hx : a.eval x = .pointer (some ⟨B, 0, none⟩)) (t : TypeId) (l : List Int) (d : TypeDesc)
    (hg : Bb w B t l) (hu : P.underlying ty = some d) (hd : (match d with | .struct _ | .array _ _ => true | _ => false) = true) (hi : (P.info? ty).map (·.size) = some l.length)
    (h : wpList P ops Q rest (a.put o.dst (.agg (bts l))) w) : wpList P ops Q (o :: rest) a w :=
  wpList_step fun K hK => by
    rw [if_pos hw]
    exact wp_load_row ty x ho B hx t (bts l) (0, 0) d hg hu hd (by rw [size_bts]; exact hi) (hK _ _ h)
end
theorem known_text (l : List Int) (n : Nat) (k : ByteArray) (hl : l.length = n) (hn : n ≤ 1000) (hby : By l) (hk : strOfNums (hexS l) = k) {w : World} {B : Nat} {t : TypeId} (h : Bb w B t l) :
    Calls Tryd.prog 16 #[.slice (some ⟨B, 0, none⟩) n n] w fun e w' => e = .returned (.string k) ∧ Below w.heap.size w w' := by
  rw [← hk]
  exact text_any _ l w (by omega) hby (h.in_ n hl (by omega))
theorem c_sumE {w : World} (hG : Gl w) : Calls Tryd.prog 14 #[.slice none 0 0] w fun e w' => e = .returned (.agg (bts E64)) ∧ Below w.heap.size w w' := by
  rw [← sumE]; exact sum_any _ [] w (by simp) (fun x hx => by cases hx) (.inl ⟨rfl, rfl⟩) hG
theorem c_sum256E {w : World} (hG : Gl w) : Calls Tryd.prog 9 #[.slice none 0 0] w fun e w' => e = .returned (.agg (bts E32)) ∧ Below w.heap.size w w' := by
  rw [← sum256E]; exact sum256_any _ [] w (by simp) (fun x hx => by cases hx) (.inl ⟨rfl, rfl⟩) hG
theorem c_sumA {w : World} (hG : Gl w) : Calls Tryd.prog 14 #[.slice (some ⟨w.heap.size, 0, none⟩) 3 3] (w.alloc (.cells (bts abcS) 5 (3, 4))) fun e w' => e = .returned (.agg (bts A64)) ∧ Below w.heap.size w w' := by
  rw [← sumA]; exact (sum_any _ abcS _ (by decide) by_abc (In_const w abcS (3, 4) (by decide)) (hG.below (below_alloc (Below.refl _ _) _))).mono fun e w' ⟨h1, h2⟩ => ⟨h1, below_step (below_alloc (Below.refl _ _) _) h2⟩
theorem c_sum256A {w : World} (hG : Gl w) : Calls Tryd.prog 9 #[.slice (some ⟨w.heap.size, 0, none⟩) 3 3] (w.alloc (.cells (bts abcS) 5 (3, 4))) fun e w' => e = .returned (.agg (bts A32)) ∧ Below w.heap.size w w' := by
  rw [← sum256A]; exact (sum256_any _ abcS _ (by decide) by_abc (In_const w abcS (3, 4) (by decide)) (hG.below (below_alloc (Below.refl _ _) _))).mono fun e w' ⟨h1, h2⟩ => ⟨h1, below_step (below_alloc (Below.refl _ _) _) h2⟩

set_option maxRecDepth 1000000 in
set_option maxHeartbeats 1000000 in
theorem known_any (hw : Works) (w : World) (hG0 : Gl w) :
    Calls Tryd.prog 6 #[] w fun e w' => e = .returned (.bool true) ∧ Below w.heap.size w w' := by
  have hz := zero25
  have hne := ne_zero32
  have HW := Aside0.mk hw
  have HG0 := Aside0.mk hG0
  have kc := fun (w : World) (C : Array Value) (n c : Nat) => Lib.run_convert_bytes_const (P := Tryd.prog) w 22 5 C n c Tryd.underlying22 Tryd.underlying5
  obtain ⟨e64, h1⟩ : ∃ l, l = E64 := ⟨_, rfl⟩
  obtain ⟨a64, h2⟩ : ∃ l, l = A64 := ⟨_, rfl⟩
  obtain ⟨e32, h3⟩ : ∃ l, l = E32 := ⟨_, rfl⟩
  obtain ⟨a32, h4⟩ : ∃ l, l = A32 := ⟨_, rfl⟩
  have LE : Aside0 (e64.length = 64) := ⟨by rw [h1]; rfl⟩
  have LA : Aside0 (a64.length = 64) := ⟨by rw [h2]; rfl⟩
  have ME : Aside0 (e32.length = 32) := ⟨by rw [h3]; rfl⟩
  have MA : Aside0 (a32.length = 32) := ⟨by rw [h4]; rfl⟩
  have C1 : Aside0 (∀ {w : World}, Gl w → Calls Tryd.prog 14 #[.slice none 0 0] w fun e w' => e = .returned (.agg (bts e64)) ∧ Below w.heap.size w w') := ⟨by rw [h1]; exact c_sumE⟩
  have C2 : Aside0 (∀ {w : World}, Gl w → Calls Tryd.prog 14 #[.slice (some ⟨w.heap.size, 0, none⟩) 3 3] (w.alloc (.cells #[.int .u8 97, .int .u8 98, .int .u8 99] 5 (3, 4))) fun e w' => e = .returned (.agg (bts a64)) ∧ Below w.heap.size w w') := ⟨by rw [h2]; exact c_sumA⟩
  have C3 : Aside0 (∀ {w : World}, Gl w → Calls Tryd.prog 9 #[.slice none 0 0] w fun e w' => e = .returned (.agg (bts e32)) ∧ Below w.heap.size w w') := ⟨by rw [h3]; exact c_sum256E⟩
  have C4 : Aside0 (∀ {w : World}, Gl w → Calls Tryd.prog 9 #[.slice (some ⟨w.heap.size, 0, none⟩) 3 3] (w.alloc (.cells #[.int .u8 97, .int .u8 98, .int .u8 99] 5 (3, 4))) fun e w' => e = .returned (.agg (bts a32)) ∧ Below w.heap.size w w') := ⟨by rw [h4]; exact c_sum256A⟩
  have X1 : Aside0 (∀ {w : World} {B : Nat} {t : TypeId}, Bb w B t e64 → Calls Tryd.prog 16 #[.slice (some ⟨B, 0, none⟩) 64 64] w fun e w' => e = .returned (.string ⟨(List.append [99, 102, 56, 51, 101, 49, 51, 53, 55, 101, 101, 102, 98, 56, 98, 100, 102, 49, 53, 52, 50, 56, 53, 48, 100, 54, 54, 100, 56, 48, 48, 55, 100, 54, 50, 48, 101, 52, 48, 53, 48, 98, 53, 55, 49, 53, 100, 99, 56, 51, 102, 52, 97, 57, 50, 49, 100, 51, 54, 99, 101, 57, 99, 101] [52, 55, 100, 48, 100, 49, 51, 99, 53, 100, 56, 53, 102, 50, 98, 48, 102, 102, 56, 51, 49, 56, 100, 50, 56, 55, 55, 101, 101, 99, 50, 102, 54, 51, 98, 57, 51, 49, 98, 100, 52, 55, 52, 49, 55, 97, 56, 49, 97, 53, 51, 56, 51, 50, 55, 97, 102, 57, 50, 55, 100, 97, 51, 101]).toArray⟩) ∧ Below w.heap.size w w') := ⟨by rw [h1]; exact fun h => known_text E64 64 _ len_E64 (by omega) by_E64 hexE64 h⟩
  have X2 : Aside0 (∀ {w : World} {B : Nat} {t : TypeId}, Bb w B t a64 → Calls Tryd.prog 16 #[.slice (some ⟨B, 0, none⟩) 64 64] w fun e w' => e = .returned (.string ⟨(List.append [100, 100, 97, 102, 51, 53, 97, 49, 57, 51, 54, 49, 55, 97, 98, 97, 99, 99, 52, 49, 55, 51, 52, 57, 97, 101, 50, 48, 52, 49, 51, 49, 49, 50, 101, 54, 102, 97, 52, 101, 56, 57, 97, 57, 55, 101, 97, 50, 48, 97, 57, 101, 101, 101, 101, 54, 52, 98, 53, 53, 100, 51, 57, 97] [50, 49, 57, 50, 57, 57, 50, 97, 50, 55, 52, 102, 99, 49, 97, 56, 51, 54, 98, 97, 51, 99, 50, 51, 97, 51, 102, 101, 101, 98, 98, 100, 52, 53, 52, 100, 52, 52, 50, 51, 54, 52, 51, 99, 101, 56, 48, 101, 50, 97, 57, 97, 99, 57, 52, 102, 97, 53, 52, 99, 97, 52, 57, 102]).toArray⟩) ∧ Below w.heap.size w w') := ⟨by rw [h2]; exact fun h => known_text A64 64 _ len_A64 (by omega) by_A64 hexA64 h⟩
  have X3 : Aside0 (∀ {w : World} {B : Nat} {t : TypeId}, Bb w B t e32 → Calls Tryd.prog 16 #[.slice (some ⟨B, 0, none⟩) 32 32] w fun e w' => e = .returned (.string ⟨#[99, 54, 55, 50, 98, 56, 100, 49, 101, 102, 53, 54, 101, 100, 50, 56, 97, 98, 56, 55, 99, 51, 54, 50, 50, 99, 53, 49, 49, 52, 48, 54, 57, 98, 100, 100, 51, 97, 100, 55, 98, 56, 102, 57, 55, 51, 55, 52, 57, 56, 100, 48, 99, 48, 49, 101, 99, 101, 102, 48, 57, 54, 55, 97]⟩) ∧ Below w.heap.size w w') := ⟨by rw [h3]; exact fun h => known_text E32 32 _ len_E32 (by omega) by_E32 hexE32 h⟩
  have X4 : Aside0 (∀ {w : World} {B : Nat} {t : TypeId}, Bb w B t a32 → Calls Tryd.prog 16 #[.slice (some ⟨B, 0, none⟩) 32 32] w fun e w' => e = .returned (.string ⟨#[53, 51, 48, 52, 56, 101, 50, 54, 56, 49, 57, 52, 49, 101, 102, 57, 57, 98, 50, 101, 50, 57, 98, 55, 54, 98, 52, 99, 55, 100, 97, 98, 101, 52, 99, 50, 100, 48, 99, 54, 51, 52, 102, 99, 54, 100, 52, 54, 101, 48, 101, 50, 102, 49, 51, 49, 48, 55, 101, 55, 97, 102, 50, 51]⟩) ∧ Below w.heap.size w w') := ⟨by rw [h4]; exact fun h => known_text A32 32 _ len_A32 (by omega) by_A32 hexA32 h⟩
  rw [← h3] at hne
  clear hw hG0 h1 h2 h3 h4
  go_enter Tryd.func6, Tryd.ntmps6
  go_wp2_with (first | (go_at_call 14; with_reducible refine (C1.out HG0.out).mono ?_; rintro e w1 ⟨rfl, hb⟩; have B1 := Aside0.mk hb; have G1 := Aside0.mk (HG0.out.below hb); clear hb) | (go_at_call 14; with_reducible refine (C2.out (w := w1) G1.out).mono ?_; rintro e w2 ⟨rfl, hb⟩; have B2 := Aside0.mk (below_step B1.out hb); have G2 := Aside0.mk (HG0.out.below B2.out); clear hb) | (refine alloc_array rfl 34 rfl (bts Z64l) zero34b ?_) | (refine alloc_array rfl 25 rfl (bts Z32l) zero25 ?_) | (refine store_bytes rfl 34 (.tmp 1) (.tmp 5) rfl w2.heap.size e64 Z64l rfl rfl 34 ((Bb.newAt w2 34 Z64l _ rfl).alloc _) (by rw [LE.out]; exact info34) (by rw [LE.out]; rfl) ?_; intro w3 hb3 hk3 HL3; have R3 : Aside0 (Bb w3 (w2.heap.size + 1) 34 Z64l) := ⟨(hk3 _ (by omega)).trans (Bb.newAt (w2.alloc _) 34 Z64l _ (by simp))⟩; refine store_bytes rfl 34 (.tmp 2) (.tmp 8) rfl _ a64 Z64l rfl rfl 34 (by simpa using R3.out) (by rw [LA.out]; exact info34) (by rw [LA.out]; rfl) ?_; intro w4 hb4 hk4 HL4; have RA : Aside0 (Bb w4 (w2.heap.size + 1) 34 a64) := ⟨by simpa using hb4.out⟩; have RE : Aside0 (Bb w4 w2.heap.size 34 e64) := ⟨(hk4 _ (by simp)).trans hb3.out⟩; have B4 : Aside0 (Below w.heap.size w w4) := ⟨HL4.out.below (by have := below_size B2.out; simp; omega) (HL3.out.below (below_size B2.out) (below_alloc (below_alloc B2.out _) _))⟩; have G4 := Aside0.mk (HG0.out.below B4.out); clear hb3 hb4 hk3 hk4 HL3 HL4 R3 B1 G1 B2 G2) | (go_at_call 9; with_reducible refine (C3.out G4.out).mono ?_; rintro e w5 ⟨rfl, hb⟩; have B5 := Aside0.mk hb; have G5 := Aside0.mk (G4.out.below hb); clear hb) | (go_at_call 9; with_reducible refine (C4.out (w := w5) G5.out).mono ?_; rintro e w6 ⟨rfl, hb⟩; have B6 := Aside0.mk (below_step B5.out hb); clear hb) | (refine store_bytes rfl 25 (.tmp 3) (.tmp 9) rfl w6.heap.size e32 Z32l rfl rfl 25 ((Bb.newAt w6 25 Z32l _ rfl).alloc _) (by rw [ME.out]; exact info25) (by rw [ME.out]; rfl) ?_; intro w7 hb7 hk7 HL7; have R7 : Aside0 (Bb w7 (w6.heap.size + 1) 25 Z32l) := ⟨(hk7 _ (by omega)).trans (Bb.newAt (w6.alloc _) 25 Z32l _ (by simp))⟩; refine store_bytes rfl 25 (.tmp 4) (.tmp 12) rfl _ a32 Z32l rfl rfl 25 (by simpa using R7.out) (by rw [MA.out]; exact info25) (by rw [MA.out]; rfl) ?_; intro w8 hb8 hk8 HL8; have SA : Aside0 (Bb w8 (w6.heap.size + 1) 25 a32) := ⟨by simpa using hb8.out⟩; have SE : Aside0 (Bb w8 w6.heap.size 25 e32) := ⟨(hk8 _ (by simp)).trans hb7.out⟩; have B8 : Aside0 (Below w4.heap.size w4 w8) := ⟨HL8.out.below (by have := below_size B6.out; simp; omega) (HL7.out.below (below_size B6.out) (below_alloc (below_alloc B6.out _) _))⟩; have TE := Aside0.mk (RE.out.below B8.out); have TA := Aside0.mk (RA.out.below B8.out); have B48 := Aside0.mk (below_step B4.out B8.out); clear hb7 hb8 hk7 hk8 HL7 HL8 R7 B5 B6 RE RA G5) | (go_at_call 16; with_reducible refine (X1.out TE.out).mono ?_; rintro e w9 ⟨rfl, hb⟩; have TA9 := Aside0.mk (TA.out.below hb); have SE9 := Aside0.mk (SE.out.below hb); have SA9 := Aside0.mk (SA.out.below hb); have B9 := Aside0.mk (below_step B48.out hb); clear hb TE TA SE SA) | (go_at_call 16; with_reducible refine (X2.out TA9.out).mono ?_; rintro e w10 ⟨rfl, hb⟩; have SE10 := Aside0.mk (SE9.out.below hb); have SA10 := Aside0.mk (SA9.out.below hb); have B10 := Aside0.mk (below_step B9.out hb); clear hb TA9 SE9 SA9) | (go_at_call 16; with_reducible refine (X3.out SE10.out).mono ?_; rintro e w11 ⟨rfl, hb⟩; have SE11 := Aside0.mk (SE10.out.below hb); have SA11 := Aside0.mk (SA10.out.below hb); have B11 := Aside0.mk (below_step B10.out hb); clear hb SE10 SA10) | (go_at_call 16; with_reducible refine (X4.out SA11.out).mono ?_; rintro e w12 ⟨rfl, hb⟩; have SE12 := Aside0.mk (SE11.out.below hb); have B12 := Aside0.mk (below_step B11.out hb); clear hb SE11 SA11) | (refine guarded_load (by rfl) 25 (.tmp 3) rfl w6.heap.size rfl 25 e32 _ SE12.out Tryd.underlying25 rfl (by rw [ME.out]; exact info25) ?_) | (go_at_call 13; with_reducible refine (works_any HW.out w12 (HG0.out.below B12.out)).mono ?_; rintro e w13 ⟨rfl, hb⟩; have B13 := Aside0.mk (below_step B12.out hb); clear hb))
  go_ret
  exact ⟨rfl, B13.out⟩
end Go.Proofs.YtfcadniglmhclaaDoor.S
