/-
  The reference's bytes, as printed; the walk of the reference's Digest (function 23).
-/
import Derived.Test.YtfcadniglmhclaaDoorQ2
import Derived.Test.YtfcadniglmhclaaDoorQ3
import Derived.Outline
namespace Go.Proofs.YtfcadniglmhclaaDoor.S
open Go.RowKit Go.Proofs.YtfcadniglmhclaaDoorW.PrintWords Go.Proofs.YtfcadniglmhclaaDoorW.PrintLast Go.Proofs.YtfcadniglmhclaaDoorW.PrintMore
open Go.Proofs.YtfcadniglmhclaaDoor.R
set_option linter.unusedSimpArgs false
set_option linter.unusedVariables false

theorem bytes_l1 (l x : List Int) (i : Nat) (hi : i < l.length) (hx : x.length ≤ 1000000) (hl : l.length ≤ 100000) (r : Nat) : ∀ (k : Nat), r ≤ 8 → spinneyref02_bytes.l1 (k + r + 1) l (x ++ (layS (at' l i)).take (8 - r)) (i : Int) ((r : Int) - 1) = spinneyref02_bytes.l0 k l (x ++ layS (at' l i)) ((i + 1 : Nat) : Int) := by
  have hlen : (layS (at' l i)).length = 8 := length_layS _
  induction r with
  | zero =>
    intro k _
    simp only [spinneyref02_bytes.l1, Nat.add_zero]
    rw [if_neg (by omega), List.take_of_length_le (by omega), wrap_step (by omega)]
  | succ r hind =>
    intro k hr
    have ih := hind k (by omega)
    have ek : k + (r + 1) = k + r + 1 := rfl
    have e0 : ((r + 1 : Nat) : Int) - 1 = (r : Int) := by omega
    have e1 : wrap64 (8 * (r : Int)) = ((8 * r : Nat) : Int) := by unfold wrap64; omega
    have e2 : wrap64 ((r : Int) - 1) = (r : Int) - 1 := by unfold wrap64; omega
    have e3 : IntKind.u64.wrap ((8 * r : Nat) : Int) = ((8 * r : Nat) : Int) := u64_in (by omega) (by omega)
    have es : shr .u64 (at' l i) ((8 * r : Nat) : Int) = at' l i / 2 ^ (8 * r) := by
      unfold shr
      rw [Int.toNat_natCast, Nat.min_eq_left (show 8 * r ≤ IntKind.bits .u64 by show 8 * r ≤ 64; omega)]
    have e6 : (layS (at' l i))[7 - r]'(by rw [hlen]; omega) = at' l i / 2 ^ (8 * r) % 256 := by rw [layS_get _ _ (by omega), show 56 - 8 * (7 - r) = 8 * r by omega]
    have hstep : (x ++ (layS (at' l i)).take (8 - (r + 1))) ++ [at' l i / 2 ^ (8 * r) % 256] = x ++ (layS (at' l i)).take (8 - r) := by
      rw [List.append_assoc, ← e6, show 8 - (r + 1) = 7 - r by omega, show 8 - r = 7 - r + 1 by omega, List.take_succ_eq_append_getElem (by rw [hlen]; omega)]
    have hlt : (x ++ (layS (at' l i)).take (8 - (r + 1))).length < 140737488355328 := by rw [List.length_append, List.length_take]; omega
    rw [ek]
    generalize k + r + 1 = m at ih ⊢
    simp only [spinneyref02_bytes.l1]
    rw [e0, if_pos (by omega), if_pos (by omega), if_pos (by omega), e1, e3, if_pos (by omega), if_pos hlt, e2, rd_at, es, hstep]
    exact ih
theorem bytes_l0 (l : List Int) (hl : l.length ≤ 100000) (d : Nat) : ∀ (i k : Nat), i + d = l.length → spinneyref02_bytes.l0 (k + 10 * d + 1) l (bytesS (l.take i)) (i : Int) = some (bytesS l) := by
  induction d with
  | zero =>
    intro i k hi
    simp only [spinneyref02_bytes.l0, Nat.mul_zero, Nat.add_zero]
    rw [if_neg (by omega), List.take_of_length_le (by omega)]
  | succ d hind =>
    intro i k hi
    have ih := hind (i + 1) k (by omega)
    have h1 := bytes_l1 l (bytesS (l.take i)) i (by omega) (by rw [length_bytesS, List.length_take]; omega) hl 8 (k + 10 * d + 1) (by omega)
    rw [bytes_step l i (by omega), ih] at h1
    simp only [Nat.sub_self, List.take_zero, List.append_nil] at h1
    rw [show k + 10 * (d + 1) + 1 = (k + 10 * d + 1 + 8 + 1) + 1 by omega]
    generalize k + 10 * d + 1 + 8 + 1 = m at h1 ⊢
    simp only [spinneyref02_bytes.l0]
    rw [if_pos (by omega)]
    exact h1
theorem refbytes_f (l : List Int) (hl : l.length ≤ 100000) : spinneyref02_bytes.f (10 * l.length + 1) l = some (bytesS l) := by
  have := bytes_l0 l hl l.length 0 0 (by omega)
  rw [Nat.zero_add] at this
  exact this

theorem K_f : spinneyref02_K.f = some KS := rfl
theorem First_f : spinneyref02_First.f = some FS := rfl
theorem In.came {w : World} {v : Value} {b : List Int} (h : In w v b) : ∃ A c, v = .slice A b.length c ∧ b.length ≤ c ∧ Kd.C (Kd.int .u8) w A b.length b := by
  rcases h with ⟨rfl, rfl⟩ | ⟨a0, c, h1, h2, h3⟩
  · exact ⟨none, 0, rfl, Nat.le_refl _, Kd.C_nil _ _⟩
  · exact ⟨_, _, h1, h2, h3⟩

set_option maxRecDepth 100000 in
set_option maxHeartbeats 1000000 in
theorem refdigest_any (h : List Int) (A0 : Option Addr) (c0 : Nat) (v : Value) (b : List Int) (w : World) (hh : h.length = 8) (hn : b.length ≤ 1000000) (hby : By b) (hr : Kd.C (Kd.int .u64) w A0 h.length h) (hc : h.length ≤ c0) (hi : In w v b) :
    Calls Tryd.prog 23 #[.slice A0 h.length c0, v] w fun e w' => ∃ A c, e = .returned (.slice A (digS KS h b).length c) ∧ (digS KS h b).length ≤ c ∧ Kd.C (Kd.int .u64) w' A (digS KS h b).length (digS KS h b) ∧ Below w.heap.size w w' := by
  obtain ⟨A1, c1, rfl, hc1, hr1⟩ := hi.came
  have HR0 := Aside0.mk hr
  have HC0 := Aside0.mk hc
  have HR1 := Aside0.mk hr1
  have HC1 := Aside0.mk hc1
  have HBY := Aside0.mk hby
  have HN := Aside0.mk hn
  have HH := Aside0.mk hh
  have HK : Aside0 (spinneyref02_K.f = some KS) := ⟨K_f⟩
  have HF : Aside0 (spinneyref02_Filled.f 146 b = some (filledS b)) := ⟨reffilled_f b hn 146 (Nat.le_refl _)⟩
  obtain ⟨f, hf⟩ : ∃ f, f = filledS b := ⟨_, rfl⟩
  obtain ⟨K, hK⟩ : ∃ K, K = KS := ⟨_, rfl⟩
  rw [← hf] at HF
  rw [← hK] at HK
  have HKE := Aside0.mk hK
  have HFE := Aside0.mk hf
  clear hr hc hr1 hc1 hby hn hh hi hf hK
  go_enter Tryd.func23, Tryd.ntmps23
  go_wp2_with (first | (go_at_call 19; refine (spinneyref02_K.calls K _ HK.out).mono ?_; rintro e w1 ⟨v1, rfl, ho1, hb1⟩; obtain ⟨A5, c5, rfl⟩ := Kd.R_slice ho1; have HO1 := Aside0.mk ho1; have HB1 := Aside0.mk hb1; clear ho1 hb1) | (go_at_call 31; refine (spinneyref02_Filled.calls 146 A1 c1 b f _ (Kd.C_below HR1.out HB1.out) HC1.out HF.out).mono ?_; rintro e w2 ⟨v2, rfl, ho2, hb2⟩; obtain ⟨A6, c6, rfl⟩ := Kd.R_slice ho2; have HO2 := Aside0.mk ho2; have HB2 := Aside0.mk hb2; clear ho2 hb2))
  obtain ⟨N, hLN⟩ : ∃ N, f.length = 128 * N := ⟨f.length / 128, by have := filled_whole b; rw [← HFE.out] at this; omega⟩
  have hNb : N ≤ 10000 := by have h1 := length_filledS b; rw [← HFE.out] at h1; have := HN.out; omega
  have HLN := Aside0.mk hLN
  have HNB := Aside0.mk hNb
  have C0 : Aside0 (Kd.C (Kd.int .u64) w2 A0 h.length h) := ⟨Kd.C_below (Kd.C_below HR0.out HB1.out) HB2.out⟩
  have C5 : Aside0 (Kd.C (Kd.int .u64) w2 A5 K.length K) := ⟨Kd.C_below (Kd.R_reads' HO1.out).2.2 HB2.out⟩
  have C6 : Aside0 (Kd.C (Kd.int .u8) w2 A6 f.length f) := ⟨(Kd.R_reads' HO2.out).2.2⟩
  have L5 : Aside0 (K.length ≤ c5) := ⟨(Kd.R_reads' HO1.out).2.1⟩
  have L6 : Aside0 (f.length ≤ c6) := ⟨(Kd.R_reads' HO2.out).2.1⟩
  have B2 : Aside0 (Below w.heap.size w w2) := ⟨below_step HB1.out HB2.out⟩
  clear hLN hNb HB1 HB2 HO1 HO2
  go_loopw [0, 7] (fun v0 v7 wr => ∃ (j : Nat) (l : List Int) (A : Option Addr) (c : Nat), v7 = .int .i64 ((128 * j : Nat) : Int) ∧ v0 = .slice A l.length c ∧ Aside0 (j ≤ N) ∧ Aside0 (l = digN KS h f j) ∧ Aside0 (l.length ≤ c) ∧ Aside0 (Kd.C (Kd.int .u64) wr A l.length l) ∧ Aside0 (Kd.C (Kd.int .u64) wr A5 K.length K) ∧ Aside0 (Kd.C (Kd.int .u8) wr A6 f.length f) ∧ Aside0 (Below w.heap.size w wr)) (fun _ v7 _ => f.length - (intOf v7).toNat)
  case atStart => exact ⟨0, h, A0, c0, rfl, rfl, ⟨Nat.zero_le _⟩, ⟨rfl⟩, HC0, C0, C5, C6, B2⟩
  case round =>
    clear C0 C5 C6 B2
    obtain ⟨j, l, A, c, rfl, rfl, HJ, HL, HLC, C0, C5, C6, B2⟩ := hrel
    have hj := HJ.out
    have hjb : j ≤ 10000 := Nat.le_trans hj HNB.out
    have hll : l.length = 8 := by rw [HL.out]; exact length_digN _ _ _ HH.out _
    have HLL := Aside0.mk hll
    by_cases hlt : j < N
    · have hlt2 : ((128 * j : Nat) : Int) < (f.length : Int) := by have := HLN.out; omega
      have hhi : ((128 * j : Nat) : Int) + 128 ≤ (f.length : Int) := by have := HLN.out; omega
      obtain ⟨i0, hi0, _, hsz0, _⟩ := info_parts info5
      have hcut := cut_mid (P := Tryd.prog) 22 5 .i64 .i64 Tryd.underlying22 hi0 1 hsz0 A6 f.length c6 ((128 * j : Nat) : Int) (((128 * j : Nat) : Int) + 128) (by omega) (by omega) hhi L6.out
      have e1 : (((128 * j : Nat) : Int) + 128).toNat = 128 * j + 128 := by omega
      have hne : ¬ (c6 = 128 * j) := by have h1 := L6.out; have h2 := HLN.out; omega
      rw [e1, Int.toNat_natCast, if_neg hne, Nat.mul_one] at hcut
      have hmid := Kd.C_mid (k := Kd.int .u8) (c := c6) (lo := 128 * j) (hi := 128 * j + 128) C6.out (by omega) (by have := HLN.out; omega) L6.out
      rw [if_neg hne] at hmid
      obtain ⟨y, hy⟩ : ∃ y, y = (f.take (128 * j + 128)).drop (128 * j) := ⟨_, rfl⟩
      rw [← hy] at hmid
      have hyl : y.length = 128 := by rw [hy, List.length_drop, List.length_take]; have := HLN.out; omega
      have hye : y = (f.drop (128 * j)).take 128 := by rw [hy, List.drop_take, show 128 * j + 128 - 128 * j = 128 by omega]
      clear hcut
      have HT : Aside0 (spinneyref02_take.f 172 l K y = some (digN KS h f (j + 1))) := ⟨by
        rw [reftake_f l K y hll (by rw [HKE.out]; rfl) hyl (by rw [hye]; exact ((by rw [HFE.out]; exact by_filled HBY.out : By f).drop _).take _) 172 (Nat.le_refl _), hye, HKE.out, HL.out]
        rfl⟩
      have HM : Aside0 (Kd.C (Kd.int .u8) wr (A6.map fun x => x.add (128 * j)) y.length y) := ⟨by simpa [Kd.int, Kd.scalar] using hmid⟩
      have HYC : Aside0 (y.length ≤ c6 - 128 * j) := ⟨by have h1 := L6.out; have h2 := HLN.out; omega⟩
      obtain ⟨r, hr⟩ : ∃ r, r = digN KS h f (j + 1) := ⟨_, rfl⟩
      rw [← hr] at HT
      have HRE := Aside0.mk hr
      have HCALL : Aside0 (Calls Tryd.prog 32 #[.slice A l.length c, .slice A5 K.length c5, .slice (Option.map (fun x => x.add (128 * j)) A6) 128 (c6 - 128 * j)] wr fun e w' => ∃ v0_ : Value, e = .returned (v0_) ∧ Kd.R (Kd.int .u64) 27 w' wr.heap.size (fun _ => True) v0_ r ∧ Below wr.heap.size wr w') := ⟨by
        have h1 := spinneyref02_take.calls 172 A c l A5 c5 K (A6.map fun x => x.add (128 * j)) (c6 - 128 * j) y r wr C0.out HLC.out C5.out L5.out HM.out HYC.out HT.out
        rw [hyl] at h1
        exact h1⟩
      have hcap : ((128 * j : Nat) : Int) + 128 ≤ (c6 : Int) := by have := L6.out; omega
      clear hy hyl hye hmid hi0 hsz0 e1 hr hll
      go_wp2_with (go_at_call 32; refine HCALL.out.mono ?_; rintro e w4 ⟨v4, rfl, ho, hb⟩; obtain ⟨A9, c9, rfl⟩ := Kd.R_slice ho; have HO := Aside0.mk ho; have HB := Aside0.mk hb; clear ho hb)
      go_roundw
      case rel => exact ⟨j + 1, r, A9, c9, by go_num, rfl, ⟨by omega⟩, HRE, ⟨(Kd.R_reads' HO.out).2.1⟩, ⟨(Kd.R_reads' HO.out).2.2⟩, ⟨Kd.C_below C5.out HB.out⟩, ⟨Kd.C_below C6.out HB.out⟩, ⟨below_step B2.out HB.out⟩⟩
      case measure => simp [intOf]; have := HLN.out; omega
    · obtain rfl : j = N := by omega
      have hlt2 : ¬ ((128 * j : Nat) : Int) < (f.length : Int) := by have := HLN.out; omega
      have HD : Aside0 (l = digS KS h b) := ⟨by rw [HL.out]; unfold digS; rw [← HFE.out, HLN.out, Nat.mul_div_cancel_left _ (by omega)]⟩
      clear hj hjb hll hlt
      go_wp2
      go_ret
      rw [← HD.out]
      exact ⟨A, c, rfl, HLC.out, C0.out, B2.out⟩
end Go.Proofs.YtfcadniglmhclaaDoor.S
