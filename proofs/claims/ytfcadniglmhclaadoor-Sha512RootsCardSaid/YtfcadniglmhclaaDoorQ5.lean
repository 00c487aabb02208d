/-
  The walks of the reference's Sum (function 15) and Words (function 11).
-/
import Derived.Test.YtfcadniglmhclaaDoorQ4
import Derived.Test.YtfcadniglmhclaaDoorT3

namespace Go.Proofs.YtfcadniglmhclaaDoor.S
open Go.RowKit Go.Proofs.YtfcadniglmhclaaDoorW.PrintWords Go.Proofs.YtfcadniglmhclaaDoorW.PrintLast Go.Proofs.YtfcadniglmhclaaDoorW.PrintMore
open Go.Proofs.YtfcadniglmhclaaDoor.R
set_option linter.unusedSimpArgs false
set_option linter.unusedVariables false

theorem take_at (l : List Int) (i : Nat) (h : i < l.length) : l.take i ++ [at' l i] = l.take (i + 1) := by
  have ha : at' l i = l[i] := by simp [at', List.getD_eq_getElem?_getD, h]
  rw [ha, List.take_succ_eq_append_getElem h]
theorem refbytes_any (A : Option Addr) (c : Nat) (l : List Int) (w : World) (hl : l.length ≤ 100000) (hr : Kd.C (Kd.int .u64) w A l.length l) (hc : l.length ≤ c) :
    Calls Tryd.prog 24 #[.slice A l.length c] w fun e w' => ∃ A c, e = .returned (.slice A (bytesS l).length c) ∧ (bytesS l).length ≤ c ∧ Kd.C (Kd.int .u8) w' A (bytesS l).length (bytesS l) ∧ Below w.heap.size w w' :=
  (spinneyref02_bytes.calls (10 * l.length + 1) A c l (bytesS l) w hr hc (refbytes_f l hl)).mono fun e w' ⟨v, he, ho, hb⟩ => by
    obtain ⟨A', c', rfl, h1, h2⟩ := Kd.R_reads ho
    exact ⟨A', c', he, h1, h2, hb⟩
theorem reffirst_any (w : World) :
    Calls Tryd.prog 20 #[] w fun e w' => ∃ A c, e = .returned (.slice A FS.length c) ∧ FS.length ≤ c ∧ Kd.C (Kd.int .u64) w' A FS.length FS ∧ Below w.heap.size w w' :=
  (spinneyref02_First.calls FS w First_f).mono fun e w' ⟨v, he, ho, hb⟩ => by
    obtain ⟨A', c', rfl, h1, h2⟩ := Kd.R_reads ho
    exact ⟨A', c', he, h1, h2, hb⟩

set_option maxRecDepth 100000 in
set_option maxHeartbeats 400000 in
theorem refsum_any (v : Value) (b : List Int) (w : World) (hn : b.length ≤ 1000000) (hby : By b) (hi : In w v b) :
    Calls Tryd.prog 15 #[v] w fun e w' => ∃ A c, e = .returned (.slice A (sumS b).length c) ∧ (sumS b).length ≤ c ∧ Kd.C (Kd.int .u8) w' A (sumS b).length (sumS b) ∧ Below w.heap.size w w' := by
  have HI := Aside0.mk hi
  have HBY := Aside0.mk hby
  have HN := Aside0.mk hn
  obtain ⟨F, hF⟩ : ∃ F, F = FS := ⟨_, rfl⟩
  have HFE := Aside0.mk hF
  obtain ⟨D, hD⟩ : ∃ D, D = digS KS F b := ⟨_, rfl⟩
  obtain ⟨r, hr⟩ : ∃ r, r = bytesS D := ⟨_, rfl⟩
  have hrs : sumS b = r := by rw [hr, hD, hF]; rfl
  rw [hrs]
  have hdl : D.length = 8 := by rw [hD, hF]; exact length_digS _ _ length_FS
  have C20 : ∀ w, Calls Tryd.prog 20 #[] w fun e w' => ∃ A c, e = .returned (.slice A F.length c) ∧ F.length ≤ c ∧ Kd.C (Kd.int .u64) w' A F.length F ∧ Below w.heap.size w w' := by rw [hF]; exact reffirst_any
  have C23 : ∀ (A0 : Option Addr) (c0 : Nat) (w : World), Kd.C (Kd.int .u64) w A0 F.length F → F.length ≤ c0 → In w v b → Calls Tryd.prog 23 #[.slice A0 F.length c0, v] w fun e w' => ∃ A c, e = .returned (.slice A D.length c) ∧ D.length ≤ c ∧ Kd.C (Kd.int .u64) w' A D.length D ∧ Below w.heap.size w w' := fun A0 c0 w h1 h2 h3 => by rw [hD]; exact refdigest_any F A0 c0 v b w (by rw [hF]; rfl) HN.out HBY.out h1 h2 h3
  have C24 : ∀ (A : Option Addr) (c : Nat) (w : World), Kd.C (Kd.int .u64) w A D.length D → D.length ≤ c → Calls Tryd.prog 24 #[.slice A D.length c] w fun e w' => ∃ A c, e = .returned (.slice A r.length c) ∧ r.length ≤ c ∧ Kd.C (Kd.int .u8) w' A r.length r ∧ Below w.heap.size w w' := fun A c w h1 h2 => by rw [hr]; exact refbytes_any A c D w (by rw [hdl]; decide) h1 h2
  have H20 := Aside0.mk C20
  have H23 := Aside0.mk C23
  have H24 := Aside0.mk C24
  clear hi hby hn hF hD hr hrs hdl C20 C23 C24
  go_enter Tryd.func15, Tryd.ntmps15
  go_wp2_with (first | (go_at_call 20; refine (H20.out _).mono ?_; rintro e w1 ⟨A1, c1, rfl, h1, h2, h3⟩; have L1 := Aside0.mk h1; have C1 := Aside0.mk h2; have B1 := Aside0.mk h3; clear h1 h2 h3) | (go_at_call 23; refine (H23.out _ _ _ C1.out L1.out (HI.out.below B1.out)).mono ?_; rintro e w2 ⟨A2, c2, rfl, h1, h2, h3⟩; have L2 := Aside0.mk h1; have C2 := Aside0.mk h2; have B2 := Aside0.mk (below_step B1.out h3); clear h1 h2 h3) | (go_at_call 24; refine (H24.out _ _ _ C2.out L2.out).mono ?_; rintro e w3 ⟨A3, c3, rfl, h1, h2, h3⟩; have L3 := Aside0.mk h1; have C3 := Aside0.mk h2; have B3 := Aside0.mk (below_step B2.out h3); clear h1 h2 h3))
  go_ret
  exact ⟨A3, c3, rfl, L3.out, C3.out, B3.out⟩

set_option maxRecDepth 100000 in
set_option maxHeartbeats 1000000 in
theorem refwords_any (w : World) :
    Calls Tryd.prog 11 #[] w fun e w' => ∃ A c, e = .returned (.slice A (digS KS FX nameS).length c) ∧ (digS KS FX nameS).length ≤ c ∧ Kd.C (Kd.int .u64) w' A (digS KS FX nameS).length (digS KS FX nameS) ∧ Below w.heap.size w w' := by
  obtain ⟨F, hF⟩ : ∃ F, F = FS := ⟨_, rfl⟩
  have HFE := Aside0.mk hF
  obtain ⟨D, hD⟩ : ∃ D, D = digS KS FX nameS := ⟨_, rfl⟩
  rw [← hD]
  have C20 : ∀ w, Calls Tryd.prog 20 #[] w fun e w' => ∃ A c, e = .returned (.slice A F.length c) ∧ F.length ≤ c ∧ Kd.C (Kd.int .u64) w' A F.length F ∧ Below w.heap.size w w' := by rw [hF]; exact reffirst_any
  have H20 := Aside0.mk C20
  have HDE := Aside0.mk hD
  have HFL : Aside0 (F.length = 8) := ⟨by rw [hF]; rfl⟩
  clear hF hD C20
  have kc := fun (w : World) (C : Array Value) (n c : Nat) => Lib.run_convert_bytes_const (P := Tryd.prog) w 22 5 C n c Tryd.underlying22 Tryd.underlying5
  go_enter Tryd.func11, Tryd.ntmps11
  go_wp2_with (go_at_call 20; refine (H20.out _).mono ?_; rintro e w1 ⟨A1, c1, rfl, h1, h2, h3⟩; have L1 := Aside0.mk h1; have C1 := Aside0.mk h2; have B1 := Aside0.mk h3; clear h1 h2 h3)
  go_loopw [2, 3] (fun v2 v3 wr => ∃ i : Nat, i ≤ 8 ∧ v3 = .int .i64 i ∧ Aside0 (Kd.R (Kd.int .u64) 27 wr w1.heap.size (fun _ => True) v2 (FX.take i)) ∧ Aside0 (Below w1.heap.size w1 wr)) (fun _ v3 _ => 8 - (intOf v3).toNat)
  case atStart => exact ⟨0, by omega, rfl, ⟨Kd.R_nil _ _ _ _ _⟩, ⟨Below.refl _ _⟩⟩
  case round =>
    obtain ⟨i, hi, rfl, HO, HB⟩ := hrel
    by_cases hlt : i < 8
    · obtain ⟨ad, rfl, hx⟩ := Kd.at_int (Kd.C_below C1.out HB.out) (i : Int) (by omega) (by rw [HFL.out]; omega)
      have hF1 : ((i : Int)) < (F.length : Int) := by rw [HFL.out]; omega
      rw [Int.toNat_natCast, rd_at] at hx
      have HS : Aside0 (FX.take i ++ [xr (at' F i) turned] = FX.take (i + 1)) := ⟨by rw [HFE.out, ← at_FX i hlt]; exact take_at FX i (by rw [length_FX]; exact hlt)⟩
      go_wp2_with ((with_reducible refine gate_builtin (b := .append) (xs := #[.tmp 9, .tmp 15]) rfl ?_); at_builtin; go_loud (refine Kd.R_append (Kd.int .u64) (w0 := w1) w1.heap.size rfl (.tmp 9) (.tmp 15) 30 27 (.int .u64 0) 8 rfl Tryd.underlying30 info27 rfl (by decide) (by omega) u2 (FX.take i) (xr (at' F i) turned) [.int .u64 (Go.bits .xor .u64 (at' F i) 11936128518282651045)] (fun _ => True) (fun _ => False) rfl rfl ?aP (fun _ hk => hk.elim) ?aF ?aO ?aB ?aS ?aL ?_); (case aP => exact rfl); (case aB => exact HB.out); (case aF => exact (fun _ _ => trivial)); (case aO => exact HO.out); (case aS => exact below_size HB.out); (case aL => rw [List.length_take]; omega); intro v5 w3 ho hb _ _; clear HO HB; have HO := Aside0.mk ho; have HB := Aside0.mk hb; clear ho hb)
      go_roundw
      case rel => exact ⟨i + 1, by omega, by go_num, ⟨by rw [← HS.out]; exact HO.out⟩, HB⟩
      case measure => simp [intOf]; omega
    · obtain rfl : i = 8 := by omega
      rw [List.take_of_length_le (by rw [length_FX]; omega)] at HO
      obtain ⟨A2, c2, rfl, hc2, hC2⟩ := Kd.R_reads HO.out
      obtain ⟨X, hX⟩ : ∃ X, X = FX := ⟨_, rfl⟩
      rw [← hX] at hC2 hc2 ⊢
      have H23 : Aside0 (∀ (A0 : Option Addr) (c0 : Nat) (v : Value) (w : World), Kd.C (Kd.int .u64) w A0 X.length X → X.length ≤ c0 → In w v nameS → Calls Tryd.prog 23 #[.slice A0 X.length c0, v] w fun e w' => ∃ A c, e = .returned (.slice A D.length c) ∧ D.length ≤ c ∧ Kd.C (Kd.int .u64) w' A D.length D ∧ Below w.heap.size w w') := ⟨fun A0 c0 v w h1 h2 h3 => by rw [HDE.out, hX] at *; exact refdigest_any FX A0 c0 v nameS w length_FX (by decide) by_name h1 h2 h3⟩
      have HC2 := Aside0.mk hC2
      have HL2 := Aside0.mk hc2
      have N1 : Aside0 (In (wr.alloc (.cells (bts nameS) 5 (11, 12))) (.slice (some ⟨wr.heap.size, 0, none⟩) 11 11) nameS) := ⟨In_const wr nameS (11, 12) (by decide)⟩
      have B3 : Aside0 (Below w.heap.size w wr) := ⟨below_step B1.out HB.out⟩
      clear hC2 hc2 hX HO HB C1 B1
      go_wp2_with (go_at_call 23; refine (H23.out _ _ _ _ (Kd.C_below HC2.out (below_alloc (Below.refl _ _) _)) HL2.out N1.out).mono ?_; rintro e w4 ⟨A3, c3, rfl, h1, h2, h3⟩; have L3 := Aside0.mk h1; have C3 := Aside0.mk h2; have B4 := Aside0.mk (below_step (below_alloc B3.out _) h3); clear h1 h2 h3)
      go_ret
      exact ⟨A3, c3, rfl, L3.out, C3.out, B4.out⟩
end Go.Proofs.YtfcadniglmhclaaDoor.S
