/-
  The walks of sha512.lay's contract in plain words (function 30) and of sha512.filled (function 28).
-/
import Derived.Test.YtfcadniglmhclaaDoorS7
namespace Go.Proofs.YtfcadniglmhclaaDoor.S
open Go.RowKit Go.Proofs.YtfcadniglmhclaaDoorW.PrintWords Go.Proofs.YtfcadniglmhclaaDoorW.PrintLast Go.Proofs.YtfcadniglmhclaaDoorW.PrintMore
open Go.Proofs.YtfcadniglmhclaaDoor.R
set_option linter.unusedSimpArgs false

theorem layS_get (x : Int) (i : Nat) (h : i < 8) : (layS x)[i]'(by rw [length_layS]; exact h) = (x / 2 ^ (56 - 8 * i)) % 256 := by simp [layS]
theorem lay_l0 (l : List Int) (x : Int) (hl : l.length + 8 < 140737488355328) : ∀ (d n k : Nat), n + d = 8 → d < k → sha512_lay.l0 k (l ++ (layS x).take n) x (n : Int) = some (l ++ layS x)
  | 0, n, k, hn, hk => by
    obtain ⟨k, rfl⟩ : ∃ m, k = m + 1 := ⟨k - 1, by omega⟩
    obtain rfl : n = 8 := by omega
    simp only [sha512_lay.l0]
    rw [if_neg (by omega), List.take_of_length_le (by rw [length_layS]; omega)]
  | d + 1, n, k, hn, hk => by
    obtain ⟨k, rfl⟩ : ∃ m, k = m + 1 := ⟨k - 1, by omega⟩
    have e1 : wrap64 (56 - wrap64 (8 * (n : Int))) = ((56 - 8 * n : Nat) : Int) := by unfold wrap64; omega
    have e2 : shr .u64 x ((56 - 8 * n : Nat) : Int) = x / 2 ^ (56 - 8 * n) := by
      unfold shr
      rw [Int.toNat_natCast, Nat.min_eq_left (show 56 - 8 * n ≤ IntKind.bits .u64 by show 56 - 8 * n ≤ 64; omega)]
    simp only [sha512_lay.l0]
    rw [if_pos (by omega), e1, if_pos (by omega), if_pos (by simp [length_layS]; omega), e2, wrap_step (by omega), ← layS_get x n (by omega), List.append_assoc,
      List.take_append_getElem (by rw [length_layS]; omega)]
    exact lay_l0 l x hl d (n + 1) k (by omega) (by omega)

theorem lay_any (w0 w : World) (v : Value) (l : List Int) (x : Int) (hl : l.length + 8 < 140737488355328) (hB : Below w0.heap.size w0 w) (ho : Kd.R (Kd.int .u8) 5 w w0.heap.size (fun _ => True) v l) :
    Calls Tryd.prog 30 #[v, .int .u64 x] w fun e w' => ∃ v' : Value, e = .returned v' ∧ Kd.R (Kd.int .u8) 5 w' w0.heap.size (fun _ => True) v' (l ++ layS x) ∧ Below w0.heap.size w0 w' :=
  (sha512_lay.calls 9 (fun _ => True) v l x (l ++ layS x) w0 w hB ho (by have := lay_l0 l x hl 8 0 9 (by omega) (by omega); rw [List.take_zero, List.append_nil] at this; exact this)).mono
    fun _ _ ⟨v', he, hr, hb, _⟩ => ⟨v', he, Kd.R_mono hr (fun _ _ => trivial), hb⟩

/-- What may be handed in as bytes: nil, or a slice that reads so. -/
def In (w : World) (v : Value) (b : List Int) : Prop := (v = .slice none 0 0 ∧ b = []) ∨ ∃ a0 c, v = .slice (some a0) b.length c ∧ b.length ≤ c ∧ Kd.C (Kd.int .u8) w (some a0) b.length b
theorem clone_any (w : World) (v : Value) (b : List Int) (hn : b.length ≤ 1000000) (h : In w v b) :
    Calls Tryd.prog 36 #[v] w fun e w' => ∃ v : Value, e = .returned v ∧ Kd.R (Kd.int .u8) 5 w' w.heap.size (fun _ => True) v b ∧ Below w.heap.size w w' := by
  rcases h with ⟨rfl, rfl⟩ | ⟨a0, c, rfl, _, h⟩
  · exact clone_nil w
  · exact clone_some a0 _ c b w rfl hn h
theorem In.shape {w : World} {v : Value} {b : List Int} (h : In w v b) : ∃ A c, v = .slice A b.length c := by
  rcases h with ⟨rfl, rfl⟩ | ⟨a0, c, rfl, _⟩
  · exact ⟨_, _, rfl⟩
  · exact ⟨_, _, rfl⟩

set_option maxHeartbeats 1000000 in
theorem filled_any (w : World) (v : Value) (b : List Int) (hn : b.length ≤ 1000000) (h : In w v b) :
    Calls Tryd.prog 28 #[v] w fun e w' => ∃ v : Value, e = .returned v ∧ Kd.R (Kd.int .u8) 5 w' w.heap.size (fun _ => True) v (filledS b) ∧ Below w.heap.size w w' := by
  have HI := Aside0.mk h
  obtain ⟨A, c, rfl⟩ := h.shape
  have HN := Aside0.mk hn
  clear h hn
  go_enter Tryd.func28, Tryd.ntmps28
  go_wp2_with (first | (go_at_call 36; refine (clone_any w _ b HN.out HI.out).mono ?_; rintro e w1 ⟨v5, rfl, ho, hb⟩; have HO := Aside0.mk ho; have HB := Aside0.mk hb; clear ho hb) | ((with_reducible refine gate_builtin (b := .append) (xs := #[.tmp 5, .tmp 6]) rfl ?_); at_builtin; go_loud (refine Kd.R_append (Kd.int .u8) (w0 := w) w.heap.size rfl (.tmp 5) (.tmp 6) 22 5 (.int .u8 0) 1 rfl Tryd.underlying22 info5 rfl (by decide) (by omega) v5 b 128 [.int .u8 128] (fun _ => True) (fun _ => False) rfl rfl ?aP (fun _ hk => hk.elim) ?aF ?aO ?aB ?aS ?aL ?_); (case aP => exact rfl); (case aB => exact HB.out); (case aF => exact (fun _ _ => trivial)); (case aO => exact HO.out); (case aS => exact below_size HB.out); (case aL => have := HN.out; omega); intro v7 w2 ho hb _ _; clear HO HB; have HO := Aside0.mk ho; have HB := Aside0.mk hb; clear ho hb))
  go_loopg [3] ((239 - b.length % 128) % 128 + 1) (fun kq v3 wr => ∃ j : Nat, j ≤ (239 - b.length % 128) % 128 ∧ j + kq = (239 - b.length % 128) % 128 + 1 ∧ Aside0 (Kd.R (Kd.int .u8) 5 wr w.heap.size (fun _ => True) v3 (b ++ 128 :: List.replicate j 0)) ∧ Aside0 (Below w.heap.size w wr))
  case atStart => exact ⟨0, by omega, by omega, HO, HB⟩
  case round =>
    clear HO HB
    obtain ⟨j, hj0, hj, HO, HB⟩ := hrel
    cases gk with
    | zero => omega
    | succ k1 =>
      obtain ⟨x, hx⟩ : ∃ x, x = b ++ 128 :: List.replicate j 0 := ⟨_, rfl⟩
      have hxl : x.length = b.length + 1 + j := by rw [hx]; simp; omega
      rw [← hx] at HO
      have HX := Aside0.mk hx
      have HXL := Aside0.mk hxl
      clear hx
      by_cases hlt : (x.length : Int) % 128 = 112
      · have c6b0 : (((x.length : Int) % 128) == 112) = true := beq_iff_eq.mpr hlt
        have c6b1 : (((x.length : Int) % 128) != 112) = false := bne_eq_false_iff_eq.mpr hlt
        have hz : j = (239 - b.length % 128) % 128 := by omega
        have HF : Aside0 (x ++ layS 0 ++ layS ((b.length : Int) * 8) = filledS b) := ⟨by rw [HX.out, hz]; simp [filledS, padS]⟩
        have HJB : Aside0 (j < 128) := ⟨by omega⟩
        clear hlt hz hj hj0 hxl
        obtain ⟨A3, c3, rfl⟩ := Kd.R_slice HO.out
        have e0 : IntKind.u64.wrap (b.length : Int) = (b.length : Int) := u64_in (by omega) (by have := HN.out; omega)
        have e1 : (b.length : Int) / 2305843009213693952 = 0 := by have := HN.out; omega
        have e2 : IntKind.u64.wrap ((b.length : Int) * 8) = (b.length : Int) * 8 := u64_in (by omega) (by have := HN.out; omega)
        go_wp2_with ((go_at_call 30; refine (lay_any w _ _ _ _ (by have h1 := HN.out; have h2 := HXL.out; have h3 := HJB.out; simp [length_layS]; omega) HB.out HO.out).mono ?_; rintro e w4 ⟨v4, rfl, ho, hb⟩; clear HO HB; have HO := Aside0.mk ho; have HB := Aside0.mk hb; clear ho hb))
        go_ret
        exact ⟨_, rfl, by rw [← HF.out]; exact HO.out, HB.out⟩
      · have c6b0 : (((x.length : Int) % 128) == 112) = false := by simpa using hlt
        have c6b1 : (((x.length : Int) % 128) != 112) = true := by simpa using hlt
        have hz : j < (239 - b.length % 128) % 128 := by omega
        have HJ := Aside0.mk hj
        have HZ := Aside0.mk hz
        have HS : Aside0 (x ++ [0] = b ++ 128 :: List.replicate (j + 1) 0) := ⟨by rw [HX.out, List.replicate_succ']; simp⟩
        clear hlt hz hj hj0 hxl
        obtain ⟨A3, c3, rfl⟩ := Kd.R_slice HO.out
        go_wp2_with ((with_reducible refine gate_builtin (b := .append) (xs := #[.tmp 12, .tmp 13]) rfl ?_); at_builtin; go_loud (refine Kd.R_append (Kd.int .u8) (w0 := w) w.heap.size rfl (.tmp 12) (.tmp 13) 22 5 (.int .u8 0) 1 rfl Tryd.underlying22 info5 rfl (by decide) (by omega) (.slice A3 x.length c3) x 0 [.int .u8 0] (fun _ => True) (fun _ => False) rfl rfl ?aP (fun _ hk => hk.elim) ?aF ?aO ?aB ?aS ?aL ?_); (case aP => exact rfl); (case aB => exact HB.out); (case aF => exact (fun _ _ => trivial)); (case aO => exact HO.out); (case aS => exact below_size HB.out); (case aL => have h1 := HN.out; have h2 := HXL.out; have h3 := HZ.out; omega); intro v8 w3 ho hb _ _; clear HO HB; have HO := Aside0.mk ho; have HB := Aside0.mk hb; clear ho hb)
        go_roundg k1
        case measure => omega
        case rel => exact ⟨j + 1, by have := HZ.out; omega, by have := HJ.out; omega, ⟨by rw [← HS.out]; exact HO.out⟩, HB⟩
end Go.Proofs.YtfcadniglmhclaaDoor.S
