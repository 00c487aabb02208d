/-
  Sha512Roots: long numbers (worth, product, comparison), the greedy root, the first primes, and the walks of above, Root, Roots, same and of the law itself.
-/
import Derived.Test.YtfcadniglmhclaaDoorQ2
import Derived.Test.YtfcadniglmhclaaDoorR4
import Derived.Outline
import Derived.Test.YtfcadniglmhclaaDoorS4
import Derived.Test.YtfcadniglmhclaaDoorU1

/-
  Long numbers to the base 65536: their worth; what the reference's times answers.
-/
namespace Go.Proofs.YtfcadniglmhclaaDoor.S
open Go.RowKit Go.Proofs.YtfcadniglmhclaaDoorW.PrintWords
open Go.Proofs.YtfcadniglmhclaaDoor.R
set_option linter.unusedSimpArgs false
set_option linter.unusedVariables false

/-- All are digits. -/
def Dg (l : List Int) : Prop := ∀ x ∈ l, 0 ≤ x ∧ x < 65536
/-- What the digits are worth, the least first. -/
def val : List Int → Int
  | [] => 0
  | x :: l => x + 65536 * val l
theorem Dg.get {l : List Int} (h : Dg l) (i : Nat) : 0 ≤ at' l i ∧ at' l i < 65536 := by
  unfold at'
  rw [List.getD_eq_getElem?_getD]
  by_cases hi : i < l.length
  · rw [List.getElem?_eq_getElem hi]
    exact h _ (List.getElem_mem hi)
  · rw [List.getElem?_eq_none (by omega)]
    exact ⟨by simp, by simp⟩
theorem Dg.set {l : List Int} (h : Dg l) (i : Nat) (x : Int) (h0 : 0 ≤ x) (h1 : x < 65536) : Dg (l.set i x) := fun y hy => by
  rcases List.mem_or_eq_of_mem_set hy with h2 | h2
  · exact h y h2
  · exact h2 ▸ ⟨h0, h1⟩
theorem Dg.zeros (n : Nat) : Dg (List.replicate n 0) := fun x hx => by
  have := List.eq_of_mem_replicate hx
  omega
theorem val_zeros : ∀ n : Nat, val (List.replicate n 0) = 0
  | 0 => rfl
  | n + 1 => by rw [List.replicate_succ, val, val_zeros n]; rfl
theorem val_set : ∀ (l : List Int) (i : Nat) (x : Int), i < l.length → val (l.set i x) = val l + (x - at' l i) * 65536 ^ i
  | [], i, x, h => absurd h (by simp)
  | y :: l, 0, x, h => by
    simp only [List.set_cons_zero, val, at', List.getD_cons_zero, Int.pow_zero]
    omega
  | y :: l, i + 1, x, h => by
    have ih := val_set l i x (by simpa using h)
    simp only [List.set_cons_succ, val, at', List.getD_cons_succ] at ih ⊢
    rw [ih, Int.pow_succ, Int.mul_add, Int.add_assoc, Int.mul_comm 65536 ((x - l.getD i 0) * 65536 ^ i), Int.mul_assoc]
theorem val_take : ∀ (l : List Int) (i : Nat), i < l.length → val (l.take (i + 1)) = val (l.take i) + at' l i * 65536 ^ i
  | [], i, h => absurd h (by simp)
  | y :: l, 0, h => by simp [val, at']
  | y :: l, i + 1, h => by
    have ih := val_take l i (by simpa using h)
    simp only [List.take_succ_cons, val, at', List.getD_cons_succ] at ih ⊢
    rw [ih, Int.pow_succ, Int.mul_add, Int.add_assoc, Int.mul_comm 65536 (l.getD i 0 * 65536 ^ i), Int.mul_assoc]
theorem at_set (l : List Int) (i j : Nat) (x : Int) : at' (l.set i x) j = if i = j ∧ i < l.length then x else at' l j := by
  unfold at'
  rw [List.getD_eq_getElem?_getD, List.getD_eq_getElem?_getD, List.getElem?_set]
  by_cases h : i = j
  · subst h
    by_cases h2 : i < l.length <;> simp [h2]
  · simp [h]
end Go.Proofs.YtfcadniglmhclaaDoor.S

/-
  What the reference's times answers: digits that are worth the product.
-/
namespace Go.Proofs.YtfcadniglmhclaaDoor.S
open Go.RowKit Go.Proofs.YtfcadniglmhclaaDoorW.PrintWords
open Go.Proofs.YtfcadniglmhclaaDoor.R
set_option linter.unusedSimpArgs false
set_option linter.unusedVariables false

theorem wrap_sum (i j : Nat) (h : i + j < 1000000000) : wrap64 ((i : Int) + (j : Int)) = ((i + j : Nat) : Int) := by unfold wrap64; omega
theorem digit_step (v oij ai bj c VB VT P Q t : Int) (ht : t = oij + ai * bj + c) :
    (v + (t % 65536 - oij) * (P * Q)) + (t / 65536) * (P * (Q * 65536)) + ai * (VB - (VT + bj * Q)) * P = v + c * (P * Q) + ai * (VB - VT) * P := by
  have h : t = 65536 * (t / 65536) + t % 65536 := (Int.mul_ediv_add_emod t 65536).symm
  generalize t / 65536 = q at h ⊢
  generalize t % 65536 = r at h ⊢
  have h2 : oij = 65536 * q + r - ai * bj - c := by omega
  subst h2
  grind
theorem times_l1 (a b : List Int) (ha : Dg a) (hb : Dg b) (la : a.length ≤ 1000) (lb : b.length ≤ 1000) (i : Nat) (hi : i < a.length) : ∀ (d j k : Nat) (o : List Int) (c : Int), j + d = b.length → o.length = a.length + b.length → Dg o → 0 ≤ c → c < 65536 →
    (∀ m, i + b.length ≤ m → at' o m = 0) →
    ∃ o', spinneyref02_times.l1 (k + d + 1) a b o (i : Int) c (j : Int) = spinneyref02_times.l0 k a b o' ((i + 1 : Nat) : Int) ∧ o'.length = a.length + b.length ∧ Dg o' ∧ (∀ m, i + 1 + b.length ≤ m → at' o' m = 0) ∧
      val o' = val o + c * 65536 ^ (i + j) + at' a i * (val b - val (b.take j)) * 65536 ^ i
  | 0, j, k, o, c, hj, ho, hd, c0, c1, hz => by
    obtain rfl : j = b.length := by omega
    have hz0 := hz (i + b.length) (Nat.le_refl _)
    refine ⟨o.set (i + b.length) c, ?_, by simpa using ho, hd.set _ _ c0 c1, fun m hm => ?_, ?_⟩
    · simp only [spinneyref02_times.l1, Nat.add_zero]
      rw [if_neg (by omega), wrap_sum i b.length (by omega), if_pos (by omega), if_pos (by omega), Int.toNat_natCast, rd_at, hz0, Int.zero_add, u64_in c0 (by omega), wrap_step (by omega)]
    · rw [at_set, if_neg (by omega)]
      exact hz m (by omega)
    · rw [val_set o _ c (by omega), hz0, List.take_length, Int.sub_self, Int.mul_zero, Int.zero_mul, Int.sub_zero, Int.add_zero]
  | d + 1, j, k, o, c, hj, ho, hd, c0, c1, hz => by
    have hoj := hd.get (i + j)
    have hai := ha.get i
    have hbj := hb.get j
    have hp0 : 0 ≤ at' a i * at' b j := Int.mul_nonneg hai.1 hbj.1
    have hp1 : at' a i * at' b j ≤ 65535 * 65535 := Int.mul_le_mul (by omega) (by omega) hbj.1 (by omega)
    obtain ⟨p, hp⟩ : ∃ p, p = at' a i * at' b j := ⟨_, rfl⟩
    rw [← hp] at hp0 hp1
    obtain ⟨t, ht⟩ : ∃ t, t = at' o (i + j) + p + c := ⟨_, rfl⟩
    have ht0 : 0 ≤ t := by omega
    have ht1 : t < 4294967296 := by omega
    obtain ⟨o', h1, h2, h3, h4, h5⟩ := times_l1 a b ha hb la lb i hi d (j + 1) k (o.set (i + j) (t % 65536)) (t / 65536) (by omega) (by simpa using ho) (hd.set _ _ (by omega) (by omega)) (by omega) (by omega)
      (fun m hm => by rw [at_set, if_neg (by omega)]; exact hz m hm)
    refine ⟨o', ?_, h2, h3, h4, ?_⟩
    · rw [← h1]
      obtain ⟨mm, hmm⟩ : ∃ mm, mm = k + d + 1 := ⟨_, rfl⟩
      rw [← hmm, show k + (d + 1) + 1 = mm + 1 by omega]
      simp only [spinneyref02_times.l1]
      rw [if_pos (show (j : Int) < (b.length : Int) by omega), wrap_sum i j (by omega), if_pos (by omega), if_pos (by omega), if_pos (by omega), if_pos (by omega), if_pos (by omega), Int.toNat_natCast, rd_at, rd_at, rd_at, ← hp,
        u64_in hp0 (by omega), u64_in (show 0 ≤ at' o (i + j) + p by omega) (by omega), u64_in (show 0 ≤ at' o (i + j) + p + c by omega) (by omega), ← ht, Int.tmod_eq_emod_of_nonneg ht0, Int.tdiv_eq_ediv_of_nonneg ht0, u64_in (by omega) (by omega), wrap_step (by omega)]
    · rw [h5, val_set o _ _ (by omega), val_take b j (by omega), Int.pow_add, show i + (j + 1) = i + (j + 1) from rfl, Int.pow_add, Int.pow_succ]
      rw [hp] at ht
      exact digit_step _ _ _ _ _ _ _ _ _ t ht
theorem times_l0 (a b : List Int) (ha : Dg a) (hb : Dg b) (la : a.length ≤ 1000) (lb : b.length ≤ 1000) : ∀ (d i k : Nat) (o : List Int), i + d = a.length → o.length = a.length + b.length → Dg o → (∀ m, i + b.length ≤ m → at' o m = 0) →
    ∃ r, spinneyref02_times.l0 (k + d * (b.length + 2) + 1) a b o (i : Int) = some r ∧ r.length = a.length + b.length ∧ Dg r ∧ val r = val o + (val a - val (a.take i)) * val b
  | 0, i, k, o, hi, ho, hd, hz => by
    obtain rfl : i = a.length := by omega
    refine ⟨o, ?_, ho, hd, ?_⟩
    · simp only [Nat.zero_mul, Nat.add_zero, spinneyref02_times.l0]
      rw [if_neg (by omega)]
    · rw [List.take_length, Int.sub_self, Int.zero_mul, Int.add_zero]
  | d + 1, i, k, o, hi, ho, hd, hz => by
    obtain ⟨o', h1, h2, h3, h4, h5⟩ := times_l1 a b ha hb la lb i (by omega) b.length 0 (k + d * (b.length + 2) + 1) o 0 (by omega) ho hd (by omega) (by omega) hz
    obtain ⟨r, g1, g2, g3, g4⟩ := times_l0 a b ha hb la lb d (i + 1) k o' (by omega) h2 h3 (fun m hm => h4 m (by omega))
    refine ⟨r, ?_, g2, g3, ?_⟩
    · rw [← g1, ← h1]
      obtain ⟨mm, hmm⟩ : ∃ mm, mm = k + d * (b.length + 2) + 1 + b.length + 1 := ⟨_, rfl⟩
      rw [← hmm, show k + (d + 1) * (b.length + 2) + 1 = mm + 1 by rw [Nat.add_mul]; omega]
      simp only [spinneyref02_times.l0]
      rw [if_pos (by omega)]
      rfl
    · rw [g4, h5, val_take a i (by omega)]
      simp only [List.take_zero, val]
      grind
theorem times_f (a b : List Int) (ha : Dg a) (hb : Dg b) (la : a.length ≤ 1000) (lb : b.length ≤ 1000) :
    ∃ r, spinneyref02_times.f (a.length * (b.length + 2) + 1) a b = some r ∧ r.length = a.length + b.length ∧ Dg r ∧ val r = val a * val b := by
  obtain ⟨r, h1, h2, h3, h4⟩ := times_l0 a b ha hb la lb a.length 0 0 (List.replicate (a.length + b.length) 0) (by omega) (by simp) (Dg.zeros _) (fun m hm => by
    unfold at'
    rw [List.getD_eq_getElem?_getD, List.getElem?_replicate]
    split <;> rfl)
  refine ⟨r, ?_, h2, h3, ?_⟩
  · unfold spinneyref02_times.f
    rw [wrap_sum _ _ (by omega), if_pos (by omega), Int.toNat_natCast, if_pos (by omega)]
    rw [Nat.zero_add] at h1
    exact h1
  · rw [h4, val_zeros, List.take_zero]
    simp [val]
end Go.Proofs.YtfcadniglmhclaaDoor.S

/-
  Long numbers compared; the greedy root.
-/
namespace Go.Proofs.YtfcadniglmhclaaDoor.S
open Go.RowKit Go.Proofs.YtfcadniglmhclaaDoorW.PrintWords
open Go.Proofs.YtfcadniglmhclaaDoor.R
set_option linter.unusedSimpArgs false
set_option linter.unusedVariables false

theorem val_head (l : List Int) : val l = at' l 0 + 65536 * val l.tail := by
  cases l with
  | nil => rfl
  | cons x l => rfl
theorem at_tail (l : List Int) (j : Nat) : at' l.tail j = at' l (j + 1) := by
  cases l with
  | nil => simp [at']
  | cons x l => simp [at']
theorem val_none : ∀ (l : List Int), (∀ j, at' l j = 0) → val l = 0
  | [], _ => rfl
  | x :: l, h => by
    have h0 : x = 0 := by simpa [at'] using h 0
    have ih := val_none l (fun j => by have := h (j + 1); simpa [at'] using this)
    rw [val, ih, h0]
    rfl
theorem val_same : ∀ (a b : List Int), (∀ j, at' a j = at' b j) → val a = val b
  | [], b, h => (val_none b fun j => by rw [← h j]; simp [at']).symm
  | x :: a, b, h => by
    have h0 := h 0
    have ih := val_same a b.tail (fun j => by rw [at_tail, ← h (j + 1)]; simp [at'])
    rw [val_head b, ← h0, ← ih]
    simp [val, at']
theorem Dg.tail {l : List Int} (h : Dg l) : Dg l.tail := fun x hx => h x (List.mem_of_mem_tail hx)
theorem val_cmp : ∀ (i : Nat) (a b : List Int), Dg a → Dg b → (∀ j, i < j → at' a j = at' b j) → at' a i < at' b i → val a < val b
  | 0, a, b, ha, hb, h, hlt => by
    have h1 := val_same a.tail b.tail (fun j => by rw [at_tail, at_tail]; exact h (j + 1) (by omega))
    rw [val_head a, val_head b, h1]
    omega
  | i + 1, a, b, ha, hb, h, hlt => by
    have h1 := val_cmp i a.tail b.tail ha.tail hb.tail (fun j hj => by rw [at_tail, at_tail]; exact h (j + 1) (by omega)) (by rw [at_tail, at_tail]; exact hlt)
    have h2 := ha.get 0
    have h3 := hb.get 0
    rw [val_head a, val_head b]
    omega
end Go.Proofs.YtfcadniglmhclaaDoor.S

/-
  The walk of the reference's above (function 34).
-/
namespace Go.Proofs.YtfcadniglmhclaaDoor.S
open Go.RowKit Go.Proofs.YtfcadniglmhclaaDoorW.PrintWords Go.Proofs.YtfcadniglmhclaaDoorW.PrintLast Go.Proofs.YtfcadniglmhclaaDoorW.PrintMore
open Go.Proofs.YtfcadniglmhclaaDoor.R
set_option linter.unusedSimpArgs false
set_option linter.unusedVariables false

theorem at_far (l : List Int) (j : Nat) (h : l.length ≤ j) : at' l j = 0 := by
  unfold at'
  rw [List.getD_eq_getElem?_getD, List.getElem?_eq_none h]
  rfl
theorem above_val (a b : List Int) (ha : Dg a) (hb : Dg b) (i : Nat) (h : ∀ j, i < j → at' a j = at' b j) (hne : at' a i ≠ at' b i) : decide (at' b i < at' a i) = decide (val b < val a) := by
  by_cases hlt : at' b i < at' a i
  · rw [decide_eq_true hlt, decide_eq_true (val_cmp i b a hb ha (fun j hj => (h j hj).symm) hlt)]
  · have h2 := val_cmp i a b ha hb h (by omega)
    rw [decide_eq_false hlt, decide_eq_false (by omega)]
set_option maxRecDepth 100000 in
set_option maxHeartbeats 1000000 in
theorem above_any (A0 A1 : Option Addr) (c0 c1 : Nat) (a b : List Int) (w : World) (ha : Dg a) (hb : Dg b) (la : a.length ≤ 1000) (lb : b.length ≤ 1000)
    (hra : Kd.C (Kd.int .u64) w A0 a.length a) (hrb : Kd.C (Kd.int .u64) w A1 b.length b) :
    Calls Tryd.prog 34 #[.slice A0 a.length c0, .slice A1 b.length c1] w fun e w' => e = .returned (.bool (decide (val b < val a))) ∧ w = w' := by
  have HA := Aside0.mk ha
  have HB := Aside0.mk hb
  have LA := Aside0.mk la
  have LB := Aside0.mk lb
  have RA := Aside0.mk hra
  have RB := Aside0.mk hrb
  clear ha hb hra hrb la lb
  by_cases hc : (a.length : Int) < (b.length : Int)
  all_goals
    go_enter Tryd.func34, Tryd.ntmps34
    go_wp2
    go_loopw [6] (fun v6 wr => w = wr ∧ ∃ m : Nat, m ≤ 1000 ∧ v6 = .int .i64 ((m : Int) - 1) ∧ ∀ j, m ≤ j → at' a j = at' b j) (fun v6 _ => (intOf v6 + 1).toNat)
    case atStart =>
      first
      | exact ⟨rfl, b.length, LB.out, by congr 1; have := LB.out; unfold wrap64; omega, fun j hj => by rw [at_far a j (by omega), at_far b j hj]⟩
      | exact ⟨rfl, a.length, LA.out, by congr 1; have := LA.out; unfold wrap64; omega, fun j hj => by rw [at_far b j (by omega), at_far a j hj]⟩
    case round =>
      obtain ⟨rfl, m, hm, rfl, hj⟩ := hrel
      cases m with
      | zero =>
        have HV : Aside0 (decide (val b < val a) = false) := ⟨decide_eq_false (by rw [val_same a b (fun j => hj j (Nat.zero_le _))]; omega)⟩
        clear hj
        rw [show ((0 : Nat) : Int) - 1 = -1 from rfl]
        go_wp2
        go_ret
        exact ⟨by rw [HV.out]; rfl, rfl⟩
      | succ k =>
        rw [show ((k + 1 : Nat) : Int) - 1 = (k : Int) by omega]
        have HJ := Aside0.mk hj
        have HM := Aside0.mk hm
        have ws : wrap64 ((k : Int) - 1) = (k : Int) - 1 := by unfold wrap64; omega
        have WS := Aside0.mk ws
        clear hj hm ws
        have fin : ∀ X Y : Int, at' a k = X → at' b k = Y → X ≠ Y → Aside0 (decide (Y < X) = decide (val b < val a)) := fun X Y hX hY hne => ⟨by subst hX; subst hY; exact above_val a b HA.out HB.out k (fun j hj => HJ.out j (by omega)) hne⟩
        have nxt : ∀ X Y : Int, at' a k = X → at' b k = Y → X = Y → Aside0 (∀ j, k ≤ j → at' a j = at' b j) := fun X Y hX hY he => ⟨fun j hj => by
          by_cases h : j = k
          · subst h; omega
          · exact HJ.out j (by omega)⟩
        have hka : (k : Int) < (a.length : Int) ∨ ¬ (k : Int) < (a.length : Int) := Classical.em _
        have hkb : (k : Int) < (b.length : Int) ∨ ¬ (k : Int) < (b.length : Int) := Classical.em _
        rcases hka with h1 | h1 <;> rcases hkb with h2 | h2
        · obtain ⟨ad1, e1, x1⟩ := Kd.at_int RA.out (k : Int) (by omega) h1
          subst e1
          rw [Int.toNat_natCast, rd_at] at x1
          obtain ⟨X, hX⟩ : ∃ X, X = at' a k := ⟨_, rfl⟩
          rw [← hX] at x1
          obtain ⟨ad2, e2, x2⟩ := Kd.at_int RB.out (k : Int) (by omega) h2
          subst e2
          rw [Int.toNat_natCast, rd_at] at x2
          obtain ⟨Y, hY⟩ : ∃ Y, Y = at' b k := ⟨_, rfl⟩
          rw [← hY] at x2
          by_cases hxy : X = Y
          · have HNX := nxt X Y hX.symm hY.symm hxy
            clear hX hY fin nxt
            subst hxy
            go_wp2
            go_roundw
            case rel => exact ⟨by trivial, k, by have := HM.out; omega, by first | rfl | rw [WS.out], HNX.out⟩
            case measure => (try rw [WS.out]); simp [intOf] <;> omega
          · have HF := fin X Y hX.symm hY.symm hxy
            clear hX hY fin nxt
            all_goals go_wp2
            all_goals go_ret
            all_goals exact ⟨by rw [HF.out]; rfl, rfl⟩
        · obtain ⟨ad1, e1, x1⟩ := Kd.at_int RA.out (k : Int) (by omega) h1
          subst e1
          rw [Int.toNat_natCast, rd_at] at x1
          obtain ⟨X, hX⟩ : ∃ X, X = at' a k := ⟨_, rfl⟩
          rw [← hX] at x1
          obtain ⟨Y, hY0, hY⟩ : ∃ Y : Int, Y = 0 ∧ Y = at' b k := ⟨0, rfl, (at_far b k (by omega)).symm⟩
          by_cases hxy : X = Y
          · have HNX := nxt X Y hX.symm hY.symm hxy
            clear hX hY fin nxt
            subst hY0
            subst hxy
            go_wp2
            go_roundw
            case rel => exact ⟨by trivial, k, by have := HM.out; omega, by first | rfl | rw [WS.out], HNX.out⟩
            case measure => (try rw [WS.out]); simp [intOf] <;> omega
          · have HF := fin X Y hX.symm hY.symm hxy
            clear hX hY fin nxt
            subst hY0
            all_goals go_wp2
            all_goals go_ret
            all_goals exact ⟨by rw [HF.out]; rfl, rfl⟩
        · obtain ⟨X, hX0, hX⟩ : ∃ X : Int, X = 0 ∧ X = at' a k := ⟨0, rfl, (at_far a k (by omega)).symm⟩
          obtain ⟨ad2, e2, x2⟩ := Kd.at_int RB.out (k : Int) (by omega) h2
          subst e2
          rw [Int.toNat_natCast, rd_at] at x2
          obtain ⟨Y, hY⟩ : ∃ Y, Y = at' b k := ⟨_, rfl⟩
          rw [← hY] at x2
          by_cases hxy : X = Y
          · have HNX := nxt X Y hX.symm hY.symm hxy
            clear hX hY fin nxt
            subst hX0
            subst hxy
            go_wp2
            go_roundw
            case rel => exact ⟨by trivial, k, by have := HM.out; omega, by first | rfl | rw [WS.out], HNX.out⟩
            case measure => (try rw [WS.out]); simp [intOf] <;> omega
          · have HF := fin X Y hX.symm hY.symm hxy
            clear hX hY fin nxt
            subst hX0
            all_goals go_wp2
            all_goals go_ret
            all_goals exact ⟨by rw [HF.out]; rfl, rfl⟩
        · obtain ⟨X, hX0, hX⟩ : ∃ X : Int, X = 0 ∧ X = at' a k := ⟨0, rfl, (at_far a k (by omega)).symm⟩
          obtain ⟨Y, hY0, hY⟩ : ∃ Y : Int, Y = 0 ∧ Y = at' b k := ⟨0, rfl, (at_far b k (by omega)).symm⟩
          by_cases hxy : X = Y
          · have HNX := nxt X Y hX.symm hY.symm hxy
            clear hX hY fin nxt
            subst hX0
            subst hY0
            clear hxy
            go_wp2
            go_roundw
            case rel => exact ⟨by trivial, k, by have := HM.out; omega, by first | rfl | rw [WS.out], HNX.out⟩
            case measure => (try rw [WS.out]); simp [intOf] <;> omega
          · have HF := fin X Y hX.symm hY.symm hxy
            clear hX hY fin nxt
            subst hX0
            subst hY0
            exact absurd rfl hxy
end Go.Proofs.YtfcadniglmhclaaDoor.S

/-
  The greedy root, and the six digits of it.
-/
namespace Go.Proofs.YtfcadniglmhclaaDoor.S
open Go.RowKit Go.Proofs.YtfcadniglmhclaaDoorW.PrintWords
open Go.Proofs.YtfcadniglmhclaaDoor.R
set_option linter.unusedSimpArgs false
set_option linter.unusedVariables false

/-- The bits below m of the greatest number whose k-th power is not above p times 2 to the 64 k, set one by one. -/
def gro (p k : Nat) : Nat → Nat → Nat
  | 0, V => V
  | m + 1, V => gro p k m (if p * 2 ^ (64 * k) < (V + 2 ^ m) ^ k then V else V + 2 ^ m)
theorem gro_up {p k m V : Nat} (h : p * 2 ^ (64 * k) < (V + 2 ^ m) ^ k) : gro p k (m + 1) V = gro p k m V := by
  show gro p k m (if p * 2 ^ (64 * k) < (V + 2 ^ m) ^ k then V else V + 2 ^ m) = _
  rw [if_pos h]
theorem gro_on {p k m V : Nat} (h : ¬ p * 2 ^ (64 * k) < (V + 2 ^ m) ^ k) : gro p k (m + 1) V = gro p k m (V + 2 ^ m) := by
  show gro p k m (if p * 2 ^ (64 * k) < (V + 2 ^ m) ^ k then V else V + 2 ^ m) = _
  rw [if_neg h]

/-- Six digits that are worth V; the bits below m are not set. -/
structure Six (m V : Nat) (l : List Int) : Prop where
  len : l.length = 6
  dg : Dg l
  worth : val l = (V : Int)
  free : ∀ j, j < 6 → at' l j % 2 ^ (min 16 (m - 16 * j)) = 0

theorem pow_split : ∀ m, m < 80 → (2 : Int) ^ (m % 16) * 65536 ^ (m / 16) = ((2 ^ m : Nat) : Int) := by decide +kernel
theorem bit_room (x : Int) (s : Nat) (hs : s < 16) (h0 : 0 ≤ x) (h1 : x < 65536) (h : x % 2 ^ (s + 1) = 0) : x + 2 ^ s < 65536 ∧ x % 2 ^ s = 0 ∧ (x + 2 ^ s) % 2 ^ s = 0 := by
  have h2 : s = 0 ∨ s = 1 ∨ s = 2 ∨ s = 3 ∨ s = 4 ∨ s = 5 ∨ s = 6 ∨ s = 7 ∨ s = 8 ∨ s = 9 ∨ s = 10 ∨ s = 11 ∨ s = 12 ∨ s = 13 ∨ s = 14 ∨ s = 15 := by omega
  rcases h2 with h2 | h2 | h2 | h2 | h2 | h2 | h2 | h2 | h2 | h2 | h2 | h2 | h2 | h2 | h2 | h2 <;> subst h2 <;> simp only [Nat.reduceAdd, Int.reducePow] at h ⊢ <;> omega
theorem Six.here {m V : Nat} {l : List Int} (h : Six (m + 1) V l) (hm : m < 80) : 0 ≤ at' l (m / 16) ∧ at' l (m / 16) + 2 ^ (m % 16) < 65536 ∧ at' l (m / 16) % 2 ^ (m % 16) = 0 ∧ (at' l (m / 16) + 2 ^ (m % 16)) % 2 ^ (m % 16) = 0 := by
  have h1 := h.dg.get (m / 16)
  have h2 := h.free (m / 16) (by omega)
  rw [show min 16 (m + 1 - 16 * (m / 16)) = m % 16 + 1 by omega] at h2
  exact ⟨h1.1, bit_room _ _ (by omega) h1.1 h1.2 h2⟩
theorem Six.down {m V : Nat} {l : List Int} (h : Six (m + 1) V l) (hm : m < 80) : Six m V l := by
  refine ⟨h.len, h.dg, h.worth, fun j hj => ?_⟩
  have h3 := h.free j hj
  by_cases hq : j = m / 16
  · subst hq
    rw [show min 16 (m - 16 * (m / 16)) = m % 16 by omega]
    exact (h.here hm).2.2.1
  · by_cases hlt : j < m / 16
    · rw [show min 16 (m - 16 * j) = min 16 (m + 1 - 16 * j) by omega]
      exact h3
    · rw [show min 16 (m - 16 * j) = 0 by omega]
      simp
theorem Six.up {m V : Nat} {l : List Int} (h : Six (m + 1) V l) (hm : m < 80) : Six m (V + 2 ^ m) (l.set (m / 16) (at' l (m / 16) + 2 ^ (m % 16))) := by
  have h1 := h.here hm
  have hp : (0 : Int) < 2 ^ (m % 16) := Int.pow_pos (by omega)
  refine ⟨by rw [List.length_set]; exact h.len, h.dg.set _ _ (by omega) (by omega), ?_, fun j hj => ?_⟩
  · rw [val_set l _ _ (by rw [h.len]; omega), h.worth, show at' l (m / 16) + 2 ^ (m % 16) - at' l (m / 16) = 2 ^ (m % 16) by omega, pow_split m hm]
    omega
  · by_cases hq : j = m / 16
    · subst hq
      rw [at_set, if_pos ⟨rfl, by rw [h.len]; omega⟩, show min 16 (m - 16 * (m / 16)) = m % 16 by omega]
      exact h1.2.2.2
    · rw [at_set, if_neg (by omega)]
      exact (h.down hm).free j hj
theorem set_back (l : List Int) (i : Nat) (x : Int) (h : i < l.length) : (l.set i x).set i (at' l i) = l := by
  rw [List.set_set]
  refine List.ext_getElem (by simp) fun j h1 h2 => ?_
  rw [List.getElem_set]
  split
  · rename_i e
    subst e
    simp [at', List.getD_eq_getElem?_getD, h]
  · rfl
theorem six_zero : Six 80 0 (List.replicate 6 0) := ⟨rfl, Dg.zeros _, val_zeros _, fun j hj => by
  have : at' (List.replicate 6 0) j = 0 := by
    unfold at'
    rw [List.getD_eq_getElem?_getD, List.getElem?_replicate]
    split <;> rfl
  rw [this]
  simp⟩
theorem six_end {V : Nat} {l : List Int} (h : Six 0 V l) : at' l 0 + at' l 1 * 65536 + at' l 2 * 4294967296 + at' l 3 * 281474976710656 = ((V % 18446744073709551616 : Nat) : Int) := by
  obtain ⟨h1, h2, h3, _⟩ := h
  match l, h1 with
  | [a, b, c, d, e, f], _ =>
    have g0 := h2.get 0
    have g1 := h2.get 1
    have g2 := h2.get 2
    have g3 := h2.get 3
    simp only [val, at', List.getD_cons_zero, List.getD_cons_succ] at g0 g1 g2 g3 h3 ⊢
    omega

/-- What a root's power is held against. -/
def wantS (p k : Nat) : List Int := (List.replicate (4 * k + 1) 0).set (4 * k) (p : Int)
theorem length_wantS (p k : Nat) : (wantS p k).length = 4 * k + 1 := by simp [wantS]
theorem dg_wantS (p k : Nat) (hp : p < 65536) : Dg (wantS p k) := (Dg.zeros _).set _ _ (by omega) (by omega)
theorem val_wantS (p k : Nat) : val (wantS p k) = ((p * 2 ^ (64 * k) : Nat) : Int) := by
  unfold wantS
  rw [val_set _ _ _ (by simp), val_zeros]
  have h0 : at' (List.replicate (4 * k + 1) 0) (4 * k) = 0 := by
    unfold at'
    rw [List.getD_eq_getElem?_getD, List.getElem?_replicate]
    split <;> rfl
  have h1 : (65536 : Nat) ^ (4 * k) = 2 ^ (64 * k) := by
    rw [show (65536 : Nat) = 2 ^ 16 from rfl, ← Nat.pow_mul, show 16 * (4 * k) = 64 * k by omega]
  rw [h0, ← h1, Int.natCast_mul, Int.natCast_pow]
  simp
end Go.Proofs.YtfcadniglmhclaaDoor.S

/-
  What the kernel reckons: the first primes, and the roots of them.
-/
namespace Go.Proofs.YtfcadniglmhclaaDoor.S
open Go.RowKit Go.Proofs.YtfcadniglmhclaaDoorW.PrintWords
open Go.Proofs.YtfcadniglmhclaaDoor.R
set_option linter.unusedSimpArgs false
set_option linter.unusedVariables false

def PL : List Nat := [2, 3, 5, 7, 11, 13, 17, 19, 23, 29, 31, 37, 41, 43, 47, 53, 59, 61, 67, 71, 73, 79, 83, 89, 97, 101, 103, 107, 109, 113, 127, 131, 137, 139, 149, 151, 157, 163, 167, 173, 179, 181, 191, 193, 197, 199, 211, 223, 227, 229, 233, 239, 241, 251, 257, 263, 269, 271, 277, 281, 283, 293, 307, 311, 313, 317, 331, 337, 347, 349, 353, 359, 367, 373, 379, 383, 389, 397, 401, 409]
/-- The first 64 bits behind the point of the k-th root. -/
def rootS (k p : Nat) : Int := ((gro p k 80 0 % 18446744073709551616 : Nat) : Int)
set_option maxRecDepth 1000000 in
theorem roots_KS : PL.map (rootS 3) = KS := by decide +kernel
set_option maxRecDepth 1000000 in
theorem roots_FS : (PL.take 8).map (rootS 2) = FS := by decide +kernel
set_option maxRecDepth 1000000 in
theorem primes8 : spinneyref02_primes.f 200 8 = some ((PL.take 8).map fun p : Nat => (p : Int)) := by decide +kernel
set_option maxRecDepth 1000000 in
theorem primes80 : spinneyref02_primes.f 19000 80 = some (PL.map fun p : Nat => (p : Int)) := by decide +kernel
end Go.Proofs.YtfcadniglmhclaaDoor.S

/-
  The walk of the reference's Root (function 26), for square and cube roots.
-/
namespace Go.Proofs.YtfcadniglmhclaaDoor.S
open Go.RowKit Go.Proofs.YtfcadniglmhclaaDoorW.PrintWords Go.Proofs.YtfcadniglmhclaaDoorW.PrintLast Go.Proofs.YtfcadniglmhclaaDoorW.PrintMore
open Go.Proofs.YtfcadniglmhclaaDoor.R
set_option linter.unusedSimpArgs false
set_option linter.unusedVariables false

theorem len_six {i n : Nat} (h : n = 6 * i) (hi : i ≤ 3) : n ≤ 1000 := by omega
theorem len_one {n m : Nat} (h : n = m) (hm : m ≤ 1000) : n ≤ 1000 := by omega
theorem lt_of_not {i : Nat} {k : Nat} (h1 : i ≤ k) (h : ¬ (i : Int) < (k : Int)) : i = k := by omega
theorem times_any (A0 A1 : Option Addr) (c0 c1 n : Nat) (a b : List Int) (w : World) (ha : Dg a) (hb : Dg b) (la : a.length ≤ 1000) (lb : b.length ≤ 1000) (hn : b.length = n)
    (hra : Kd.C (Kd.int .u64) w A0 a.length a) (hca : a.length ≤ c0) (hrb : Kd.C (Kd.int .u64) w A1 b.length b) (hcb : b.length ≤ c1) :
    Calls Tryd.prog 33 #[.slice A0 a.length c0, .slice A1 n c1] w fun e w' => ∃ (A : Option Addr) (c : Nat) (r : List Int), e = .returned (.slice A r.length c) ∧ r.length = a.length + b.length ∧ Dg r ∧ val r = val a * val b ∧ r.length ≤ c ∧ Kd.C (Kd.int .u64) w' A r.length r ∧ Below w.heap.size w w' := by
  subst hn
  obtain ⟨r, h1, h2, h3, h4⟩ := times_f a b ha hb la lb
  refine (spinneyref02_times.calls _ A0 c0 a A1 c1 b r w hra hca hrb hcb h1).mono fun e w' ⟨v, he, ho, hb⟩ => ?_
  obtain ⟨A', c', rfl, g1, g2⟩ := Kd.R_reads ho
  exact ⟨A', c', r, he, h2, h3, h4, g1, g2, hb⟩
theorem above_len (A0 A1 : Option Addr) (c0 c1 n : Nat) (a b : List Int) (w : World) (ha : Dg a) (hb : Dg b) (la : a.length ≤ 1000) (lb : b.length ≤ 1000) (hn : b.length = n)
    (hra : Kd.C (Kd.int .u64) w A0 a.length a) (hrb : Kd.C (Kd.int .u64) w A1 b.length b) :
    Calls Tryd.prog 34 #[.slice A0 a.length c0, .slice A1 n c1] w fun e w' => e = .returned (.bool (decide (val b < val a))) ∧ w = w' := by
  subst hn
  exact above_any A0 A1 c0 c1 a b w ha hb la lb hra hrb

set_option maxRecDepth 100000 in
set_option maxHeartbeats 2000000 in
theorem root_2 (p : Nat) (hp : p < 65536) (w : World) :
    Calls Tryd.prog 26 #[.int .u64 (p : Int), .int .i64 2] w fun e w' => e = .returned (.int .u64 (rootS 2 p)) ∧ Below w.heap.size w w' := by
  obtain ⟨L, hL⟩ : ∃ L, L = wantS p 2 := ⟨_, rfl⟩
  have LD : Aside0 (Dg L) := ⟨by rw [hL]; exact dg_wantS p 2 hp⟩
  have LL : Aside0 (L.length = 9) := ⟨by rw [hL]; exact length_wantS p 2⟩
  have LV : Aside0 (val L = ((p * 2 ^ (64 * 2) : Nat) : Int)) := ⟨by rw [hL]; exact val_wantS p 2⟩
  have LE : Aside0 (L = (List.replicate 9 0).set 8 (p : Int)) := ⟨hL⟩
  obtain ⟨G, hG⟩ : ∃ G, G = gro p 2 80 0 := ⟨_, rfl⟩
  have GE := Aside0.mk hG
  have GR : Aside0 (rootS 2 p = ((G % 18446744073709551616 : Nat) : Int)) := ⟨by rw [hG]; rfl⟩
  clear hL hG
  go_enter Tryd.func26, Tryd.ntmps26
  go_wp2_with (first | ((with_reducible refine gate_dst (N := 13) rfl ?_);  refine Kd.R_make (Kd.int .u64) (w0 := w) w.heap.size 27 rfl (N := 13) rfl 30 _ _ rfl 9 rfl rfl Tryd.underlying30 (.int .u64 0) 8 info27 rfl (by decide) (by omega) 0 (ok := fun _ => True) (okp := fun _ => True) rfl (fun _ hk => hk) trivial (by omega) (by decide) (Below.refl _ _) (Nat.le_refl _) ?_; intro vL w1 ho hb _ _; have ho1 : Kd.R (Kd.int .u64) 27 w1 w.heap.size (fun _ => True) vL (List.replicate 9 0) := ho; obtain ⟨gL, cL, e1, gb, gl, cells, HG⟩ := Kd.R_form ho1 (by simp); replace e1 : vL = .slice (some ⟨gL, 0, none⟩) 9 cL := e1; subst e1; have RL := Aside0.mk ho1; have B1 := Aside0.mk hb; have GB := Aside0.mk gb; have GL := Aside0.mk gl; obtain ⟨hx1, hf1⟩ := Kd.R_celln 0 ho1 8 (by omega) (by omega); replace hx1 : w1.cell? ⟨gL, 8, none⟩ = some (.int .u64 0) := hx1; replace hf1 : w1.frozen? ⟨gL, 8, none⟩ = false := hf1; have HP := Aside0.mk (Kd.R_putg ho1 8 (p : Int)); clear ho hb ho1 gb gl HG) | ((with_reducible refine gate_dst (N := 19) rfl ?_); generalize hw : World.setCell w1 _ _ = w2; have R2 : Aside0 (Kd.R (Kd.int .u64) 27 w2 w.heap.size (fun _ => True) (.slice (some ⟨gL, 0, none⟩) 9 cL) L) := ⟨by rw [← hw, LE.out]; exact HP.out.1⟩; have B2 : Aside0 (Below w.heap.size w w2) := ⟨by rw [← hw]; exact below_set B1.out GB.out⟩; clear hw HP RL B1 GL hx1 hf1; refine Kd.R_make (Kd.int .u64) (w0 := w2) w2.heap.size 27 rfl (N := 19) rfl 30 _ _ rfl 6 rfl rfl Tryd.underlying30 (.int .u64 0) 8 info27 rfl (by decide) (by omega) 0 (ok := fun _ => True) (okp := fun _ => True) rfl (fun _ hk => hk) trivial (by omega) (by decide) (Below.refl _ _) (Nat.le_refl _) ?_; intro vX w3 ho hb hgr hn; have ho1 : Kd.R (Kd.int .u64) 27 w3 w2.heap.size (fun _ => True) vX (List.replicate 6 0) := ho; obtain ⟨gX, cX, e1, gxb, gxl, cells3, HG3⟩ := Kd.R_form ho1 (by simp); replace e1 : vX = .slice (some ⟨gX, 0, none⟩) 6 cX := e1; subst e1; have RX : Aside0 (Kd.R (Kd.int .u64) 27 w3 w.heap.size (fun _ => True) (.slice (some ⟨gX, 0, none⟩) 6 cX) (List.replicate 6 0)) := ⟨Kd.R_lower ho1 (below_size B2.out)⟩; have B3 := Aside0.mk (below_step B2.out hb); have GXB : Aside0 (w.heap.size ≤ gX) := ⟨Nat.le_trans (below_size B2.out) gxb⟩; have RL : Aside0 (Kd.R (Kd.int .u64) 27 w3 w.heap.size (fun k => True ∧ k ≠ gX) (.slice (some ⟨gL, 0, none⟩) 9 cL) L) := ⟨Kd.R_below (Kd.R_elderB R2.out gX gxb) hb⟩; clear ho hb ho1 gxb gxl HG3 B2 R2 hgr hn))
  go_loopw [7] (fun v7 wr => ∃ (m V : Nat) (xl : List Int), m ≤ 80 ∧ v7 = .int .i64 ((m : Int) - 1) ∧ Aside0 (gro p 2 m V = G) ∧ Aside0 (Six m V xl) ∧ Aside0 (Kd.R (Kd.int .u64) 27 wr w.heap.size (fun _ => True) (.slice (some ⟨gX, 0, none⟩) 6 cX) xl) ∧ Aside0 (Kd.R (Kd.int .u64) 27 wr w.heap.size (fun k => True ∧ k ≠ gX) (.slice (some ⟨gL, 0, none⟩) 9 cL) L) ∧ Aside0 (Below w.heap.size w wr)) (fun v7 _ => (intOf v7 + 1).toNat)
  case atStart => exact ⟨80, 0, List.replicate 6 0, by omega, rfl, ⟨GE.out.symm⟩, ⟨six_zero⟩, RX, RL, B3⟩
  case round =>
    clear RX RL B3
    obtain ⟨m0, V, xl, hm, rfl, HG, HS, RX, RL, HB⟩ := hrel
    cases m0 with
    | zero =>
      rw [show ((0 : Nat) : Int) - 1 = -1 from rfl]
      have hv0 : V = G := HG.out
      have hend := six_end HS.out
      rw [hv0, ← GR.out] at hend
      have d0 := HS.out.dg.get 0
      have d1 := HS.out.dg.get 1
      have d2 := HS.out.dg.get 2
      have d3 := HS.out.dg.get 3
      have x0 := Kd.R_celln 0 RX.out 0 (by omega) (by omega)
      have x1 := Kd.R_celln 0 RX.out 1 (by omega) (by omega)
      have x2 := Kd.R_celln 0 RX.out 2 (by omega) (by omega)
      have x3 := Kd.R_celln 0 RX.out 3 (by omega) (by omega)
      obtain ⟨a0, h0⟩ : ∃ a, a = at' xl 0 := ⟨_, rfl⟩
      obtain ⟨a1, h1⟩ : ∃ a, a = at' xl 1 := ⟨_, rfl⟩
      obtain ⟨a2, h2⟩ : ∃ a, a = at' xl 2 := ⟨_, rfl⟩
      obtain ⟨a3, h3⟩ : ∃ a, a = at' xl 3 := ⟨_, rfl⟩
      rw [← h0, ← h1, ← h2, ← h3] at hend
      rw [← h0] at d0
      rw [← h1] at d1
      rw [← h2] at d2
      rw [← h3] at d3
      have y0 : wr.cell? ⟨gX, 0, none⟩ = some (.int .u64 a0) := by rw [h0]; exact x0.1
      have y1 : wr.cell? ⟨gX, 1, none⟩ = some (.int .u64 a1) := by rw [h1]; exact x1.1
      have y2 : wr.cell? ⟨gX, 2, none⟩ = some (.int .u64 a2) := by rw [h2]; exact x2.1
      have y3 : wr.cell? ⟨gX, 3, none⟩ = some (.int .u64 a3) := by rw [h3]; exact x3.1
      have s1 : IntKind.u64.wrap (a1 * 65536) = a1 * 65536 := u64_in (by omega) (by omega)
      have s2 : IntKind.u64.wrap (a2 * 4294967296) = a2 * 4294967296 := u64_in (by omega) (by omega)
      have s3 : IntKind.u64.wrap (a3 * 281474976710656) = a3 * 281474976710656 := u64_in (by omega) (by omega)
      have t1 : IntKind.u64.wrap (a0 + a1 * 65536) = a0 + a1 * 65536 := u64_in (by omega) (by omega)
      have t2 : IntKind.u64.wrap (a0 + a1 * 65536 + a2 * 4294967296) = a0 + a1 * 65536 + a2 * 4294967296 := u64_in (by omega) (by omega)
      have t3 : IntKind.u64.wrap (a0 + a1 * 65536 + a2 * 4294967296 + a3 * 281474976710656) = rootS 2 p := by rw [← hend]; exact u64_in (by omega) (by omega)
      clear x0 x1 x2 x3 h0 h1 h2 h3 d0 d1 d2 d3 hend hv0
      go_wp2
      repeat (go_quiet (fail); try go_wp2)
      go_ret
      exact ⟨rfl, by first | exact HB.out | exact below_drew HB.out | exact pw_below_drewN HB.out _⟩
    | succ m =>
      rw [show ((m + 1 : Nat) : Int) - 1 = (m : Int) by omega]
      have hm80 : m < 80 := by omega
      obtain ⟨q, hq⟩ : ∃ q, q = m / 16 := ⟨_, rfl⟩
      obtain ⟨s, hs⟩ : ∃ s, s = m % 16 := ⟨_, rfl⟩
      have hdiv : Int.tdiv (m : Int) 16 = (q : Int) := by rw [Int.tdiv_eq_ediv_of_nonneg (by omega)]; omega
      have hmod : Int.tmod (m : Int) 16 = (s : Int) := by rw [Int.tmod_eq_emod_of_nonneg (by omega)]; omega
      have hwq : wrap64 (q : Int) = (q : Int) := by unfold wrap64; omega
      have hws : IntKind.u64.wrap (s : Int) = (s : Int) := u64_in (by omega) (by omega)
      have hwm : wrap64 ((m : Int) - 1) = (m : Int) - 1 := by unfold wrap64; omega
      have hge : (0 : Int) ≤ (m : Int) := by omega
      have hq0 : (0 : Int) ≤ (q : Int) := by omega
      have hq6 : (q : Int) < 6 := by omega
      have HM := Aside0.mk hm80
      have HQ := Aside0.mk hq
      have HSS := Aside0.mk hs
      have hT0 : (0 : Int) < 2 ^ (m % 16) := Int.pow_pos (by omega)
      have hhere := HS.out.here hm80
      obtain ⟨X, hX⟩ : ∃ X, X = at' xl q := ⟨_, rfl⟩
      obtain ⟨T, hT⟩ : ∃ T : Int, T = 2 ^ s := ⟨_, rfl⟩
      rw [← hq, ← hs, ← hX, ← hT] at hhere
      rw [← hs, ← hT] at hT0
      have hmin : min s 64 = s := by omega
      have hTp : (2 : Int) ^ s = T := hT.symm
      have hwT : IntKind.u64.wrap T = T := u64_in (by omega) (by omega)
      obtain ⟨Y, hY⟩ : ∃ Y : Int, Y = X + T := ⟨_, rfl⟩
      have hwS : IntKind.u64.wrap (X + T) = Y := by rw [hY]; exact u64_in (by omega) (by omega)
      have hwB : IntKind.u64.wrap (Y - T) = X := by rw [hY, show X + T - T = X by omega]; exact u64_in (by omega) (by omega)
      obtain ⟨V2, hV2⟩ : ∃ V2, V2 = V + 2 ^ m := ⟨_, rfl⟩
      obtain ⟨xl2, hxl2⟩ : ∃ xl2, xl2 = xl.set q Y := ⟨_, rfl⟩
      have S2 : Aside0 (Six m V2 xl2) := ⟨by rw [hV2, hxl2, hY, hX, hT, hq, hs]; exact HS.out.up hm80⟩
      have SB : Aside0 (xl2.set q X = xl) := ⟨by rw [hxl2, hX]; exact set_back xl q Y (by rw [HS.out.len]; omega)⟩
      have Y2 : Aside0 (at' xl2 q = Y) := ⟨by rw [hxl2, at_set, if_pos ⟨rfl, by rw [HS.out.len]; omega⟩]⟩
      have HV2 := Aside0.mk hV2
      have hx0 := Kd.R_celln 0 RX.out (q : Int) (by omega) (by omega)
      have hx : wr.cell? ⟨gX, q, none⟩ = some (.int .u64 X) := by rw [hX]; exact hx0.1
      have hf : wr.frozen? ⟨gX, q, none⟩ = false := hx0.2
      have HP : Aside0 (Kd.R (Kd.int .u64) 27 (wr.setCell ⟨gX, q, none⟩ (.int .u64 Y)) w.heap.size (fun _ => True) (.slice (some ⟨gX, 0, none⟩) 6 cX) xl2 ∧ World.grownBy wr (wr.setCell ⟨gX, q, none⟩ (.int .u64 Y)) (some gX)) := ⟨by rw [hxl2]; exact Kd.R_putg RX.out (q : Int) Y⟩
      clear hx0 hm hm80 hq hs hhere hX hT hY hxl2 hV2 hT0
      go_wp2
      generalize hw4 : World.setCell wr _ _ = w4
      rw [hw4] at HP
      have RX4 : Aside0 (Kd.R (Kd.int .u64) 27 w4 w.heap.size (fun _ => True) (.slice (some ⟨gX, 0, none⟩) 6 cX) xl2) := ⟨HP.out.1⟩
      have RL4 : Aside0 (Kd.R (Kd.int .u64) 27 w4 w.heap.size (fun k => True ∧ k ≠ gX) (.slice (some ⟨gL, 0, none⟩) 9 cL) L) := ⟨Kd.R_grown RL.out HP.out.2 (fun k hk e => hk.2 (Option.some.inj e))⟩
      have HB4 : Aside0 (Below w.heap.size w w4) := ⟨by rw [← hw4]; exact below_set HB.out GXB.out⟩
      clear hw4 HP hx hf RX RL HB
      go_loopw [8, 9] (fun v8 v9 wi => ∃ (i : Nat) (pl : List Int) (A : Option Addr) (c : Nat), 1 ≤ i ∧ i ≤ 2 ∧ v9 = .int .i64 (i : Int) ∧ v8 = .slice A pl.length c ∧ Aside0 (pl.length = 6 * i) ∧ Aside0 (pl.length ≤ c) ∧ Aside0 (Dg pl) ∧ Aside0 (val pl = ((V2 ^ i : Nat) : Int)) ∧ Aside0 (Kd.C (Kd.int .u64) wi A pl.length pl) ∧ Aside0 (Kd.R (Kd.int .u64) 27 wi w.heap.size (fun _ => True) (.slice (some ⟨gX, 0, none⟩) 6 cX) xl2) ∧ Aside0 (Kd.R (Kd.int .u64) 27 wi w.heap.size (fun k => True ∧ k ≠ gX) (.slice (some ⟨gL, 0, none⟩) 9 cL) L) ∧ Aside0 (Below w.heap.size w wi)) (fun _ v9 _ => 2 - (intOf v9).toNat)
      case atStart =>
        have h6 := S2.out.len
        have hr := Kd.R_reads' RX4.out
        exact ⟨1, xl2, some ⟨gX, 0, none⟩, cX, by omega, by omega, rfl, by rw [h6], ⟨by rw [h6]⟩, ⟨by omega⟩, ⟨S2.out.dg⟩, ⟨by rw [S2.out.worth, Nat.pow_one]⟩, ⟨hr.2.2⟩, RX4, RL4, HB4⟩
      case round =>
        clear RX4 RL4 HB4
        obtain ⟨i, pl, A, c, hi1, hiK, rfl, rfl, PL, PC, PD, PV, CP, RX, RL, HB⟩ := hrel
        have HI1 := Aside0.mk hi1
        have HIK := Aside0.mk hiK
        clear hi1 hiK
        by_cases hlt : (i : Int) < 2
        · have WI : Aside0 (wrap64 ((i : Int) + 1) = ((i + 1 : Nat) : Int)) := ⟨wrap_step (by have := HIK.out; omega)⟩
          have C33 := Aside0.mk (times_any A (some ⟨gX, 0, none⟩) c cX 6 pl xl2 wr PD.out S2.out.dg (len_six PL.out (Nat.le_trans HIK.out (by decide))) (len_one S2.out.len (by decide)) S2.out.len CP.out PC.out (Kd.R_reads' RX.out).2.2 (Nat.le_trans (Nat.le_of_eq S2.out.len) (Kd.R_reads' RX.out).2.1))
          have HLT := Aside0.mk hlt
          go_wp2_with (go_at_call 33; with_reducible refine C33.out.mono ?_; rintro e w5 ⟨A5, c5, r, rfl, h1, h2, h3, h4, h5, h6⟩; have E1 := Aside0.mk h1; have E2 := Aside0.mk h2; have E3 := Aside0.mk h3; have E4 := Aside0.mk h4; have E5 := Aside0.mk h5; have E6 := Aside0.mk h6; clear h1 h2 h3 h4 h5 h6)
          go_roundw
          case rel => exact ⟨i + 1, r, A5, c5, by omega, by have := HLT.out; omega, by first | rfl | rw [WI.out], rfl, ⟨by rw [E1.out, PL.out, S2.out.len]; omega⟩, E4, E2, ⟨by rw [E3.out, PV.out, S2.out.worth, Nat.pow_succ]; omega⟩, E5, ⟨Kd.R_below RX.out E6.out⟩, ⟨Kd.R_below RL.out E6.out⟩, ⟨below_step HB.out E6.out⟩⟩
          case measure => (try rw [WI.out]); simp [intOf] <;> omega
        · obtain rfl : i = 2 := lt_of_not HIK.out hlt
          have hx0 := Kd.R_celln 0 RX.out (q : Int) (by omega) (by omega)
          have hx : wr.cell? ⟨gX, q, none⟩ = some (.int .u64 Y) := by rw [← Y2.out]; exact hx0.1
          have hf : wr.frozen? ⟨gX, q, none⟩ = false := hx0.2
          have HP : Aside0 (Kd.R (Kd.int .u64) 27 (wr.setCell ⟨gX, q, none⟩ (.int .u64 X)) w.heap.size (fun _ => True) (.slice (some ⟨gX, 0, none⟩) 6 cX) xl ∧ World.grownBy wr (wr.setCell ⟨gX, q, none⟩ (.int .u64 X)) (some gX)) := ⟨by rw [← SB.out]; exact Kd.R_putg RX.out (q : Int) X⟩
          have C34 := Aside0.mk (above_len A (some ⟨gL, 0, none⟩) c cL 9 pl L wr PD.out LD.out (len_six PL.out (by decide)) (len_one LL.out (by decide)) LL.out CP.out (Kd.R_reads' RL.out).2.2)
          clear hx0
          by_cases hab : p * 2 ^ (64 * 2) < V2 ^ 2
          · have HGU : Aside0 (gro p 2 m V = G) := ⟨by rw [← gro_up (by rw [← HV2.out]; exact hab)]; exact HG.out⟩
            have D34 : Aside0 (decide (val L < val pl) = true) := ⟨decide_eq_true (by rw [LV.out, PV.out]; omega)⟩
            rw [D34.out] at C34
            clear hab
            go_wp2_with (go_at_call 34; with_reducible refine C34.out.mono ?_; rintro e w5 ⟨rfl, rfl⟩)
            go_roundw
            case rel => exact ⟨m, V, xl, Nat.le_of_lt HM.out, by first | rfl | rw [hwm], HGU, ⟨HS.out.down HM.out⟩, ⟨HP.out.1⟩, ⟨Kd.R_grown RL.out HP.out.2 (fun k hk e => hk.2 (Option.some.inj e))⟩, ⟨below_set HB.out GXB.out⟩⟩
            case measure => simp [intOf] <;> omega
          · have HGO : Aside0 (gro p 2 m V2 = G) := ⟨by rw [HV2.out, ← gro_on (by rw [← HV2.out]; exact hab)]; exact HG.out⟩
            have D34 : Aside0 (decide (val L < val pl) = false) := ⟨decide_eq_false (by rw [LV.out, PV.out]; omega)⟩
            rw [D34.out] at C34
            clear hab
            go_wp2_with (go_at_call 34; with_reducible refine C34.out.mono ?_; rintro e w5 ⟨rfl, rfl⟩)
            go_roundw
            case rel => exact ⟨m, V2, xl2, Nat.le_of_lt HM.out, by first | rfl | rw [hwm], HGO, S2, RX, RL, HB⟩
            case measure => simp [intOf] <;> omega

set_option maxRecDepth 100000 in
set_option maxHeartbeats 2000000 in
theorem root_3 (p : Nat) (hp : p < 65536) (w : World) :
    Calls Tryd.prog 26 #[.int .u64 (p : Int), .int .i64 3] w fun e w' => e = .returned (.int .u64 (rootS 3 p)) ∧ Below w.heap.size w w' := by
  obtain ⟨L, hL⟩ : ∃ L, L = wantS p 3 := ⟨_, rfl⟩
  have LD : Aside0 (Dg L) := ⟨by rw [hL]; exact dg_wantS p 3 hp⟩
  have LL : Aside0 (L.length = 13) := ⟨by rw [hL]; exact length_wantS p 3⟩
  have LV : Aside0 (val L = ((p * 2 ^ (64 * 3) : Nat) : Int)) := ⟨by rw [hL]; exact val_wantS p 3⟩
  have LE : Aside0 (L = (List.replicate 13 0).set 12 (p : Int)) := ⟨hL⟩
  obtain ⟨G, hG⟩ : ∃ G, G = gro p 3 80 0 := ⟨_, rfl⟩
  have GE := Aside0.mk hG
  have GR : Aside0 (rootS 3 p = ((G % 18446744073709551616 : Nat) : Int)) := ⟨by rw [hG]; rfl⟩
  clear hL hG
  go_enter Tryd.func26, Tryd.ntmps26
  go_wp2_with (first | ((with_reducible refine gate_dst (N := 13) rfl ?_);  refine Kd.R_make (Kd.int .u64) (w0 := w) w.heap.size 27 rfl (N := 13) rfl 30 _ _ rfl 13 rfl rfl Tryd.underlying30 (.int .u64 0) 8 info27 rfl (by decide) (by omega) 0 (ok := fun _ => True) (okp := fun _ => True) rfl (fun _ hk => hk) trivial (by omega) (by decide) (Below.refl _ _) (Nat.le_refl _) ?_; intro vL w1 ho hb _ _; have ho1 : Kd.R (Kd.int .u64) 27 w1 w.heap.size (fun _ => True) vL (List.replicate 13 0) := ho; obtain ⟨gL, cL, e1, gb, gl, cells, HG⟩ := Kd.R_form ho1 (by simp); replace e1 : vL = .slice (some ⟨gL, 0, none⟩) 13 cL := e1; subst e1; have RL := Aside0.mk ho1; have B1 := Aside0.mk hb; have GB := Aside0.mk gb; have GL := Aside0.mk gl; obtain ⟨hx1, hf1⟩ := Kd.R_celln 0 ho1 12 (by omega) (by omega); replace hx1 : w1.cell? ⟨gL, 12, none⟩ = some (.int .u64 0) := hx1; replace hf1 : w1.frozen? ⟨gL, 12, none⟩ = false := hf1; have HP := Aside0.mk (Kd.R_putg ho1 12 (p : Int)); clear ho hb ho1 gb gl HG) | ((with_reducible refine gate_dst (N := 19) rfl ?_); generalize hw : World.setCell w1 _ _ = w2; have R2 : Aside0 (Kd.R (Kd.int .u64) 27 w2 w.heap.size (fun _ => True) (.slice (some ⟨gL, 0, none⟩) 13 cL) L) := ⟨by rw [← hw, LE.out]; exact HP.out.1⟩; have B2 : Aside0 (Below w.heap.size w w2) := ⟨by rw [← hw]; exact below_set B1.out GB.out⟩; clear hw HP RL B1 GL hx1 hf1; refine Kd.R_make (Kd.int .u64) (w0 := w2) w2.heap.size 27 rfl (N := 19) rfl 30 _ _ rfl 6 rfl rfl Tryd.underlying30 (.int .u64 0) 8 info27 rfl (by decide) (by omega) 0 (ok := fun _ => True) (okp := fun _ => True) rfl (fun _ hk => hk) trivial (by omega) (by decide) (Below.refl _ _) (Nat.le_refl _) ?_; intro vX w3 ho hb hgr hn; have ho1 : Kd.R (Kd.int .u64) 27 w3 w2.heap.size (fun _ => True) vX (List.replicate 6 0) := ho; obtain ⟨gX, cX, e1, gxb, gxl, cells3, HG3⟩ := Kd.R_form ho1 (by simp); replace e1 : vX = .slice (some ⟨gX, 0, none⟩) 6 cX := e1; subst e1; have RX : Aside0 (Kd.R (Kd.int .u64) 27 w3 w.heap.size (fun _ => True) (.slice (some ⟨gX, 0, none⟩) 6 cX) (List.replicate 6 0)) := ⟨Kd.R_lower ho1 (below_size B2.out)⟩; have B3 := Aside0.mk (below_step B2.out hb); have GXB : Aside0 (w.heap.size ≤ gX) := ⟨Nat.le_trans (below_size B2.out) gxb⟩; have RL : Aside0 (Kd.R (Kd.int .u64) 27 w3 w.heap.size (fun k => True ∧ k ≠ gX) (.slice (some ⟨gL, 0, none⟩) 13 cL) L) := ⟨Kd.R_below (Kd.R_elderB R2.out gX gxb) hb⟩; clear ho hb ho1 gxb gxl HG3 B2 R2 hgr hn))
  go_loopw [7] (fun v7 wr => ∃ (m V : Nat) (xl : List Int), m ≤ 80 ∧ v7 = .int .i64 ((m : Int) - 1) ∧ Aside0 (gro p 3 m V = G) ∧ Aside0 (Six m V xl) ∧ Aside0 (Kd.R (Kd.int .u64) 27 wr w.heap.size (fun _ => True) (.slice (some ⟨gX, 0, none⟩) 6 cX) xl) ∧ Aside0 (Kd.R (Kd.int .u64) 27 wr w.heap.size (fun k => True ∧ k ≠ gX) (.slice (some ⟨gL, 0, none⟩) 13 cL) L) ∧ Aside0 (Below w.heap.size w wr)) (fun v7 _ => (intOf v7 + 1).toNat)
  case atStart => exact ⟨80, 0, List.replicate 6 0, by omega, rfl, ⟨GE.out.symm⟩, ⟨six_zero⟩, RX, RL, B3⟩
  case round =>
    clear RX RL B3
    obtain ⟨m0, V, xl, hm, rfl, HG, HS, RX, RL, HB⟩ := hrel
    cases m0 with
    | zero =>
      rw [show ((0 : Nat) : Int) - 1 = -1 from rfl]
      have hv0 : V = G := HG.out
      have hend := six_end HS.out
      rw [hv0, ← GR.out] at hend
      have d0 := HS.out.dg.get 0
      have d1 := HS.out.dg.get 1
      have d2 := HS.out.dg.get 2
      have d3 := HS.out.dg.get 3
      have x0 := Kd.R_celln 0 RX.out 0 (by omega) (by omega)
      have x1 := Kd.R_celln 0 RX.out 1 (by omega) (by omega)
      have x2 := Kd.R_celln 0 RX.out 2 (by omega) (by omega)
      have x3 := Kd.R_celln 0 RX.out 3 (by omega) (by omega)
      obtain ⟨a0, h0⟩ : ∃ a, a = at' xl 0 := ⟨_, rfl⟩
      obtain ⟨a1, h1⟩ : ∃ a, a = at' xl 1 := ⟨_, rfl⟩
      obtain ⟨a2, h2⟩ : ∃ a, a = at' xl 2 := ⟨_, rfl⟩
      obtain ⟨a3, h3⟩ : ∃ a, a = at' xl 3 := ⟨_, rfl⟩
      rw [← h0, ← h1, ← h2, ← h3] at hend
      rw [← h0] at d0
      rw [← h1] at d1
      rw [← h2] at d2
      rw [← h3] at d3
      have y0 : wr.cell? ⟨gX, 0, none⟩ = some (.int .u64 a0) := by rw [h0]; exact x0.1
      have y1 : wr.cell? ⟨gX, 1, none⟩ = some (.int .u64 a1) := by rw [h1]; exact x1.1
      have y2 : wr.cell? ⟨gX, 2, none⟩ = some (.int .u64 a2) := by rw [h2]; exact x2.1
      have y3 : wr.cell? ⟨gX, 3, none⟩ = some (.int .u64 a3) := by rw [h3]; exact x3.1
      have s1 : IntKind.u64.wrap (a1 * 65536) = a1 * 65536 := u64_in (by omega) (by omega)
      have s2 : IntKind.u64.wrap (a2 * 4294967296) = a2 * 4294967296 := u64_in (by omega) (by omega)
      have s3 : IntKind.u64.wrap (a3 * 281474976710656) = a3 * 281474976710656 := u64_in (by omega) (by omega)
      have t1 : IntKind.u64.wrap (a0 + a1 * 65536) = a0 + a1 * 65536 := u64_in (by omega) (by omega)
      have t2 : IntKind.u64.wrap (a0 + a1 * 65536 + a2 * 4294967296) = a0 + a1 * 65536 + a2 * 4294967296 := u64_in (by omega) (by omega)
      have t3 : IntKind.u64.wrap (a0 + a1 * 65536 + a2 * 4294967296 + a3 * 281474976710656) = rootS 3 p := by rw [← hend]; exact u64_in (by omega) (by omega)
      clear x0 x1 x2 x3 h0 h1 h2 h3 d0 d1 d2 d3 hend hv0
      go_wp2
      repeat (go_quiet (fail); try go_wp2)
      go_ret
      exact ⟨rfl, by first | exact HB.out | exact below_drew HB.out | exact pw_below_drewN HB.out _⟩
    | succ m =>
      rw [show ((m + 1 : Nat) : Int) - 1 = (m : Int) by omega]
      have hm80 : m < 80 := by omega
      obtain ⟨q, hq⟩ : ∃ q, q = m / 16 := ⟨_, rfl⟩
      obtain ⟨s, hs⟩ : ∃ s, s = m % 16 := ⟨_, rfl⟩
      have hdiv : Int.tdiv (m : Int) 16 = (q : Int) := by rw [Int.tdiv_eq_ediv_of_nonneg (by omega)]; omega
      have hmod : Int.tmod (m : Int) 16 = (s : Int) := by rw [Int.tmod_eq_emod_of_nonneg (by omega)]; omega
      have hwq : wrap64 (q : Int) = (q : Int) := by unfold wrap64; omega
      have hws : IntKind.u64.wrap (s : Int) = (s : Int) := u64_in (by omega) (by omega)
      have hwm : wrap64 ((m : Int) - 1) = (m : Int) - 1 := by unfold wrap64; omega
      have hge : (0 : Int) ≤ (m : Int) := by omega
      have hq0 : (0 : Int) ≤ (q : Int) := by omega
      have hq6 : (q : Int) < 6 := by omega
      have HM := Aside0.mk hm80
      have HQ := Aside0.mk hq
      have HSS := Aside0.mk hs
      have hT0 : (0 : Int) < 2 ^ (m % 16) := Int.pow_pos (by omega)
      have hhere := HS.out.here hm80
      obtain ⟨X, hX⟩ : ∃ X, X = at' xl q := ⟨_, rfl⟩
      obtain ⟨T, hT⟩ : ∃ T : Int, T = 2 ^ s := ⟨_, rfl⟩
      rw [← hq, ← hs, ← hX, ← hT] at hhere
      rw [← hs, ← hT] at hT0
      have hmin : min s 64 = s := by omega
      have hTp : (2 : Int) ^ s = T := hT.symm
      have hwT : IntKind.u64.wrap T = T := u64_in (by omega) (by omega)
      obtain ⟨Y, hY⟩ : ∃ Y : Int, Y = X + T := ⟨_, rfl⟩
      have hwS : IntKind.u64.wrap (X + T) = Y := by rw [hY]; exact u64_in (by omega) (by omega)
      have hwB : IntKind.u64.wrap (Y - T) = X := by rw [hY, show X + T - T = X by omega]; exact u64_in (by omega) (by omega)
      obtain ⟨V2, hV2⟩ : ∃ V2, V2 = V + 2 ^ m := ⟨_, rfl⟩
      obtain ⟨xl2, hxl2⟩ : ∃ xl2, xl2 = xl.set q Y := ⟨_, rfl⟩
      have S2 : Aside0 (Six m V2 xl2) := ⟨by rw [hV2, hxl2, hY, hX, hT, hq, hs]; exact HS.out.up hm80⟩
      have SB : Aside0 (xl2.set q X = xl) := ⟨by rw [hxl2, hX]; exact set_back xl q Y (by rw [HS.out.len]; omega)⟩
      have Y2 : Aside0 (at' xl2 q = Y) := ⟨by rw [hxl2, at_set, if_pos ⟨rfl, by rw [HS.out.len]; omega⟩]⟩
      have HV2 := Aside0.mk hV2
      have hx0 := Kd.R_celln 0 RX.out (q : Int) (by omega) (by omega)
      have hx : wr.cell? ⟨gX, q, none⟩ = some (.int .u64 X) := by rw [hX]; exact hx0.1
      have hf : wr.frozen? ⟨gX, q, none⟩ = false := hx0.2
      have HP : Aside0 (Kd.R (Kd.int .u64) 27 (wr.setCell ⟨gX, q, none⟩ (.int .u64 Y)) w.heap.size (fun _ => True) (.slice (some ⟨gX, 0, none⟩) 6 cX) xl2 ∧ World.grownBy wr (wr.setCell ⟨gX, q, none⟩ (.int .u64 Y)) (some gX)) := ⟨by rw [hxl2]; exact Kd.R_putg RX.out (q : Int) Y⟩
      clear hx0 hm hm80 hq hs hhere hX hT hY hxl2 hV2 hT0
      go_wp2
      generalize hw4 : World.setCell wr _ _ = w4
      rw [hw4] at HP
      have RX4 : Aside0 (Kd.R (Kd.int .u64) 27 w4 w.heap.size (fun _ => True) (.slice (some ⟨gX, 0, none⟩) 6 cX) xl2) := ⟨HP.out.1⟩
      have RL4 : Aside0 (Kd.R (Kd.int .u64) 27 w4 w.heap.size (fun k => True ∧ k ≠ gX) (.slice (some ⟨gL, 0, none⟩) 13 cL) L) := ⟨Kd.R_grown RL.out HP.out.2 (fun k hk e => hk.2 (Option.some.inj e))⟩
      have HB4 : Aside0 (Below w.heap.size w w4) := ⟨by rw [← hw4]; exact below_set HB.out GXB.out⟩
      clear hw4 HP hx hf RX RL HB
      go_loopw [8, 9] (fun v8 v9 wi => ∃ (i : Nat) (pl : List Int) (A : Option Addr) (c : Nat), 1 ≤ i ∧ i ≤ 3 ∧ v9 = .int .i64 (i : Int) ∧ v8 = .slice A pl.length c ∧ Aside0 (pl.length = 6 * i) ∧ Aside0 (pl.length ≤ c) ∧ Aside0 (Dg pl) ∧ Aside0 (val pl = ((V2 ^ i : Nat) : Int)) ∧ Aside0 (Kd.C (Kd.int .u64) wi A pl.length pl) ∧ Aside0 (Kd.R (Kd.int .u64) 27 wi w.heap.size (fun _ => True) (.slice (some ⟨gX, 0, none⟩) 6 cX) xl2) ∧ Aside0 (Kd.R (Kd.int .u64) 27 wi w.heap.size (fun k => True ∧ k ≠ gX) (.slice (some ⟨gL, 0, none⟩) 13 cL) L) ∧ Aside0 (Below w.heap.size w wi)) (fun _ v9 _ => 3 - (intOf v9).toNat)
      case atStart =>
        have h6 := S2.out.len
        have hr := Kd.R_reads' RX4.out
        exact ⟨1, xl2, some ⟨gX, 0, none⟩, cX, by omega, by omega, rfl, by rw [h6], ⟨by rw [h6]⟩, ⟨by omega⟩, ⟨S2.out.dg⟩, ⟨by rw [S2.out.worth, Nat.pow_one]⟩, ⟨hr.2.2⟩, RX4, RL4, HB4⟩
      case round =>
        clear RX4 RL4 HB4
        obtain ⟨i, pl, A, c, hi1, hiK, rfl, rfl, PL, PC, PD, PV, CP, RX, RL, HB⟩ := hrel
        have HI1 := Aside0.mk hi1
        have HIK := Aside0.mk hiK
        clear hi1 hiK
        by_cases hlt : (i : Int) < 3
        · have WI : Aside0 (wrap64 ((i : Int) + 1) = ((i + 1 : Nat) : Int)) := ⟨wrap_step (by have := HIK.out; omega)⟩
          have C33 := Aside0.mk (times_any A (some ⟨gX, 0, none⟩) c cX 6 pl xl2 wr PD.out S2.out.dg (len_six PL.out (Nat.le_trans HIK.out (by decide))) (len_one S2.out.len (by decide)) S2.out.len CP.out PC.out (Kd.R_reads' RX.out).2.2 (Nat.le_trans (Nat.le_of_eq S2.out.len) (Kd.R_reads' RX.out).2.1))
          have HLT := Aside0.mk hlt
          go_wp2_with (go_at_call 33; with_reducible refine C33.out.mono ?_; rintro e w5 ⟨A5, c5, r, rfl, h1, h2, h3, h4, h5, h6⟩; have E1 := Aside0.mk h1; have E2 := Aside0.mk h2; have E3 := Aside0.mk h3; have E4 := Aside0.mk h4; have E5 := Aside0.mk h5; have E6 := Aside0.mk h6; clear h1 h2 h3 h4 h5 h6)
          go_roundw
          case rel => exact ⟨i + 1, r, A5, c5, by omega, by have := HLT.out; omega, by first | rfl | rw [WI.out], rfl, ⟨by rw [E1.out, PL.out, S2.out.len]; omega⟩, E4, E2, ⟨by rw [E3.out, PV.out, S2.out.worth, Nat.pow_succ]; omega⟩, E5, ⟨Kd.R_below RX.out E6.out⟩, ⟨Kd.R_below RL.out E6.out⟩, ⟨below_step HB.out E6.out⟩⟩
          case measure => (try rw [WI.out]); simp [intOf] <;> omega
        · obtain rfl : i = 3 := lt_of_not HIK.out hlt
          have hx0 := Kd.R_celln 0 RX.out (q : Int) (by omega) (by omega)
          have hx : wr.cell? ⟨gX, q, none⟩ = some (.int .u64 Y) := by rw [← Y2.out]; exact hx0.1
          have hf : wr.frozen? ⟨gX, q, none⟩ = false := hx0.2
          have HP : Aside0 (Kd.R (Kd.int .u64) 27 (wr.setCell ⟨gX, q, none⟩ (.int .u64 X)) w.heap.size (fun _ => True) (.slice (some ⟨gX, 0, none⟩) 6 cX) xl ∧ World.grownBy wr (wr.setCell ⟨gX, q, none⟩ (.int .u64 X)) (some gX)) := ⟨by rw [← SB.out]; exact Kd.R_putg RX.out (q : Int) X⟩
          have C34 := Aside0.mk (above_len A (some ⟨gL, 0, none⟩) c cL 13 pl L wr PD.out LD.out (len_six PL.out (by decide)) (len_one LL.out (by decide)) LL.out CP.out (Kd.R_reads' RL.out).2.2)
          clear hx0
          by_cases hab : p * 2 ^ (64 * 3) < V2 ^ 3
          · have HGU : Aside0 (gro p 3 m V = G) := ⟨by rw [← gro_up (by rw [← HV2.out]; exact hab)]; exact HG.out⟩
            have D34 : Aside0 (decide (val L < val pl) = true) := ⟨decide_eq_true (by rw [LV.out, PV.out]; omega)⟩
            rw [D34.out] at C34
            clear hab
            go_wp2_with (go_at_call 34; with_reducible refine C34.out.mono ?_; rintro e w5 ⟨rfl, rfl⟩)
            go_roundw
            case rel => exact ⟨m, V, xl, Nat.le_of_lt HM.out, by first | rfl | rw [hwm], HGU, ⟨HS.out.down HM.out⟩, ⟨HP.out.1⟩, ⟨Kd.R_grown RL.out HP.out.2 (fun k hk e => hk.2 (Option.some.inj e))⟩, ⟨below_set HB.out GXB.out⟩⟩
            case measure => simp [intOf] <;> omega
          · have HGO : Aside0 (gro p 3 m V2 = G) := ⟨by rw [HV2.out, ← gro_on (by rw [← HV2.out]; exact hab)]; exact HG.out⟩
            have D34 : Aside0 (decide (val L < val pl) = false) := ⟨decide_eq_false (by rw [LV.out, PV.out]; omega)⟩
            rw [D34.out] at C34
            clear hab
            go_wp2_with (go_at_call 34; with_reducible refine C34.out.mono ?_; rintro e w5 ⟨rfl, rfl⟩)
            go_roundw
            case rel => exact ⟨m, V2, xl2, Nat.le_of_lt HM.out, by first | rfl | rw [hwm], HGO, S2, RX, RL, HB⟩
            case measure => simp [intOf] <;> omega
end Go.Proofs.YtfcadniglmhclaaDoor.S

/-
  The walks of the reference's Roots (function 18) and of the law's same (function 17).
-/
namespace Go.Proofs.YtfcadniglmhclaaDoor.S
open Go.RowKit Go.Proofs.YtfcadniglmhclaaDoorW.PrintWords Go.Proofs.YtfcadniglmhclaaDoorW.PrintLast Go.Proofs.YtfcadniglmhclaaDoorW.PrintMore
open Go.Proofs.YtfcadniglmhclaaDoor.R
set_option linter.unusedSimpArgs false
set_option linter.unusedVariables false

theorem at_cast (P : List Nat) (i : Nat) : at' (P.map fun p : Nat => (p : Int)) i = ((P.getD i 0 : Nat) : Int) := by
  unfold at'
  rw [List.getD_eq_getElem?_getD, List.getD_eq_getElem?_getD, List.getElem?_map]
  cases P[i]? <;> rfl
theorem take_map (P : List Nat) (F : Nat → Int) (i : Nat) (h : i < P.length) : (P.map F).take i ++ [F (P.getD i 0)] = (P.map F).take (i + 1) := by
  rw [List.take_succ_eq_append_getElem (by simpa using h), List.getElem_map, List.getD_eq_getElem?_getD, List.getElem?_eq_getElem h]
  rfl
theorem get_small (P : List Nat) (h : ∀ p ∈ P, p < 65536) (i : Nat) : P.getD i 0 < 65536 := by
  rw [List.getD_eq_getElem?_getD]
  by_cases hi : i < P.length
  · rw [List.getElem?_eq_getElem hi]
    exact h _ (List.getElem_mem hi)
  · rw [List.getElem?_eq_none (by omega)]
    simp
theorem i64_lt {a b : Nat} (h : a < b) : (a : Int) < (b : Int) := by omega

set_option maxRecDepth 100000 in
set_option maxHeartbeats 2000000 in
theorem roots_walk (n k : Int) (fuel : Nat) (P : List Nat) (hP : P.length ≤ 1000) (hlt : ∀ p ∈ P, p < 65536) (hpr : spinneyref02_primes.f fuel n = some (P.map fun p : Nat => (p : Int))) (F : Nat → Int)
    (hroot : ∀ p : Nat, p < 65536 → ∀ w, Calls Tryd.prog 26 #[.int .u64 (p : Int), .int .i64 k] w fun e w' => e = .returned (.int .u64 (F p)) ∧ Below w.heap.size w w') (w : World) :
    Calls Tryd.prog 18 #[.int .i64 n, .int .i64 k] w fun e w' => ∃ A c, e = .returned (.slice A (P.map F).length c) ∧ (P.map F).length ≤ c ∧ Kd.C (Kd.int .u64) w' A (P.map F).length (P.map F) ∧ Below w.heap.size w w' := by
  obtain ⟨Z, hZ⟩ : ∃ Z, Z = P.map fun p : Nat => (p : Int) := ⟨_, rfl⟩
  obtain ⟨R, hR⟩ : ∃ R, R = P.map F := ⟨_, rfl⟩
  rw [← hZ] at hpr
  rw [← hR]
  have ZL : Aside0 (Z.length = P.length) := ⟨by rw [hZ, List.length_map]⟩
  have RN : Aside0 (R.length = P.length) := ⟨by rw [hR, List.length_map]⟩
  have ZA : Aside0 (∀ i, at' Z i = ((P.getD i 0 : Nat) : Int)) := ⟨fun i => by rw [hZ]; exact at_cast P i⟩
  have RT : Aside0 (∀ i, i < P.length → R.take i ++ [F (P.getD i 0)] = R.take (i + 1)) := ⟨fun i h => by rw [hR]; exact take_map P F i h⟩
  have HP := Aside0.mk hP
  have HS : Aside0 (∀ i, P.getD i 0 < 65536) := ⟨get_small P hlt⟩
  have HPR := Aside0.mk (spinneyref02_primes.calls fuel n Z w hpr)
  have HROOT := Aside0.mk hroot
  clear hZ hR hP hlt hpr hroot
  go_enter Tryd.func18, Tryd.ntmps18
  go_wp2_with (go_at_call 25; with_reducible refine HPR.out.mono ?_; rintro e w1 ⟨v5, rfl, ho, hb⟩; obtain ⟨A5, c5, rfl⟩ := Kd.R_slice ho; have RZ := Aside0.mk ho; have B1 := Aside0.mk hb; clear ho hb)
  go_loopw [6, 7] (fun v6 v7 wr => ∃ i : Nat, i ≤ P.length ∧ v7 = .int .i64 i ∧ Aside0 (Kd.R (Kd.int .u64) 27 wr w.heap.size (fun _ => True) v6 (R.take i)) ∧ Aside0 (Kd.R (Kd.int .i64) 3 wr w.heap.size (fun _ => True) (.slice A5 Z.length c5) Z) ∧ Aside0 (Below w.heap.size w wr)) (fun _ v7 _ => P.length - (intOf v7).toNat)
  case atStart => exact ⟨0, by omega, rfl, ⟨Kd.R_nil _ _ _ _ _⟩, RZ, B1⟩
  case round =>
    clear RZ B1
    obtain ⟨i, hi, rfl, HO, RZ, HB⟩ := hrel
    have HI := Aside0.mk hi
    clear hi
    by_cases hlt : (i : Int) < (Z.length : Int)
    · have hin : i < P.length := by have := ZL.out; omega
      have HIN := Aside0.mk hin
      obtain ⟨ad, rfl, hx⟩ := Kd.at_int (Kd.R_reads' RZ.out).2.2 (i : Int) (by omega) hlt
      rw [Int.toNat_natCast, rd_at, ZA.out i] at hx
      obtain ⟨p, hp⟩ : ∃ p, p = P.getD i 0 := ⟨_, rfl⟩
      have HSP : Aside0 (p < 65536) := ⟨by rw [hp]; exact HS.out i⟩
      have STEP : Aside0 (R.take i ++ [F p] = R.take (i + 1)) := ⟨by rw [hp]; exact RT.out i hin⟩
      rw [← hp] at hx
      have hcv : IntKind.u64.wrap (p : Int) = (p : Int) := u64_in (by omega) (by have := HSP.out; omega)
      have WI : Aside0 (wrap64 ((i : Int) + 1) = ((i + 1 : Nat) : Int)) := ⟨wrap_step (by have := HP.out; omega)⟩
      clear hp hin
      go_wp2_with (first | (go_at_call 26; with_reducible refine (HROOT.out p HSP.out _).mono ?_; rintro e w2 ⟨rfl, hb⟩; have HO2 := Aside0.mk (Kd.R_below HO.out hb); have RZ2 := Aside0.mk (Kd.R_below RZ.out hb); have HB2 := Aside0.mk (below_step HB.out hb); clear HO RZ HB hb hx) | ((with_reducible refine gate_builtin (b := .append) (xs := #[.tmp 16, .tmp 24]) rfl ?_); at_builtin; go_loud (refine Kd.R_append (Kd.int .u64) (w0 := w) w.heap.size rfl (.tmp 16) (.tmp 24) 30 27 (.int .u64 0) 8 rfl Tryd.underlying30 info27 rfl (by decide) (by omega) u6 (R.take i) (F p) [.int .u64 (F p)] (fun _ => True) (fun _ => False) rfl rfl ?aP (fun _ hk => hk.elim) ?aF ?aO ?aB ?aS ?aL ?_); (case aP => exact rfl); (case aB => exact HB2.out); (case aF => exact (fun _ _ => trivial)); (case aO => exact HO2.out); (case aS => exact below_size HB2.out); (case aL => have h1 := RN.out; have h2 := HP.out; rw [List.length_take]; omega); intro v7 w3 ho hb hg _; have HO3 := Aside0.mk ho; have HB3 := Aside0.mk hb; have RZ3 := Aside0.mk (Kd.R_over RZ2.out HO2.out (by simp [Kd.int, Kd.scalar]) hg); clear ho hb hg HO2 HB2 RZ2))
      go_roundw
      case rel => exact ⟨i + 1, by have := HIN.out; omega, by first | rfl | rw [WI.out], ⟨by rw [← STEP.out]; exact HO3.out⟩, RZ3, HB3⟩
      case measure =>
        have h0 := HIN.out
        (try rw [WI.out]); simp [intOf] <;> omega
    · obtain rfl : i = P.length := by have h1 := HI.out; have h2 := ZL.out; omega
      rw [List.take_of_length_le (by have := RN.out; omega)] at HO
      obtain ⟨A6, c6, rfl, h1, h2⟩ := Kd.R_reads HO.out
      have L6 := Aside0.mk h1
      have C6 := Aside0.mk h2
      clear h1 h2
      go_wp2
      go_ret
      exact ⟨A6, c6, rfl, L6.out, C6.out, HB.out⟩

theorem PL_small : ∀ p ∈ PL, p < 65536 := by decide +kernel
theorem PL8_small : ∀ p ∈ PL.take 8, p < 65536 := by decide +kernel
theorem roots80_any (w : World) : Calls Tryd.prog 18 #[.int .i64 80, .int .i64 3] w fun e w' => ∃ A c, e = .returned (.slice A KS.length c) ∧ KS.length ≤ c ∧ Kd.C (Kd.int .u64) w' A KS.length KS ∧ Below w.heap.size w w' := by
  rw [← roots_KS]
  exact roots_walk 80 3 19000 PL (by decide) PL_small primes80 (rootS 3) (fun p hp w => root_3 p hp w) w
theorem roots8_any (w : World) : Calls Tryd.prog 18 #[.int .i64 8, .int .i64 2] w fun e w' => ∃ A c, e = .returned (.slice A FS.length c) ∧ FS.length ≤ c ∧ Kd.C (Kd.int .u64) w' A FS.length FS ∧ Below w.heap.size w w' := by
  rw [← roots_FS]
  exact roots_walk 8 2 200 (PL.take 8) (by decide) PL8_small primes8 (rootS 2) (fun p hp w => root_2 p hp w) w

set_option maxRecDepth 100000 in
set_option maxHeartbeats 1000000 in
theorem same_any (A0 A1 : Option Addr) (c0 c1 : Nat) (a : List Int) (w : World) (la : a.length ≤ 1000) (h0 : Kd.C (Kd.int .u64) w A0 a.length a) (h1 : Kd.C (Kd.int .u64) w A1 a.length a) :
    Calls Tryd.prog 17 #[.slice A0 a.length c0, .slice A1 a.length c1] w fun e w' => e = .returned (.bool true) ∧ Below w.heap.size w w' := by
  have H0 := Aside0.mk h0
  have H1 := Aside0.mk h1
  have LA := Aside0.mk la
  clear h0 h1 la
  go_enter Tryd.func17, Tryd.ntmps17
  go_wp2
  go_loopw [5] (fun v5 wr => ∃ i : Nat, i ≤ a.length ∧ v5 = .int .i64 i ∧ Aside0 (Below w.heap.size w wr)) (fun v5 _ => a.length - (intOf v5).toNat)
  case atStart => exact ⟨0, by omega, rfl, ⟨Below.refl _ _⟩⟩
  case round =>
    obtain ⟨i, hi, rfl, HB⟩ := hrel
    have HI := Aside0.mk hi
    clear hi
    by_cases hlt : (i : Int) < (a.length : Int)
    · have HIN : Aside0 (i < a.length) := ⟨by omega⟩
      obtain ⟨ad, rfl, hx⟩ := Kd.at_int (Kd.C_below H0.out HB.out) (i : Int) (by omega) hlt
      obtain ⟨ad1, rfl, hx1⟩ := Kd.at_int (Kd.C_below H1.out HB.out) (i : Int) (by omega) hlt
      rw [Int.toNat_natCast] at hx hx1
      have WI : Aside0 (wrap64 ((i : Int) + 1) = ((i + 1 : Nat) : Int)) := ⟨wrap_step (by have := LA.out; omega)⟩
      have h0 : (0 : Int) ≤ (i : Int) := by omega
      go_wp2
      go_quiet (fail)
      go_wp2
      go_roundw
      case rel => exact ⟨i + 1, by have := HIN.out; omega, by first | rfl | rw [WI.out], ⟨by first | exact HB.out | exact below_drew HB.out | exact pw_below_drewN HB.out _⟩⟩
      case measure =>
        have h0 := HIN.out
        (try rw [WI.out]); simp [intOf] <;> omega
    · obtain rfl : i = a.length := by have h1 := HI.out; omega
      go_wp2
      go_ret
      exact ⟨rfl, HB.out⟩
end Go.Proofs.YtfcadniglmhclaaDoor.S

/-
  The walk of Sha512Roots (function 7).
-/
namespace Go.Proofs.YtfcadniglmhclaaDoor.S
open Go.RowKit Go.Proofs.YtfcadniglmhclaaDoorW.PrintWords Go.Proofs.YtfcadniglmhclaaDoorW.PrintLast Go.Proofs.YtfcadniglmhclaaDoorW.PrintMore
open Go.Proofs.YtfcadniglmhclaaDoor.R
set_option linter.unusedSimpArgs false
set_option linter.unusedVariables false

theorem refK_any (w : World) :
    Calls Tryd.prog 19 #[] w fun e w' => ∃ A c, e = .returned (.slice A KS.length c) ∧ KS.length ≤ c ∧ Kd.C (Kd.int .u64) w' A KS.length KS ∧ Below w.heap.size w w' :=
  (spinneyref02_K.calls KS w K_f).mono fun e w' ⟨v, he, ho, hb⟩ => by
    obtain ⟨A', c', rfl, h1, h2⟩ := Kd.R_reads ho
    exact ⟨A', c', he, h1, h2, hb⟩

set_option maxRecDepth 100000 in
set_option maxHeartbeats 1000000 in
theorem law_roots (hw : Works) (w : World) (hG : Gl w) :
    Calls Tryd.prog 7 #[] w fun e w' => e = .returned (.bool true) ∧ Below w.heap.size w w' := by
  have hz := zero34b
  have HW := Aside0.mk hw
  have HG := Aside0.mk hG
  obtain ⟨KK, hK⟩ : ∃ KK, KK = KS := ⟨_, rfl⟩
  obtain ⟨F, hF⟩ : ∃ F, F = FS := ⟨_, rfl⟩
  obtain ⟨D, hD⟩ : ∃ D, D = sumS [] := ⟨_, rfl⟩
  have CA : Aside0 (∀ w, Calls Tryd.prog 18 #[.int .i64 80, .int .i64 3] w fun e w' => ∃ A c, e = .returned (.slice A KK.length c) ∧ KK.length ≤ c ∧ Kd.C (Kd.int .u64) w' A KK.length KK ∧ Below w.heap.size w w') := ⟨by rw [hK]; exact roots80_any⟩
  have CB : Aside0 (∀ w, Calls Tryd.prog 19 #[] w fun e w' => ∃ A c, e = .returned (.slice A KK.length c) ∧ KK.length ≤ c ∧ Kd.C (Kd.int .u64) w' A KK.length KK ∧ Below w.heap.size w w') := ⟨by rw [hK]; exact refK_any⟩
  have CC : Aside0 (∀ w, Calls Tryd.prog 18 #[.int .i64 8, .int .i64 2] w fun e w' => ∃ A c, e = .returned (.slice A F.length c) ∧ F.length ≤ c ∧ Kd.C (Kd.int .u64) w' A F.length F ∧ Below w.heap.size w w') := ⟨by rw [hF]; exact roots8_any⟩
  have CD : Aside0 (∀ w, Calls Tryd.prog 20 #[] w fun e w' => ∃ A c, e = .returned (.slice A F.length c) ∧ F.length ≤ c ∧ Kd.C (Kd.int .u64) w' A F.length F ∧ Below w.heap.size w w') := ⟨by rw [hF]; exact reffirst_any⟩
  have C14 : Aside0 (∀ w, Gl w → Calls Tryd.prog 14 #[.slice none 0 0] w fun e w' => e = .returned (.agg (bts D)) ∧ Below w.heap.size w w') := ⟨fun w hg => by rw [hD]; exact sum_any _ [] w (by simp) (fun x hx => by cases hx) (.inl ⟨rfl, rfl⟩) hg⟩
  have CS : Aside0 (∀ w, Calls Tryd.prog 15 #[.slice none 0 0] w fun e w' => ∃ A c, e = .returned (.slice A D.length c) ∧ D.length ≤ c ∧ Kd.C (Kd.int .u8) w' A D.length D ∧ Below w.heap.size w w') := ⟨fun w => by rw [hD]; exact refsum_any _ [] w (by simp) (fun x hx => by cases hx) (.inl ⟨rfl, rfl⟩)⟩
  have KL : Aside0 (KK.length ≤ 1000) := ⟨by rw [hK]; decide⟩
  have FL : Aside0 (F.length ≤ 1000) := ⟨by rw [hF]; decide⟩
  have DL : Aside0 (D.length = 64) := ⟨by rw [hD]; exact length_sumS _⟩
  clear hw hG hK hF hD
  go_enter Tryd.func7, Tryd.ntmps7
  go_wp2_with (first | (go_at_call 14; with_reducible refine (C14.out w HG.out).mono ?_; rintro e w1 ⟨rfl, hb⟩; have B1 := Aside0.mk hb; clear hb) | (refine alloc_array rfl 34 rfl (bts Z64l) zero34b ?_) | (refine store_bytes rfl 34 (.tmp 1) (.tmp 2) rfl w1.heap.size D Z64l rfl rfl 34 (Bb.newAt w1 34 Z64l _ rfl) (by rw [DL.out]; exact info34) (by rw [DL.out]; rfl) ?_; intro w3 hb3 hk3 HL3))
  have B3 : Aside0 (Below w1.heap.size w1 w3) := ⟨HL3.out.below (Nat.le_refl _) (below_alloc (Below.refl _ _) _)⟩
  have BW : Aside0 (Below w.heap.size w w3) := ⟨below_step B1.out B3.out⟩
  have HG3 : Aside0 (Gl w3) := ⟨HG.out.below BW.out⟩
  have K12 : Aside0 (∀ w', Below w3.heap.size w3 w' → (convert 22 9 (.slice (some ⟨w1.heap.size, 0, none⟩) 64 64)).run Tryd.prog w' = .ok (.string (strOfNums D)) w') := ⟨fun w' h => by
    have h1 := (hb3.out.below h).reads (by rw [DL.out]; omega) 0 (Nat.zero_le _)
    rw [DL.out] at h1
    exact Kd.C_string Tryd.underlying22 Tryd.underlying5 Tryd.underlying9 h1⟩
  refine start_ (n := 19) (S := fun w' => Below w3.heap.size w3 w') (ds := []) #[false, false, false, false, false, false, false, false, false, false, false, false, false, false, false, false, false, false, false] (by kernel_rfl) rfl rfl (below_drew (Below.refl _ _)) (fun hHeld => ?_)
  generalize w3.drew = wD at hHeld  ⊢
  refine one_ (i := 0) (N := some 3) #[true, false, false, false, false, false, false, false, false, false, false, false, false, false, false, false, false, false, false] rfl rfl (by kernel_rfl) (by decide) (fun K hK => ?_)
  refine goes_ Tryd.func18 (by kernel_rfl) rfl #[.int .i64 80, .int .i64 3] (by rfl) rfl rfl (by (try simp only [List.map_toArray, List.map_cons, List.map_nil]); first | done | rfl) ?_
  refine Calls.mono (CA.out wD) ?_
  rintro e w3 ⟨A3, k3, rfl, _, h3, hb3_⟩
  refine ⟨_, rfl, ?_⟩
  refine hK.out _ _ (below_step hHeld hb3_) (fun hHeld => ?_)
  clear hK K
  refine norm_ (a' := ?_) ?_ ?_
  rotate_left
  · show Act.put _ (some 3) _ = _
    simp only [Act.put, List.setIfInBounds_toArray, List.set_cons_zero, List.set_cons_succ, i64_w, i32_w]
    rfl
  refine one_ (i := 1) (N := some 4) #[true, true, false, false, false, false, false, false, false, false, false, false, false, false, false, false, false, false, false] rfl rfl (by kernel_rfl) (by decide) (fun K hK => ?_)
  refine goes_ Tryd.func19 (by kernel_rfl) rfl #[] (by rfl) rfl rfl (by (try simp only [List.map_toArray, List.map_cons, List.map_nil]); first | done | rfl) ?_
  refine Calls.mono (CB.out _) ?_
  rintro e w4 ⟨A4, k4, rfl, _, h4, hb4_⟩
  refine ⟨_, rfl, ?_⟩
  refine hK.out _ _ (below_step hHeld hb4_) (fun hHeld => ?_)
  clear hK K
  refine norm_ (a' := ?_) ?_ ?_
  rotate_left
  · show Act.put _ (some 4) _ = _
    simp only [Act.put, List.setIfInBounds_toArray, List.set_cons_zero, List.set_cons_succ, i64_w, i32_w]
    rfl
  refine one_ (i := 2) (N := some 5) #[true, true, true, false, false, false, false, false, false, false, false, false, false, false, false, false, false, false, false] rfl rfl (by kernel_rfl) (by decide) (fun K hK => ?_)
  refine goes_ Tryd.func17 (by kernel_rfl) rfl #[.slice A3 KK.length k3, .slice A4 KK.length k4] (by rfl) rfl rfl (by (try simp only [List.map_toArray, List.map_cons, List.map_nil]); first | done | rfl) ?_
  refine Calls.mono (same_any _ _ _ _ KK _ KL.out (Kd.C_below h3 hb4_) h4) ?_
  rintro e w5 ⟨rfl, hb5_⟩
  refine ⟨_, rfl, ?_⟩
  refine hK.out _ _ (below_step hHeld hb5_) (fun hHeld => ?_)
  clear hK K
  refine norm_ (a' := ?_) ?_ ?_
  rotate_left
  · show Act.put _ (some 5) _ = _
    simp only [Act.put, List.setIfInBounds_toArray, List.set_cons_zero, List.set_cons_succ, i64_w, i32_w]
    rfl
  refine pure_ (i := 3) (N := some 6) (v := ?_) (a' := ?_) #[true, true, true, true, false, false, false, false, false, false, false, false, false, false, false, false, false, false, false] rfl rfl (by kernel_rfl) (fun _ _ _ h => h) (Or.inl ⟨by rfl, ?_⟩) ?_ ?_
  rotate_left
  · intro w'
    go_simp
    with_reducible rfl
  rotate_left
  · simp only [Act.put, List.setIfInBounds_toArray, List.set_cons_zero, List.set_cons_succ, i64_w, i32_w]
    rfl
  refine one_ (i := 4) (N := some 7) #[true, true, true, true, true, false, false, false, false, false, false, false, false, false, false, false, false, false, false] rfl rfl (by kernel_rfl) (by decide) (fun K hK => ?_)
  refine goes_ Tryd.func18 (by kernel_rfl) rfl #[.int .i64 8, .int .i64 2] (by rfl) rfl rfl (by (try simp only [List.map_toArray, List.map_cons, List.map_nil]); first | done | rfl) ?_
  refine Calls.mono (CC.out _) ?_
  rintro e w7 ⟨A7, k7, rfl, _, h7, hb7_⟩
  refine ⟨_, rfl, ?_⟩
  refine hK.out _ _ (below_step hHeld hb7_) (fun hHeld => ?_)
  clear hK K
  refine norm_ (a' := ?_) ?_ ?_
  rotate_left
  · show Act.put _ (some 7) _ = _
    simp only [Act.put, List.setIfInBounds_toArray, List.set_cons_zero, List.set_cons_succ, i64_w, i32_w]
    rfl
  refine one_ (i := 5) (N := some 8) #[true, true, true, true, true, true, false, false, false, false, false, false, false, false, false, false, false, false, false] rfl rfl (by kernel_rfl) (by decide) (fun K hK => ?_)
  refine goes_ Tryd.func20 (by kernel_rfl) rfl #[] (by rfl) rfl rfl (by (try simp only [List.map_toArray, List.map_cons, List.map_nil]); first | done | rfl) ?_
  refine Calls.mono (CD.out _) ?_
  rintro e w8 ⟨A8, k8, rfl, _, h8, hb8_⟩
  refine ⟨_, rfl, ?_⟩
  refine hK.out _ _ (below_step hHeld hb8_) (fun hHeld => ?_)
  clear hK K
  refine norm_ (a' := ?_) ?_ ?_
  rotate_left
  · show Act.put _ (some 8) _ = _
    simp only [Act.put, List.setIfInBounds_toArray, List.set_cons_zero, List.set_cons_succ, i64_w, i32_w]
    rfl
  refine one_ (i := 6) (N := some 9) #[true, true, true, true, true, true, true, false, false, false, false, false, false, false, false, false, false, false, false] rfl rfl (by kernel_rfl) (by decide) (fun K hK => ?_)
  refine goes_ Tryd.func17 (by kernel_rfl) rfl #[.slice A7 F.length k7, .slice A8 F.length k8] (by rfl) rfl rfl (by (try simp only [List.map_toArray, List.map_cons, List.map_nil]); first | done | rfl) ?_
  refine Calls.mono (same_any _ _ _ _ F _ FL.out (Kd.C_below h7 hb8_) h8) ?_
  rintro e w9 ⟨rfl, hb9_⟩
  refine ⟨_, rfl, ?_⟩
  refine hK.out _ _ (below_step hHeld hb9_) (fun hHeld => ?_)
  clear hK K
  refine norm_ (a' := ?_) ?_ ?_
  rotate_left
  · show Act.put _ (some 9) _ = _
    simp only [Act.put, List.setIfInBounds_toArray, List.set_cons_zero, List.set_cons_succ, i64_w, i32_w]
    rfl
  refine pure_ (i := 7) (N := some 10) (v := .bool true) (a' := ?_) #[true, true, true, true, true, true, true, true, false, false, false, false, false, false, false, false, false, false, false] rfl rfl (by kernel_rfl) (fun _ _ _ h => h) (Or.inl ⟨by rfl, ?_⟩) ?_ ?_
  · intro w'
    go_simp
  rotate_left
  · simp only [Act.put, List.setIfInBounds_toArray, List.set_cons_zero, List.set_cons_succ, i64_w, i32_w]
    rfl
  refine pure_ (i := 8) (N := some 11) (v := ?_) (a' := ?_) #[true, true, true, true, true, true, true, true, true, false, false, false, false, false, false, false, false, false, false] rfl rfl (by kernel_rfl) (fun _ _ _ h => h) (Or.inl ⟨by rfl, ?_⟩) ?_ ?_
  rotate_left
  · intro w'
    go_simp
    with_reducible rfl
  rotate_left
  · simp only [Act.put, List.setIfInBounds_toArray, List.set_cons_zero, List.set_cons_succ, i64_w, i32_w]
    rfl
  refine pure_ (i := 9) (N := some 12) (v := .slice (some ⟨w1.heap.size, 0, none⟩) 64 64) (a' := ?_) #[true, true, true, true, true, true, true, true, true, true, false, false, false, false, false, false, false, false, false] rfl rfl (by kernel_rfl) (fun _ _ _ h => h) (Or.inl ⟨by rfl, ?_⟩) ?_ ?_
  · intro w'
    go_simp
  rotate_left
  · simp only [Act.put, List.setIfInBounds_toArray, List.set_cons_zero, List.set_cons_succ, i64_w, i32_w]
    rfl
  refine take_ (i := 10) (N := some 13) (v := .string (strOfNums D)) (a' := ?_) #[true, true, true, true, true, true, true, true, true, true, true, false, false, false, false, false, false, false, false] rfl rfl (by kernel_rfl) (fun _ _ _ h => h) (Or.inl ⟨by rfl, ?_⟩) hHeld ?_ ?_
  · intro w' hS'
    have f0_ := K12.out w' hS'
    go_simp
    all_goals exact f0_
  rotate_left
  · simp only [Act.put, List.setIfInBounds_toArray, List.set_cons_zero, List.set_cons_succ, i64_w, i32_w]
    rfl
  refine one_ (i := 11) (N := some 14) #[true, true, true, true, true, true, true, true, true, true, true, true, false, false, false, false, false, false, false] rfl rfl (by kernel_rfl) (by decide) (fun K hK => ?_)
  refine goes_ Tryd.func15 (by kernel_rfl) rfl #[.slice none 0 0] (by rfl) rfl rfl (by (try simp only [List.map_toArray, List.map_cons, List.map_nil]); first | done | rfl) ?_
  refine Calls.mono (CS.out _) ?_
  rintro e w14 ⟨A15, c15, rfl, hc15, hC15, hb15⟩
  refine ⟨_, rfl, ?_⟩
  refine hK.out _ _ (below_step hHeld hb15) (fun hHeld => ?_)
  clear hK K
  refine norm_ (a' := ?_) ?_ ?_
  rotate_left
  · show Act.put _ (some 14) _ = _
    simp only [Act.put, List.setIfInBounds_toArray, List.set_cons_zero, List.set_cons_succ, i64_w, i32_w]
    rfl
  refine one_ (i := 12) (N := some 15) #[true, true, true, true, true, true, true, true, true, true, true, true, true, false, false, false, false, false, false] rfl rfl (by kernel_rfl) (by decide) (fun K hK => ?_)
  refine value_ (w1 := w14) (v := .string (strOfNums D)) (by rfl) rfl (by have k_ := Kd.C_string (P := Tryd.prog) (c := c15) Tryd.underlying22 Tryd.underlying5 Tryd.underlying9 hC15; go_simp) ?_
  refine hK.out _ _ hHeld (fun hHeld => ?_)
  clear hK K
  refine norm_ (a' := ?_) ?_ ?_
  rotate_left
  · show Act.put _ (some 15) _ = _
    simp only [Act.put, List.setIfInBounds_toArray, List.set_cons_zero, List.set_cons_succ, i64_w, i32_w]
    rfl
  refine pure_ (i := 13) (N := some 16) (v := .bool true) (a' := ?_) #[true, true, true, true, true, true, true, true, true, true, true, true, true, true, false, false, false, false, false] rfl rfl (by kernel_rfl) (fun _ _ _ h => h) (Or.inl ⟨by rfl, ?_⟩) ?_ ?_
  · intro w'
    go_simp
  rotate_left
  · simp only [Act.put, List.setIfInBounds_toArray, List.set_cons_zero, List.set_cons_succ, i64_w, i32_w]
    rfl
  refine pure_ (i := 14) (N := some 17) (v := .bool true) (a' := ?_) #[true, true, true, true, true, true, true, true, true, true, true, true, true, true, true, false, false, false, false] rfl rfl (by kernel_rfl) (fun _ _ _ h => h) (Or.inl ⟨by rfl, ?_⟩) ?_ ?_
  · intro w'
    go_simp
  rotate_left
  · simp only [Act.put, List.setIfInBounds_toArray, List.set_cons_zero, List.set_cons_succ, i64_w, i32_w]
    rfl
  refine pure_ (i := 15) (N := some 18) (v := ?_) (a' := ?_) #[true, true, true, true, true, true, true, true, true, true, true, true, true, true, true, true, false, false, false] rfl rfl (by kernel_rfl) (fun _ _ _ h => h) (Or.inl ⟨by rfl, ?_⟩) ?_ ?_
  rotate_left
  · intro w'
    go_simp
    with_reducible rfl
  rotate_left
  · simp only [Act.put, List.setIfInBounds_toArray, List.set_cons_zero, List.set_cons_succ, i64_w, i32_w]
    rfl
  refine one_ (i := 16) (N := some 19) #[true, true, true, true, true, true, true, true, true, true, true, true, true, true, true, true, true, false, false] rfl rfl (by kernel_rfl) (by decide) (fun K hK => ?_)
  refine goes_ Tryd.func13 (by kernel_rfl) rfl #[] (by rfl) rfl rfl (by (try simp only [List.map_toArray, List.map_cons, List.map_nil]); first | done | rfl) ?_
  refine Calls.mono (works_any HW.out _ (HG3.out.below hHeld)) ?_
  rintro e w19 ⟨rfl, hb26⟩
  refine ⟨_, rfl, ?_⟩
  refine hK.out _ _ (below_step hHeld hb26) (fun hHeld => ?_)
  clear hK K
  refine norm_ (a' := ?_) ?_ ?_
  rotate_left
  · show Act.put _ (some 19) _ = _
    simp only [Act.put, List.setIfInBounds_toArray, List.set_cons_zero, List.set_cons_succ, i64_w, i32_w]
    rfl
  refine pure_ (i := 17) (N := some 20) (v := .bool true) (a' := ?_) #[true, true, true, true, true, true, true, true, true, true, true, true, true, true, true, true, true, true, false] rfl rfl (by kernel_rfl) (fun _ _ _ h => h) (Or.inl ⟨by rfl, ?_⟩) ?_ ?_
  · intro w'
    go_simp
  rotate_left
  · simp only [Act.put, List.setIfInBounds_toArray, List.set_cons_zero, List.set_cons_succ, i64_w, i32_w]
    rfl
  refine pure_ (i := 18) (N := some 0) (v := ?_) (a' := ?_) #[true, true, true, true, true, true, true, true, true, true, true, true, true, true, true, true, true, true, true] rfl rfl (by kernel_rfl) (fun _ _ _ h => h) (Or.inl ⟨by rfl, ?_⟩) ?_ ?_
  rotate_left
  · intro w'
    go_simp
    with_reducible rfl
  rotate_left
  · simp only [Act.put, List.setIfInBounds_toArray, List.set_cons_zero, List.set_cons_succ, i64_w, i32_w]
    rfl
  refine done_ (by kernel_rfl) ?_
  go_wp2
  go_ret
  exact ⟨rfl, below_step BW.out hHeld⟩
end Go.Proofs.YtfcadniglmhclaaDoor.S
