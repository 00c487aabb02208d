/-
  The contract of cut (function 8); what a row of the call's own is as an argument.
-/
import Derived.Test.YtfcadniglmhclaaDoorQ6
import Derived.Outline
namespace Go.Proofs.YtfcadniglmhclaaDoor.S
open Go.RowKit Go.Proofs.YtfcadniglmhclaaDoorW.PrintWords Go.Proofs.YtfcadniglmhclaaDoorW.PrintLast Go.Proofs.YtfcadniglmhclaaDoorW.PrintMore
open Go.Proofs.YtfcadniglmhclaaDoor.R
set_option linter.unusedSimpArgs false
set_option linter.unusedVariables false

theorem In_of_R {w : World} {base : Nat} {ok : Nat → Prop} {v : Value} {xs : List Int} (h : Kd.R (Kd.int .u8) 5 w base ok v xs) : In w v xs := by
  obtain ⟨inner, hi⟩ := Kd.R_own h
  rcases hi.2 with ⟨rfl, h2⟩ | ⟨g, cap, cs, rfl, hb, hg, hc, _⟩
  · have hr := Kd.R_reads' h
    exact .inl ⟨rfl, List.eq_nil_of_length_eq_zero hr.1.symm⟩
  · exact .inr ⟨_, cap, rfl, hc, (Kd.R_reads' h).2.2⟩

attribute [local go_sem] max2_int min2_int max_two min_two max_three min_three max_four min_four
set_option maxHeartbeats 400000 in
theorem cut_some (a0 : Addr) (n c : Nat) (w : World) (hn : n ≤ c) :
    Calls Tryd.prog 8 #[.slice (some a0) n c] w fun e w' => e = .returned (.slice (some a0) (min n 2000) c) ∧ w = w' := by
  obtain ⟨i0, hi0, _, hsz0, _⟩ := info_parts info5
  by_cases h : n ≤ 2000
  · have h1 : (if 2000 < (n : Int) then (2000 : Int) else (n : Int)) = (n : Int) := if_neg (by omega)
    have hcut := cut_to (P := Tryd.prog) 22 5 .i64 Tryd.underlying22 hi0 (some a0) n c (n : Int) (by omega) (by omega) hn
    rw [Nat.min_eq_left h]
    clear h
    go_enter Tryd.func8, Tryd.ntmps8
    go_wp2
    go_ret
    exact ⟨rfl, rfl⟩
  · have h1 : (if 2000 < (n : Int) then (2000 : Int) else (n : Int)) = (2000 : Int) := if_pos (by omega)
    have hcut := cut_to (P := Tryd.prog) 22 5 .i64 Tryd.underlying22 hi0 (some a0) n c (2000 : Int) (by omega) (by omega) hn
    have h2 : (2000 : Int) ≤ (n : Int) := by omega
    rw [Nat.min_eq_right (by omega)]
    go_enter Tryd.func8, Tryd.ntmps8
    go_wp2
    go_ret
    exact ⟨rfl, rfl⟩
set_option maxHeartbeats 400000 in
theorem cut_nil (w : World) :
    Calls Tryd.prog 8 #[.slice none 0 0] w fun e w' => e = .returned (.slice none 0 0) ∧ w = w' := by
  go_enter Tryd.func8, Tryd.ntmps8
  go_wp2
  go_ret
  exact ⟨rfl, rfl⟩
theorem cut_any (w : World) (v : Value) (b : List Int) (h : In w v b) :
    Calls Tryd.prog 8 #[v] w fun e w' => ∃ v', e = .returned v' ∧ In w v' (b.take 2000) ∧ w = w' := by
  rcases h with ⟨rfl, rfl⟩ | ⟨a0, c, rfl, h1, h2⟩
  · exact (cut_nil w).mono fun e w' ⟨he, hw⟩ => ⟨_, he, .inl ⟨rfl, rfl⟩, hw⟩
  · refine (cut_some a0 b.length c w h1).mono fun e w' ⟨he, hw⟩ => ⟨_, he, .inr ⟨a0, c, ?_, ?_, ?_⟩, hw⟩
    · rw [List.length_take, Nat.min_comm]
    · rw [List.length_take]; omega
    · by_cases h3 : 2000 ≤ b.length
      · exact Kd.C_take h2 h3
      · rw [List.take_of_length_le (by omega)]; exact h2
end Go.Proofs.YtfcadniglmhclaaDoor.S
