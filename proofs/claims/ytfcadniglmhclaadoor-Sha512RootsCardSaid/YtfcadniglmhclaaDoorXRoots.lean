/-
  'Sha512Roots' answers true for every input, and each argument reads behind the call as it read before: the row, and its card tied to the program's text. Condition: the two listed package-level variables read as the program's text lays them (the card ties that).
-/
import Derived.Test.YtfcadniglmhclaaDoorNRoots
import Derived.Test.YtfcadniglmhclaaDoorV2
import Derived.Test.YtfcadniglmhclaaDoorCards
import Derived.Test.YtfcadniglmhclaaDoorTie
namespace Go.Proofs.YtfcadniglmhclaaDoor
open Go.ChangeShapes Go.WideShapes Go.ChangeAt Go.RowKit
set_option linter.unusedVariables false
set_option linter.unusedSimpArgs false

set_option maxRecDepth 100000 in
theorem sha512Roots_lifted (os : Os) (started : os.Started) (H : Type) (enc : TypeId × Value → H) :
    ReturnsInHanded {} Tryd.checked os 7 .any (fun w args => (Rows.sha512RootsSpec.pre enc Tryd.prog Tryd.f7 [] false w args ∧ laidMetH Tryd.prog S.laidL w) ∧ sizedMet enc Tryd.prog Tryd.f7 (OpenSpec.ofChange Rows.sha512RootsSpec) false w args)
      (Rows.sha512RootsSpec.post enc Tryd.prog Tryd.f7 false true false false) := by
  refine returnsInHanded_of_change_and (C := Tryd.checked) (X := fun w _ => laidMetH Tryd.prog S.laidL w) (fun _ _ _ hh h => h.of_heap hh) S.own started (by kernel_rfl) Tryd.func7
    (ChangeSpec.witness_shaped (enc := enc) (C := Tryd.checked) (os := os) (X := fun w _ => laidMetH Tryd.prog S.laidL w) false (World.doorLaid Tryd.prog 400 os) #[] 8 rfl (World.shaped_of_RefB (by kernel_rfl) (by kernel_rfl)) (by kernel_rfl) (by kernel_rfl) (by kernel_rfl) (S.door_met os _)) ?_
  intro W base args ds gs before hval0 hW _ _ hL _
  have hval : ∀ (j : Nat) t v, Tryd.f7.params[j]? = some t → args[j]? = some v → Value.okWide Tryd.prog W .any base t v := hval0
  have hW' := hW
  obtain ⟨p, q, hA0, hV, rfl, hfz, hnd⟩ := hW
  have hA : DataW.TrodAll enc Tryd.prog W 0 (fun _ => true) true Tryd.f7.params.toList args.toList ds p := hA0
  rw [Tryd.params7] at hA hval
  obtain ⟨h1, rfl, rfl⟩ := trodAll_none hA
  obtain rfl : args = #[] := h1
  obtain ⟨rfl, rfl⟩ := trodVars_none hV
  have hG := S.gl_of_laid hL
  clear hA0 hval0
  simp only [List.append_nil] at hW'

  refine (S.law_roots S.works W hG).mono fun e W' ⟨he, hb⟩ => ?_
  subst he
  exact ⟨_, rfl, ⟨_, _, _, [], _, [], hW', trodAll_mk1 (shut_bool Tryd.underlying4 _), trodAll_mk0, rfl, hb.frame _, fun h => by cases h⟩⟩

theorem sha512Roots_holds : Rows.Sha512RootsSaid :=
  OpenClaim.holds_of_wide 7 Tryd.f7 rfl rfl rfl rfl rfl rfl rfl ⟨rfl, rfl, rfl, rfl, rfl⟩ rfl rfl rfl rfl rfl (by kernel_rfl) Tryd.func7 (by kernel_rfl)
    (of_decide_eq_true (by kernel_rfl)) (by unfold Func.isWrapper; first | (rw [if_pos (by decide +kernel)]; kernel_rfl) | (rw [if_neg (by decide +kernel)]; exact ⟨rfl, rfl⟩))
    (fun os started H enc _ => sha512Roots_lifted os started H enc)

/-- The tied card. -/
theorem sha512Roots_card : Rows.Sha512RootsCardSaid :=
  Claim7.holds_tied_plain_at .later [] [.data, .data] true (true, "19dd3d1878dc07a6eb4a46cf0cec9fb8f5168bc7a1dbcfff8a4362245b55ece2") false
    sha512Roots_holds (fun _ h => by cases h) (by kernel_rfl) (fun _ h => by cases h) sha512Roots_row_tie rfl ⟨rfl, rfl⟩ (by kernel_rfl) rfl
    (fun f fn hf hfn => by
      obtain rfl : f = 7 := Option.some.inj ((show Tryd.prog.funcNamed "spinney/spinneylaw02.Sha512Roots" = some 7 by kernel_rfl).symm.trans hf) |>.symm
      obtain rfl : fn = Tryd.f7 := (Option.some.inj (Tryd.func7.symm.trans hfn)).symm
      exact ⟨by kernel_rfl, fun j t ht => by
        rw [Tryd.params7] at ht
        simp at ht⟩)
    (by kernel_rfl)
#print axioms sha512Roots_card
end Go.Proofs.YtfcadniglmhclaaDoor
