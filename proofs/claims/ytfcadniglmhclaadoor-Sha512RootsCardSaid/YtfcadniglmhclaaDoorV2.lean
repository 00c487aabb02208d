/-
  What the rows' proofs share: what the listed variables hold when the call begins; a row of bytes that came in, opened; the witness.
-/
import Derived.Test.YtfcadniglmhclaaDoorRows
import Derived.Test.YtfcadniglmhclaaDoorV1
import Derived.ProofKit
import Derived.LaidMore
import Derived.OpenShut
import Derived.Stop.Joined
import Derived.Carry
import Derived.Below
import Derived.MakeChecks
import Derived.Lib.LaidTab
namespace Go.Proofs.YtfcadniglmhclaaDoor.S
open Go.ChangeShapes Go.WideShapes Go.ChangeAt Go.RowKit
open Go.Proofs.YtfcadniglmhclaaDoorW.PrintWords Go.Proofs.YtfcadniglmhclaaDoorW.PrintLast Go.Proofs.YtfcadniglmhclaaDoorW.PrintMore
set_option linter.unusedVariables false

abbrev laidL : List (String × DataW Unit) := [("spinney/sha512.constants", Rows.laid_spinney_sha512_constants), ("spinney/sha512.first", Rows.laid_spinney_sha512_first)]
theorem own : ownKnob Tryd.prog.godebug = none := by kernel_rfl
theorem laidOut : laidOutB Tryd.prog = true := by kernel_rfl
theorem gK : Tryd.prog.globalNamed "spinney/sha512.constants" = some 1 := by kernel_rfl
theorem gF : Tryd.prog.globalNamed "spinney/sha512.first" = some 0 := by kernel_rfl
theorem tK : (Tryd.prog.globals[1]?).map (·.type) = some 55 := by kernel_rfl
theorem tF : (Tryd.prog.globals[0]?).map (·.type) = some 28 := by kernel_rfl
theorem cells27 : Tryd.prog.cellsOf 27 = 1 := by kernel_rfl
theorem cells5 : Tryd.prog.cellsOf 5 = 1 := by kernel_rfl
theorem cells28 : Tryd.prog.cellsOf 28 = 8 := by kernel_rfl
theorem cells55 : Tryd.prog.cellsOf 55 = 80 := by kernel_rfl
theorem dataK : (Rows.laid_spinney_sha512_constants : DataW Unit) = Lib.tabData .u64 KS := by rfl
theorem dataF : (Rows.laid_spinney_sha512_first : DataW Unit) = Lib.tabData .u64 FS := by rfl

theorem heap_of_var {P : Program} {w : World} {n : String} {g : Nat} {cs : Array Value} (hg : P.globalNamed n = some g) (h : w.var? P n = some cs) : ∃ t fr, w.heap[g]? = some (.cells cs t fr) := by
  simp only [World.var?, hg, Option.bind_some] at h
  split at h
  · rename_i c t fr e
    cases h
    exact ⟨t, fr, e⟩
  · cases h

theorem gl_of_laid {W : World} (h : laidMetH Tryd.prog laidL W) : Gl W := by
  rw [MakeChecks.laidMetH_plain _ _ _ (by kernel_rfl)] at h
  obtain ⟨ps, ⟨g0, t0, cs0, f0, p0, q0, hg0, ht0, hv0, hd0, ⟨g1, t1, cs1, f1, p1, q1, hg1, ht1, hv1, hd1, _, _⟩, _⟩, _, _⟩ := h
  obtain rfl := Option.some.inj (gK.symm.trans hg0)
  obtain rfl := Option.some.inj (gF.symm.trans hg1)
  obtain rfl := Option.some.inj (tK.symm.trans ht0)
  obtain rfl := Option.some.inj (tF.symm.trans ht1)
  rw [dataK] at hd0
  rw [dataF] at hd1
  have e0 := Lib.cells_of_tab Tryd.underlying55 Tryd.underlying27 cells27 cells55 hd0
  have e1 := Lib.cells_of_tab Tryd.underlying28 Tryd.underlying27 cells27 cells28 hd1
  have a0 : cs0 = wds KS := Array.toList_inj.1 (by rw [e0]; rfl)
  have a1 : cs1 = wds FS := Array.toList_inj.1 (by rw [e1]; rfl)
  subst a0
  subst a1
  exact ⟨heap_of_var hg1 hv1, heap_of_var hg0 hv0⟩

theorem door_met (os : Os) (args : Array Value) : laidMetH Tryd.prog laidL ((World.doorLaid Tryd.prog 400 os).forCall (fun _ _ => 0) ⟨#[], args, []⟩).memory :=
  laidMetH_of_parts3 (fuel := 8) (laidMet_of_run' 8 (by kernel_rfl) (by kernel_rfl)) (by kernel_rfl) (by kernel_rfl)

/-- A row of bytes that came in. -/
theorem in_of_trod {H : Type} {enc : TypeId × Value → H} {W : World} {v : Value} {d : DataW H} {p : List MemPlace} {base : Nat} (hv : Value.okWide Tryd.prog W .any base 22 v)
    (h : DataW.Trod enc Tryd.prog W 0 (fun _ => true) true 22 v d p) : ∃ b, In W v b ∧ By b := by
  obtain ⟨fuel, hf⟩ := h
  obtain ⟨a0, len, cap, rfl⟩ := okWide_slice Tryd.underlying22 hv
  rcases open_ints Tryd.underlying22 Tryd.underlying5 cells5 hf with ⟨hcs, hx⟩ | ⟨a, len', cap', zs, hcs, _, hl, hm, hz, hx, hcell, hwz⟩
  · simp [Value.cells] at hcs
    obtain ⟨rfl, rfl, rfl⟩ := hcs
    exact ⟨[], .inl ⟨rfl, rfl⟩, fun x hx => by cases hx⟩
  · simp [Value.cells] at hcs
    obtain ⟨rfl, rfl, rfl⟩ := hcs
    simp only [if_true] at hz
    have hlen : (zs.take len).length = len := by rw [List.length_take]; omega
    refine ⟨zs.take len, .inr ⟨a, cap, by rw [hlen], by omega, ?_⟩, fun x hx => ?_⟩
    · refine Kd.C_of_reads (enc := Value.int .u8) (d := (0 : Int)) (h1 := fun _ => rfl) ⟨rfl, by have : maxLen ≤ 9223372036854775807 := (by decide); omega, fun hp => ⟨a, rfl, fun j hj => ?_⟩⟩
      rw [hcell j (by omega), List.getD_eq_getElem?_getD, List.getD_eq_getElem?_getD, List.getElem?_take_of_lt (by omega)]
    · have := hwz x (List.mem_of_mem_take hx)
      simp only [Lit.wf, Bool.and_eq_true, decide_eq_true_eq] at this
      have e1 : IntKind.min .u8 = 0 := rfl
      have e2 : IntKind.max .u8 = 255 := rfl
      omega
end Go.Proofs.YtfcadniglmhclaaDoor.S
