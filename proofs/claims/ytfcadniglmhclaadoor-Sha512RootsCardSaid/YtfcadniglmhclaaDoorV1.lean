/-
  What the kernel reckons: the beginning of the shorter digest, and a known digest's bytes.
-/
import Derived.Test.YtfcadniglmhclaaDoorQ6
namespace Go.Proofs.YtfcadniglmhclaaDoor.S
set_option maxRecDepth 1000000
theorem WS_eq : WS = digS KS FX nameS := by decide +kernel
theorem works : Works := by
  unfold Works
  decide +kernel
theorem sum256_ref (b : List Int) : sum256S b = ref256S b := by
  unfold sum256S ref256S
  rw [WS_eq]
end Go.Proofs.YtfcadniglmhclaaDoor.S
