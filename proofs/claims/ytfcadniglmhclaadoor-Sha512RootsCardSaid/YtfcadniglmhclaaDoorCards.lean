/-
  DERIVED. GIVEN WITH THE SEED: THE CARDS: each row of YtfcadniglmhclaaDoorRows.lean that lists a variable, with what it lists TIED to the program's text (the seventh form; the later family's looks); each row that meets fmt, with fmt's text TOLD by the authors' own Lean function (tested against real Go, not proved from fmt's source: count such statements apart). THE CARD IS WHAT COUNTS. Prove the row's statement (the work); the ties are given (YtfcadniglmhclaaDoorTie.lean); close each card by the builder's one call (the guide's Derived/Test/ToyasCard.lean, 'card_holds'). Laid BY PROGRAM, IN A SANDBOX (cutbox-door.mjs). By AI agents, Wed Nov 11 2026. No macro, syntax, notation, axiom, sorry.
-/
import Derived.Test.YtfcadniglmhclaaDoorRows
import GoSem.ClaimSeven
namespace Go.Proofs.YtfcadniglmhclaaDoor
namespace Rows

/-- THE TIED CARD OF 'spinneylaw02.Sha512Shorts'. -/
def sha512ShortsCard : Claim7 := { stood := { row := sha512ShortsRow, standIns := [], harness := (true, "19dd3d1878dc07a6eb4a46cf0cec9fb8f5168bc7a1dbcfff8a4362245b55ece2"), looks := false }, kinds := [], alts := [], laidByText := true, laidKinds := [.data, .data], laidTests := true, laidLooks := .later }
def Sha512ShortsCardSaid : Prop := Claim7.holds Tryd.pinned (.plain (OpenSpec.ofChange sha512ShortsSpec)) sha512ShortsCard

/-- THE TIED CARD OF 'spinneylaw02.Sha512Sums'. -/
def sha512SumsCard : Claim7 := { stood := { row := sha512SumsRow, standIns := [], harness := (true, "19dd3d1878dc07a6eb4a46cf0cec9fb8f5168bc7a1dbcfff8a4362245b55ece2"), looks := false }, kinds := [], alts := [], laidByText := true, laidKinds := [.data, .data], laidTests := true, laidLooks := .later }
def Sha512SumsCardSaid : Prop := Claim7.holds Tryd.pinned (.plain (OpenSpec.ofChange sha512SumsSpec)) sha512SumsCard

/-- THE TIED CARD OF 'spinneylaw02.Sha512Again'. -/
def sha512AgainCard : Claim7 := { stood := { row := sha512AgainRow, standIns := [], harness := (true, "19dd3d1878dc07a6eb4a46cf0cec9fb8f5168bc7a1dbcfff8a4362245b55ece2"), looks := false }, kinds := [], alts := [], laidByText := true, laidKinds := [.data, .data], laidTests := true, laidLooks := .later }
def Sha512AgainCardSaid : Prop := Claim7.holds Tryd.pinned (.plain (OpenSpec.ofChange sha512AgainSpec)) sha512AgainCard

/-- THE TIED CARD OF 'spinneylaw02.Sha512Known'. -/
def sha512KnownCard : Claim7 := { stood := { row := sha512KnownRow, standIns := [], harness := (true, "19dd3d1878dc07a6eb4a46cf0cec9fb8f5168bc7a1dbcfff8a4362245b55ece2"), looks := false }, kinds := [], alts := [], laidByText := true, laidKinds := [.data, .data], laidTests := true, laidLooks := .later }
def Sha512KnownCardSaid : Prop := Claim7.holds Tryd.pinned (.plain (OpenSpec.ofChange sha512KnownSpec)) sha512KnownCard

/-- THE TIED CARD OF 'spinneylaw02.Sha512Roots'. -/
def sha512RootsCard : Claim7 := { stood := { row := sha512RootsRow, standIns := [], harness := (true, "19dd3d1878dc07a6eb4a46cf0cec9fb8f5168bc7a1dbcfff8a4362245b55ece2"), looks := false }, kinds := [], alts := [], laidByText := true, laidKinds := [.data, .data], laidTests := true, laidLooks := .later }
def Sha512RootsCardSaid : Prop := Claim7.holds Tryd.pinned (.plain (OpenSpec.ofChange sha512RootsSpec)) sha512RootsCard

/-- THE SECOND FORM's CARD OF 'spinneylaw02.Sha512Shorts'. -/
def sha512ShortsUptoCard : Claim7 := { stood := { row := sha512ShortsUptoRow, standIns := [], harness := (true, "19dd3d1878dc07a6eb4a46cf0cec9fb8f5168bc7a1dbcfff8a4362245b55ece2"), looks := false }, kinds := [], alts := [], laidByText := true, laidKinds := [.data, .data], laidTests := true, laidLooks := .later }
def Sha512ShortsUptoCardSaid : Prop := Claim7.holds Tryd.pinned (.plain (OpenSpec.upto sha512ShortsSpec)) sha512ShortsUptoCard

/-- THE SECOND FORM's CARD OF 'spinneylaw02.Sha512Sums'. -/
def sha512SumsUptoCard : Claim7 := { stood := { row := sha512SumsUptoRow, standIns := [], harness := (true, "19dd3d1878dc07a6eb4a46cf0cec9fb8f5168bc7a1dbcfff8a4362245b55ece2"), looks := false }, kinds := [], alts := [], laidByText := true, laidKinds := [.data, .data], laidTests := true, laidLooks := .later }
def Sha512SumsUptoCardSaid : Prop := Claim7.holds Tryd.pinned (.plain (OpenSpec.upto sha512SumsSpec)) sha512SumsUptoCard

/-- THE SECOND FORM's CARD OF 'spinneylaw02.Sha512Again'. -/
def sha512AgainUptoCard : Claim7 := { stood := { row := sha512AgainUptoRow, standIns := [], harness := (true, "19dd3d1878dc07a6eb4a46cf0cec9fb8f5168bc7a1dbcfff8a4362245b55ece2"), looks := false }, kinds := [], alts := [], laidByText := true, laidKinds := [.data, .data], laidTests := true, laidLooks := .later }
def Sha512AgainUptoCardSaid : Prop := Claim7.holds Tryd.pinned (.plain (OpenSpec.upto sha512AgainSpec)) sha512AgainUptoCard

/-- THE SECOND FORM's CARD OF 'spinneylaw02.Sha512Known'. -/
def sha512KnownUptoCard : Claim7 := { stood := { row := sha512KnownUptoRow, standIns := [], harness := (true, "19dd3d1878dc07a6eb4a46cf0cec9fb8f5168bc7a1dbcfff8a4362245b55ece2"), looks := false }, kinds := [], alts := [], laidByText := true, laidKinds := [.data, .data], laidTests := true, laidLooks := .later }
def Sha512KnownUptoCardSaid : Prop := Claim7.holds Tryd.pinned (.plain (OpenSpec.upto sha512KnownSpec)) sha512KnownUptoCard

/-- THE SECOND FORM's CARD OF 'spinneylaw02.Sha512Roots'. -/
def sha512RootsUptoCard : Claim7 := { stood := { row := sha512RootsUptoRow, standIns := [], harness := (true, "19dd3d1878dc07a6eb4a46cf0cec9fb8f5168bc7a1dbcfff8a4362245b55ece2"), looks := false }, kinds := [], alts := [], laidByText := true, laidKinds := [.data, .data], laidTests := true, laidLooks := .later }
def Sha512RootsUptoCardSaid : Prop := Claim7.holds Tryd.pinned (.plain (OpenSpec.upto sha512RootsSpec)) sha512RootsUptoCard
end Rows
end Go.Proofs.YtfcadniglmhclaaDoor
