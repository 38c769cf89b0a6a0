/-
  DERIVED. GIVEN WITH THE SEED: THE CARDS: each row of YteajdhhmkjblnaaGreatDoorRows.lean that lists a variable, with what it lists TIED to the program's text (the seventh form; the later family's looks); each row that meets fmt, with fmt's text TOLD by the authors' own Lean function (tested against real Go, not proved from fmt's source: count such statements apart). THE CARD IS WHAT COUNTS. Prove the row's statement (the work); the ties are given (YteajdhhmkjblnaaGreatDoorTie.lean); close each card by the builder's one call (the guide's Derived/Test/ToyasCard.lean, 'card_holds'). Laid BY PROGRAM, IN A SANDBOX (cutbox-door.mjs). By AI agents, Wed Nov 11 2026. No macro, syntax, notation, axiom, sorry.
-/
import Derived.Test.YteajdhhmkjblnaaGreatDoorRows
import GoSem.ClaimSeven
namespace Go.Proofs.YteajdhhmkjblnaaGreatDoor
namespace Rows

/-- THE TIED CARD OF 'laws.FnSysOver'. -/
def fnSysOverCard : Claim7 := { stood := { row := fnSysOverRow, standIns := [], harness := (true, "54ecc42b00d072fb8e11d9a7603e53d61e5002bcca4db12815e6df86583895a7"), looks := true }, kinds := [], alts := [], laidByText := true, laidKinds := [.sentinel], laidTests := true, laidLooks := .later }
def FnSysOverCardSaid : Prop := Claim7.holds Tryz.pinned (.plain (OpenSpec.ofChange fnSysOverSpec)) fnSysOverCard

/-- THE TIED CARD OF 'laws.FnSysAwait'. -/
def fnSysAwaitCard : Claim7 := { stood := { row := fnSysAwaitRow, standIns := [], harness := (true, "54ecc42b00d072fb8e11d9a7603e53d61e5002bcca4db12815e6df86583895a7"), looks := true }, kinds := [], alts := [], laidByText := true, laidKinds := [.sentinel], laidTests := true, laidLooks := .later }
def FnSysAwaitCardSaid : Prop := Claim7.holds Tryz.pinned (.plain (OpenSpec.ofChange fnSysAwaitSpec)) fnSysAwaitCard

/-- THE TIED CARD OF 'laws.FnSysReadyMain'. -/
def fnSysReadyMainCard : Claim7 := { stood := { row := fnSysReadyMainRow, standIns := [], harness := (true, "54ecc42b00d072fb8e11d9a7603e53d61e5002bcca4db12815e6df86583895a7"), looks := true }, kinds := [], alts := [], laidByText := true, laidKinds := [.sentinel], laidTests := true, laidLooks := .later }
def FnSysReadyMainCardSaid : Prop := Claim7.holds Tryz.pinned (.plain (OpenSpec.ofChange fnSysReadyMainSpec)) fnSysReadyMainCard

/-- THE TIED CARD OF 'laws.FnSysEnd'. -/
def fnSysEndCard : Claim7 := { stood := { row := fnSysEndRow, standIns := [], harness := (true, "54ecc42b00d072fb8e11d9a7603e53d61e5002bcca4db12815e6df86583895a7"), looks := true }, kinds := [], alts := [], laidByText := true, laidKinds := [.sentinel, .sentinel], laidTests := true, laidLooks := .later }
def FnSysEndCardSaid : Prop := Claim7.holds Tryz.pinned (.plain (OpenSpec.ofChange fnSysEndSpec)) fnSysEndCard

/-- THE TIED CARD OF 'laws.FnSysBegin'. -/
def fnSysBeginCard : Claim7 := { stood := { row := fnSysBeginRow, standIns := [], harness := (true, "54ecc42b00d072fb8e11d9a7603e53d61e5002bcca4db12815e6df86583895a7"), looks := true }, kinds := [], alts := [], laidByText := true, laidKinds := [.sentinel, .sentinel], laidTests := true, laidLooks := .later }
def FnSysBeginCardSaid : Prop := Claim7.holds Tryz.pinned (.plain (OpenSpec.ofChange fnSysBeginSpec)) fnSysBeginCard

/-- THE TIED CARD OF 'laws.FnSysCheck'. -/
def fnSysCheckCard : Claim7 := { stood := { row := fnSysCheckRow, standIns := [], harness := (true, "54ecc42b00d072fb8e11d9a7603e53d61e5002bcca4db12815e6df86583895a7"), looks := true }, kinds := [], alts := [], laidByText := true, laidKinds := [.sentinel, .sentinel], laidTests := true, laidLooks := .later }
def FnSysCheckCardSaid : Prop := Claim7.holds Tryz.pinned (.plain (OpenSpec.ofChange fnSysCheckSpec)) fnSysCheckCard

/-- THE TIED CARD OF 'laws.FnSysAgain'. -/
def fnSysAgainCard : Claim7 := { stood := { row := fnSysAgainRow, standIns := [], harness := (true, "54ecc42b00d072fb8e11d9a7603e53d61e5002bcca4db12815e6df86583895a7"), looks := true }, kinds := [], alts := [], laidByText := true, laidKinds := [.sentinel, .sentinel], laidTests := true, laidLooks := .later }
def FnSysAgainCardSaid : Prop := Claim7.holds Tryz.pinned (.plain (OpenSpec.ofChange fnSysAgainSpec)) fnSysAgainCard

/-- THE TIED CARD OF 'laws.FnSysFork'. -/
def fnSysForkCard : Claim7 := { stood := { row := fnSysForkRow, standIns := [], harness := (true, "54ecc42b00d072fb8e11d9a7603e53d61e5002bcca4db12815e6df86583895a7"), looks := true }, kinds := [], alts := [], laidByText := true, laidKinds := [.sentinel, .sentinel], laidTests := true, laidLooks := .later }
def FnSysForkCardSaid : Prop := Claim7.holds Tryz.pinned (.plain (OpenSpec.ofChange fnSysForkSpec)) fnSysForkCard

/-- THE TIED CARD OF 'laws.FnSysFew'. -/
def fnSysFewCard : Claim7 := { stood := { row := fnSysFewRow, standIns := [], harness := (true, "54ecc42b00d072fb8e11d9a7603e53d61e5002bcca4db12815e6df86583895a7"), looks := true }, kinds := [], alts := [], laidByText := true, laidKinds := [.sentinel, .sentinel], laidTests := true, laidLooks := .later }
def FnSysFewCardSaid : Prop := Claim7.holds Tryz.pinned (.plain (OpenSpec.ofChange fnSysFewSpec)) fnSysFewCard

/-- THE TIED CARD OF 'laws.FnSysGone'. -/
def fnSysGoneCard : Claim7 := { stood := { row := fnSysGoneRow, standIns := [], harness := (true, "54ecc42b00d072fb8e11d9a7603e53d61e5002bcca4db12815e6df86583895a7"), looks := true }, kinds := [], alts := [], laidByText := true, laidKinds := [.sentinel, .sentinel], laidTests := true, laidLooks := .later }
def FnSysGoneCardSaid : Prop := Claim7.holds Tryz.pinned (.plain (OpenSpec.ofChange fnSysGoneSpec)) fnSysGoneCard

/-- THE TIED CARD OF 'laws.FnSysStepReady'. -/
def fnSysStepReadyCard : Claim7 := { stood := { row := fnSysStepReadyRow, standIns := [], harness := (true, "54ecc42b00d072fb8e11d9a7603e53d61e5002bcca4db12815e6df86583895a7"), looks := true }, kinds := [], alts := [], laidByText := true, laidKinds := [.sentinel, .sentinel], laidTests := true, laidLooks := .later }
def FnSysStepReadyCardSaid : Prop := Claim7.holds Tryz.pinned (.plain (OpenSpec.ofChange fnSysStepReadySpec)) fnSysStepReadyCard

/-- THE TIED CARD OF 'laws.FnSysLoad'. -/
def fnSysLoadCard : Claim7 := { stood := { row := fnSysLoadRow, standIns := [], harness := (true, "54ecc42b00d072fb8e11d9a7603e53d61e5002bcca4db12815e6df86583895a7"), looks := true }, kinds := [], alts := [], laidByText := true, laidKinds := [.sentinel, .sentinel], laidTests := true, laidLooks := .later }
def FnSysLoadCardSaid : Prop := Claim7.holds Tryz.pinned (.plain (OpenSpec.ofChange fnSysLoadSpec)) fnSysLoadCard

/-- THE SECOND FORM's CARD OF 'laws.FnSysOver'. -/
def fnSysOverUptoCard : Claim7 := { stood := { row := fnSysOverUptoRow, standIns := [], harness := (true, "54ecc42b00d072fb8e11d9a7603e53d61e5002bcca4db12815e6df86583895a7"), looks := true }, kinds := [], alts := [], laidByText := true, laidKinds := [.sentinel], laidTests := true, laidLooks := .later }
def FnSysOverUptoCardSaid : Prop := Claim7.holds Tryz.pinned (.plain (OpenSpec.upto fnSysOverSpec)) fnSysOverUptoCard

/-- THE SECOND FORM's CARD OF 'laws.FnSysAwait'. -/
def fnSysAwaitUptoCard : Claim7 := { stood := { row := fnSysAwaitUptoRow, standIns := [], harness := (true, "54ecc42b00d072fb8e11d9a7603e53d61e5002bcca4db12815e6df86583895a7"), looks := true }, kinds := [], alts := [], laidByText := true, laidKinds := [.sentinel], laidTests := true, laidLooks := .later }
def FnSysAwaitUptoCardSaid : Prop := Claim7.holds Tryz.pinned (.plain (OpenSpec.upto fnSysAwaitSpec)) fnSysAwaitUptoCard

/-- THE SECOND FORM's CARD OF 'laws.FnSysReadyMain'. -/
def fnSysReadyMainUptoCard : Claim7 := { stood := { row := fnSysReadyMainUptoRow, standIns := [], harness := (true, "54ecc42b00d072fb8e11d9a7603e53d61e5002bcca4db12815e6df86583895a7"), looks := true }, kinds := [], alts := [], laidByText := true, laidKinds := [.sentinel], laidTests := true, laidLooks := .later }
def FnSysReadyMainUptoCardSaid : Prop := Claim7.holds Tryz.pinned (.plain (OpenSpec.upto fnSysReadyMainSpec)) fnSysReadyMainUptoCard

/-- THE SECOND FORM's CARD OF 'laws.FnSysEnd'. -/
def fnSysEndUptoCard : Claim7 := { stood := { row := fnSysEndUptoRow, standIns := [], harness := (true, "54ecc42b00d072fb8e11d9a7603e53d61e5002bcca4db12815e6df86583895a7"), looks := true }, kinds := [], alts := [], laidByText := true, laidKinds := [.sentinel, .sentinel], laidTests := true, laidLooks := .later }
def FnSysEndUptoCardSaid : Prop := Claim7.holds Tryz.pinned (.plain (OpenSpec.upto fnSysEndSpec)) fnSysEndUptoCard

/-- THE SECOND FORM's CARD OF 'laws.FnSysBegin'. -/
def fnSysBeginUptoCard : Claim7 := { stood := { row := fnSysBeginUptoRow, standIns := [], harness := (true, "54ecc42b00d072fb8e11d9a7603e53d61e5002bcca4db12815e6df86583895a7"), looks := true }, kinds := [], alts := [], laidByText := true, laidKinds := [.sentinel, .sentinel], laidTests := true, laidLooks := .later }
def FnSysBeginUptoCardSaid : Prop := Claim7.holds Tryz.pinned (.plain (OpenSpec.upto fnSysBeginSpec)) fnSysBeginUptoCard

/-- THE SECOND FORM's CARD OF 'laws.FnSysCheck'. -/
def fnSysCheckUptoCard : Claim7 := { stood := { row := fnSysCheckUptoRow, standIns := [], harness := (true, "54ecc42b00d072fb8e11d9a7603e53d61e5002bcca4db12815e6df86583895a7"), looks := true }, kinds := [], alts := [], laidByText := true, laidKinds := [.sentinel, .sentinel], laidTests := true, laidLooks := .later }
def FnSysCheckUptoCardSaid : Prop := Claim7.holds Tryz.pinned (.plain (OpenSpec.upto fnSysCheckSpec)) fnSysCheckUptoCard

/-- THE SECOND FORM's CARD OF 'laws.FnSysAgain'. -/
def fnSysAgainUptoCard : Claim7 := { stood := { row := fnSysAgainUptoRow, standIns := [], harness := (true, "54ecc42b00d072fb8e11d9a7603e53d61e5002bcca4db12815e6df86583895a7"), looks := true }, kinds := [], alts := [], laidByText := true, laidKinds := [.sentinel, .sentinel], laidTests := true, laidLooks := .later }
def FnSysAgainUptoCardSaid : Prop := Claim7.holds Tryz.pinned (.plain (OpenSpec.upto fnSysAgainSpec)) fnSysAgainUptoCard

/-- THE SECOND FORM's CARD OF 'laws.FnSysFork'. -/
def fnSysForkUptoCard : Claim7 := { stood := { row := fnSysForkUptoRow, standIns := [], harness := (true, "54ecc42b00d072fb8e11d9a7603e53d61e5002bcca4db12815e6df86583895a7"), looks := true }, kinds := [], alts := [], laidByText := true, laidKinds := [.sentinel, .sentinel], laidTests := true, laidLooks := .later }
def FnSysForkUptoCardSaid : Prop := Claim7.holds Tryz.pinned (.plain (OpenSpec.upto fnSysForkSpec)) fnSysForkUptoCard

/-- THE SECOND FORM's CARD OF 'laws.FnSysFew'. -/
def fnSysFewUptoCard : Claim7 := { stood := { row := fnSysFewUptoRow, standIns := [], harness := (true, "54ecc42b00d072fb8e11d9a7603e53d61e5002bcca4db12815e6df86583895a7"), looks := true }, kinds := [], alts := [], laidByText := true, laidKinds := [.sentinel, .sentinel], laidTests := true, laidLooks := .later }
def FnSysFewUptoCardSaid : Prop := Claim7.holds Tryz.pinned (.plain (OpenSpec.upto fnSysFewSpec)) fnSysFewUptoCard

/-- THE SECOND FORM's CARD OF 'laws.FnSysGone'. -/
def fnSysGoneUptoCard : Claim7 := { stood := { row := fnSysGoneUptoRow, standIns := [], harness := (true, "54ecc42b00d072fb8e11d9a7603e53d61e5002bcca4db12815e6df86583895a7"), looks := true }, kinds := [], alts := [], laidByText := true, laidKinds := [.sentinel, .sentinel], laidTests := true, laidLooks := .later }
def FnSysGoneUptoCardSaid : Prop := Claim7.holds Tryz.pinned (.plain (OpenSpec.upto fnSysGoneSpec)) fnSysGoneUptoCard

/-- THE SECOND FORM's CARD OF 'laws.FnSysStepReady'. -/
def fnSysStepReadyUptoCard : Claim7 := { stood := { row := fnSysStepReadyUptoRow, standIns := [], harness := (true, "54ecc42b00d072fb8e11d9a7603e53d61e5002bcca4db12815e6df86583895a7"), looks := true }, kinds := [], alts := [], laidByText := true, laidKinds := [.sentinel, .sentinel], laidTests := true, laidLooks := .later }
def FnSysStepReadyUptoCardSaid : Prop := Claim7.holds Tryz.pinned (.plain (OpenSpec.upto fnSysStepReadySpec)) fnSysStepReadyUptoCard

/-- THE SECOND FORM's CARD OF 'laws.FnSysLoad'. -/
def fnSysLoadUptoCard : Claim7 := { stood := { row := fnSysLoadUptoRow, standIns := [], harness := (true, "54ecc42b00d072fb8e11d9a7603e53d61e5002bcca4db12815e6df86583895a7"), looks := true }, kinds := [], alts := [], laidByText := true, laidKinds := [.sentinel, .sentinel], laidTests := true, laidLooks := .later }
def FnSysLoadUptoCardSaid : Prop := Claim7.holds Tryz.pinned (.plain (OpenSpec.upto fnSysLoadSpec)) fnSysLoadUptoCard
end Rows
end Go.Proofs.YteajdhhmkjblnaaGreatDoor
