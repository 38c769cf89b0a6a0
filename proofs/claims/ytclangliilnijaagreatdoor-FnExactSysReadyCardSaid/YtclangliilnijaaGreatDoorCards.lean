/-
  DERIVED. GIVEN WITH THE SEED: THE CARDS: each row of YtclangliilnijaaGreatDoorRows.lean that lists a variable, with what it lists TIED to the program's text (the seventh form; the later family's looks); each row that meets fmt, with fmt's text TOLD by the authors' own Lean function (tested against real Go, not proved from fmt's source: count such statements apart). THE CARD IS WHAT COUNTS. Prove the row's statement (the work); the ties are given (YtclangliilnijaaGreatDoorTie.lean); close each card by the builder's one call (the guide's Derived/Test/ToyasCard.lean, 'card_holds'). Laid BY PROGRAM, IN A SANDBOX (cutbox-door.mjs). By AI agents, Wed Nov 11 2026. No macro, syntax, notation, axiom, sorry.
-/
import Derived.Test.YtclangliilnijaaGreatDoorRows
import GoSem.ClaimSeven
namespace Go.Proofs.YtclangliilnijaaGreatDoor
namespace Rows

/-- THE TIED CARD OF 'laws.FnExactSysReady'. -/
def fnExactSysReadyCard : Claim7 := { stood := { row := fnExactSysReadyRow, standIns := [], harness := (true, "081781c4bb24b9383898314ada6bcf7fd01b4b3dafbee896d7ca1f7c502e6979"), looks := true }, kinds := [], alts := [], laidByText := true, laidKinds := [.sentinel], laidTests := true, laidLooks := .later }
def FnExactSysReadyCardSaid : Prop := Claim7.holds Tryz.pinned (.plain (OpenSpec.ofChange fnExactSysReadySpec)) fnExactSysReadyCard

/-- THE TIED CARD OF 'laws.FnExactSysOver'. -/
def fnExactSysOverCard : Claim7 := { stood := { row := fnExactSysOverRow, standIns := [], harness := (true, "081781c4bb24b9383898314ada6bcf7fd01b4b3dafbee896d7ca1f7c502e6979"), looks := true }, kinds := [], alts := [], laidByText := true, laidKinds := [.sentinel], laidTests := true, laidLooks := .later }
def FnExactSysOverCardSaid : Prop := Claim7.holds Tryz.pinned (.plain (OpenSpec.ofChange fnExactSysOverSpec)) fnExactSysOverCard

/-- THE TIED CARD OF 'laws.FnSysEnd'. -/
def fnSysEndCard : Claim7 := { stood := { row := fnSysEndRow, standIns := [], harness := (true, "081781c4bb24b9383898314ada6bcf7fd01b4b3dafbee896d7ca1f7c502e6979"), looks := true }, kinds := [], alts := [], laidByText := true, laidKinds := [.sentinel, .sentinel], laidTests := true, laidLooks := .later }
def FnSysEndCardSaid : Prop := Claim7.holds Tryz.pinned (.plain (OpenSpec.ofChange fnSysEndSpec)) fnSysEndCard

/-- THE TIED CARD OF 'laws.FnSysBegin'. -/
def fnSysBeginCard : Claim7 := { stood := { row := fnSysBeginRow, standIns := [], harness := (true, "081781c4bb24b9383898314ada6bcf7fd01b4b3dafbee896d7ca1f7c502e6979"), looks := true }, kinds := [], alts := [], laidByText := true, laidKinds := [.sentinel, .sentinel], laidTests := true, laidLooks := .later }
def FnSysBeginCardSaid : Prop := Claim7.holds Tryz.pinned (.plain (OpenSpec.ofChange fnSysBeginSpec)) fnSysBeginCard

/-- THE TIED CARD OF 'laws.FnSysCheck'. -/
def fnSysCheckCard : Claim7 := { stood := { row := fnSysCheckRow, standIns := [], harness := (true, "081781c4bb24b9383898314ada6bcf7fd01b4b3dafbee896d7ca1f7c502e6979"), looks := true }, kinds := [], alts := [], laidByText := true, laidKinds := [.sentinel, .sentinel], laidTests := true, laidLooks := .later }
def FnSysCheckCardSaid : Prop := Claim7.holds Tryz.pinned (.plain (OpenSpec.ofChange fnSysCheckSpec)) fnSysCheckCard

/-- THE TIED CARD OF 'laws.FnSysAgain'. -/
def fnSysAgainCard : Claim7 := { stood := { row := fnSysAgainRow, standIns := [], harness := (true, "081781c4bb24b9383898314ada6bcf7fd01b4b3dafbee896d7ca1f7c502e6979"), looks := true }, kinds := [], alts := [], laidByText := true, laidKinds := [.sentinel, .sentinel], laidTests := true, laidLooks := .later }
def FnSysAgainCardSaid : Prop := Claim7.holds Tryz.pinned (.plain (OpenSpec.ofChange fnSysAgainSpec)) fnSysAgainCard

/-- THE TIED CARD OF 'laws.FnSysFork'. -/
def fnSysForkCard : Claim7 := { stood := { row := fnSysForkRow, standIns := [], harness := (true, "081781c4bb24b9383898314ada6bcf7fd01b4b3dafbee896d7ca1f7c502e6979"), looks := true }, kinds := [], alts := [], laidByText := true, laidKinds := [.sentinel, .sentinel], laidTests := true, laidLooks := .later }
def FnSysForkCardSaid : Prop := Claim7.holds Tryz.pinned (.plain (OpenSpec.ofChange fnSysForkSpec)) fnSysForkCard

/-- THE TIED CARD OF 'laws.FnSysFew'. -/
def fnSysFewCard : Claim7 := { stood := { row := fnSysFewRow, standIns := [], harness := (true, "081781c4bb24b9383898314ada6bcf7fd01b4b3dafbee896d7ca1f7c502e6979"), looks := true }, kinds := [], alts := [], laidByText := true, laidKinds := [.sentinel, .sentinel], laidTests := true, laidLooks := .later }
def FnSysFewCardSaid : Prop := Claim7.holds Tryz.pinned (.plain (OpenSpec.ofChange fnSysFewSpec)) fnSysFewCard

/-- THE TIED CARD OF 'laws.FnSysGone'. -/
def fnSysGoneCard : Claim7 := { stood := { row := fnSysGoneRow, standIns := [], harness := (true, "081781c4bb24b9383898314ada6bcf7fd01b4b3dafbee896d7ca1f7c502e6979"), looks := true }, kinds := [], alts := [], laidByText := true, laidKinds := [.sentinel, .sentinel], laidTests := true, laidLooks := .later }
def FnSysGoneCardSaid : Prop := Claim7.holds Tryz.pinned (.plain (OpenSpec.ofChange fnSysGoneSpec)) fnSysGoneCard

/-- THE TIED CARD OF 'laws.FnSysTimes'. -/
def fnSysTimesCard : Claim7 := { stood := { row := fnSysTimesRow, standIns := [], harness := (true, "081781c4bb24b9383898314ada6bcf7fd01b4b3dafbee896d7ca1f7c502e6979"), looks := true }, kinds := [], alts := [], laidByText := true, laidKinds := [.sentinel, .sentinel], laidTests := true, laidLooks := .later }
def FnSysTimesCardSaid : Prop := Claim7.holds Tryz.pinned (.plain (OpenSpec.ofChange fnSysTimesSpec)) fnSysTimesCard

/-- THE TIED CARD OF 'laws.FnSysStepReady'. -/
def fnSysStepReadyCard : Claim7 := { stood := { row := fnSysStepReadyRow, standIns := [], harness := (true, "081781c4bb24b9383898314ada6bcf7fd01b4b3dafbee896d7ca1f7c502e6979"), looks := true }, kinds := [], alts := [], laidByText := true, laidKinds := [.sentinel, .sentinel], laidTests := true, laidLooks := .later }
def FnSysStepReadyCardSaid : Prop := Claim7.holds Tryz.pinned (.plain (OpenSpec.ofChange fnSysStepReadySpec)) fnSysStepReadyCard

/-- THE SECOND FORM's CARD OF 'laws.FnExactSysReady'. -/
def fnExactSysReadyUptoCard : Claim7 := { stood := { row := fnExactSysReadyUptoRow, standIns := [], harness := (true, "081781c4bb24b9383898314ada6bcf7fd01b4b3dafbee896d7ca1f7c502e6979"), looks := true }, kinds := [], alts := [], laidByText := true, laidKinds := [.sentinel], laidTests := true, laidLooks := .later }
def FnExactSysReadyUptoCardSaid : Prop := Claim7.holds Tryz.pinned (.plain (OpenSpec.upto fnExactSysReadySpec)) fnExactSysReadyUptoCard

/-- THE SECOND FORM's CARD OF 'laws.FnExactSysOver'. -/
def fnExactSysOverUptoCard : Claim7 := { stood := { row := fnExactSysOverUptoRow, standIns := [], harness := (true, "081781c4bb24b9383898314ada6bcf7fd01b4b3dafbee896d7ca1f7c502e6979"), looks := true }, kinds := [], alts := [], laidByText := true, laidKinds := [.sentinel], laidTests := true, laidLooks := .later }
def FnExactSysOverUptoCardSaid : Prop := Claim7.holds Tryz.pinned (.plain (OpenSpec.upto fnExactSysOverSpec)) fnExactSysOverUptoCard

/-- THE SECOND FORM's CARD OF 'laws.FnSysEnd'. -/
def fnSysEndUptoCard : Claim7 := { stood := { row := fnSysEndUptoRow, standIns := [], harness := (true, "081781c4bb24b9383898314ada6bcf7fd01b4b3dafbee896d7ca1f7c502e6979"), looks := true }, kinds := [], alts := [], laidByText := true, laidKinds := [.sentinel, .sentinel], laidTests := true, laidLooks := .later }
def FnSysEndUptoCardSaid : Prop := Claim7.holds Tryz.pinned (.plain (OpenSpec.upto fnSysEndSpec)) fnSysEndUptoCard

/-- THE SECOND FORM's CARD OF 'laws.FnSysBegin'. -/
def fnSysBeginUptoCard : Claim7 := { stood := { row := fnSysBeginUptoRow, standIns := [], harness := (true, "081781c4bb24b9383898314ada6bcf7fd01b4b3dafbee896d7ca1f7c502e6979"), looks := true }, kinds := [], alts := [], laidByText := true, laidKinds := [.sentinel, .sentinel], laidTests := true, laidLooks := .later }
def FnSysBeginUptoCardSaid : Prop := Claim7.holds Tryz.pinned (.plain (OpenSpec.upto fnSysBeginSpec)) fnSysBeginUptoCard

/-- THE SECOND FORM's CARD OF 'laws.FnSysCheck'. -/
def fnSysCheckUptoCard : Claim7 := { stood := { row := fnSysCheckUptoRow, standIns := [], harness := (true, "081781c4bb24b9383898314ada6bcf7fd01b4b3dafbee896d7ca1f7c502e6979"), looks := true }, kinds := [], alts := [], laidByText := true, laidKinds := [.sentinel, .sentinel], laidTests := true, laidLooks := .later }
def FnSysCheckUptoCardSaid : Prop := Claim7.holds Tryz.pinned (.plain (OpenSpec.upto fnSysCheckSpec)) fnSysCheckUptoCard

/-- THE SECOND FORM's CARD OF 'laws.FnSysAgain'. -/
def fnSysAgainUptoCard : Claim7 := { stood := { row := fnSysAgainUptoRow, standIns := [], harness := (true, "081781c4bb24b9383898314ada6bcf7fd01b4b3dafbee896d7ca1f7c502e6979"), looks := true }, kinds := [], alts := [], laidByText := true, laidKinds := [.sentinel, .sentinel], laidTests := true, laidLooks := .later }
def FnSysAgainUptoCardSaid : Prop := Claim7.holds Tryz.pinned (.plain (OpenSpec.upto fnSysAgainSpec)) fnSysAgainUptoCard

/-- THE SECOND FORM's CARD OF 'laws.FnSysFork'. -/
def fnSysForkUptoCard : Claim7 := { stood := { row := fnSysForkUptoRow, standIns := [], harness := (true, "081781c4bb24b9383898314ada6bcf7fd01b4b3dafbee896d7ca1f7c502e6979"), looks := true }, kinds := [], alts := [], laidByText := true, laidKinds := [.sentinel, .sentinel], laidTests := true, laidLooks := .later }
def FnSysForkUptoCardSaid : Prop := Claim7.holds Tryz.pinned (.plain (OpenSpec.upto fnSysForkSpec)) fnSysForkUptoCard

/-- THE SECOND FORM's CARD OF 'laws.FnSysFew'. -/
def fnSysFewUptoCard : Claim7 := { stood := { row := fnSysFewUptoRow, standIns := [], harness := (true, "081781c4bb24b9383898314ada6bcf7fd01b4b3dafbee896d7ca1f7c502e6979"), looks := true }, kinds := [], alts := [], laidByText := true, laidKinds := [.sentinel, .sentinel], laidTests := true, laidLooks := .later }
def FnSysFewUptoCardSaid : Prop := Claim7.holds Tryz.pinned (.plain (OpenSpec.upto fnSysFewSpec)) fnSysFewUptoCard

/-- THE SECOND FORM's CARD OF 'laws.FnSysGone'. -/
def fnSysGoneUptoCard : Claim7 := { stood := { row := fnSysGoneUptoRow, standIns := [], harness := (true, "081781c4bb24b9383898314ada6bcf7fd01b4b3dafbee896d7ca1f7c502e6979"), looks := true }, kinds := [], alts := [], laidByText := true, laidKinds := [.sentinel, .sentinel], laidTests := true, laidLooks := .later }
def FnSysGoneUptoCardSaid : Prop := Claim7.holds Tryz.pinned (.plain (OpenSpec.upto fnSysGoneSpec)) fnSysGoneUptoCard

/-- THE SECOND FORM's CARD OF 'laws.FnSysTimes'. -/
def fnSysTimesUptoCard : Claim7 := { stood := { row := fnSysTimesUptoRow, standIns := [], harness := (true, "081781c4bb24b9383898314ada6bcf7fd01b4b3dafbee896d7ca1f7c502e6979"), looks := true }, kinds := [], alts := [], laidByText := true, laidKinds := [.sentinel, .sentinel], laidTests := true, laidLooks := .later }
def FnSysTimesUptoCardSaid : Prop := Claim7.holds Tryz.pinned (.plain (OpenSpec.upto fnSysTimesSpec)) fnSysTimesUptoCard

/-- THE SECOND FORM's CARD OF 'laws.FnSysStepReady'. -/
def fnSysStepReadyUptoCard : Claim7 := { stood := { row := fnSysStepReadyUptoRow, standIns := [], harness := (true, "081781c4bb24b9383898314ada6bcf7fd01b4b3dafbee896d7ca1f7c502e6979"), looks := true }, kinds := [], alts := [], laidByText := true, laidKinds := [.sentinel, .sentinel], laidTests := true, laidLooks := .later }
def FnSysStepReadyUptoCardSaid : Prop := Claim7.holds Tryz.pinned (.plain (OpenSpec.upto fnSysStepReadySpec)) fnSysStepReadyUptoCard
end Rows
end Go.Proofs.YtclangliilnijaaGreatDoor
