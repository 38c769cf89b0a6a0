/-
  NARROWER THAN 'FOR EVERY INPUT', by the rows' own cells (each row's printed sentence says how): FnSysOver: ifaces, laid · FnSysAwait: ifaces, laid · FnSysReadyMain: ifaces, laid · FnSysEnd: ifaces, laid · FnSysBegin: ifaces, laid · FnSysCheck: ifaces, laid · FnSysAgain: ifaces, laid · FnSysFork: ifaces, laid · FnSysFew: ifaces, laid · FnSysGone: ifaces, laid · FnSysStepReady: ifaces, laid · FnSysLoad: ifaces, laid.
  DERIVED. THE GIVEN ROWS OF THIS SEAT. 12 by the template 'for every input the law returns true; each argument reads behind the call as it read before'; 0 by the template 'total and deterministic' (their statements: YteajdhhmkjblnaaGreatDoorTotals.lean).
  GIVEN WITH THE SEED: the statements are not yours to turn. If you find one false, say at which input.
  Laid BY PROGRAM, IN A SANDBOX (cutbox-rows.mjs): the forced cells as the released guide's own fill.sh prints them over the translation 61302689ccbb56ba… (all of the seat's roots in one cut). By AI agents, Wed Nov 11 2026. No macro, syntax, notation, axiom, sorry.
-/
import Derived.Test.YteajdhhmkjblnaaGreatDoorChecked
import GoSem.Claim
import GoSem.ClaimJoined
import GoSem.ClaimMapViews
import Derived.JoinedTies
import Derived.KernelRfl
namespace Go.Proofs.YteajdhhmkjblnaaGreatDoor
/- THE CELL 'sum', in the pinned program and in every row, IS THE sha256 OF THE DUMP (.gsa) THAT YteajdhhmkjblnaaGreatDoorProg.lean LOADS. Nothing in Lean hashes anything: it is a label: what it is worth is what the hold of that sum in a sandbox is worth. -/
noncomputable def Tryz.pinned : Pinned := { name := "yteajdhhmkjblnaagreatdoor", sum := "61302689ccbb56baabfe6da36a33b7b2745e05dedf04b9868632b4f94538b0c9", checked := Tryz.checked }
namespace Rows
def none {H : Type} : Left H := { results := [], args := [] }

/- WHAT THE LISTED PACKAGE-LEVEL VARIABLES READ AS WHEN THE CALL BEGINS. Each datum BY PROGRAM (the guide's laid-datum.mjs) off the statement by which the dump's own 'gosem.cut.vars' lays the variable. In a bare row this is a premise. The card (YteajdhhmkjblnaaGreatDoorCards.lean) ties it to the program's text. -/
def laid_loop_example_equerry_impl_errSys {H : Type} : DataW H := .iface "*errors.errorString" (.ptr (.agg [.lit (.string [116, 104, 105, 115, 32, 105, 115, 32, 110, 111, 32, 115, 121, 115, 116, 101, 109, 32, 111, 102, 32, 116, 104, 101, 32, 112, 114, 111, 103, 114, 97, 109])]))
def laid_loop_example_equerry_impl_errTurn {H : Type} : DataW H := .iface "*errors.errorString" (.ptr (.agg [.lit (.string [116, 104, 101, 32, 116, 97, 115, 107, 32, 105, 115, 32, 110, 111, 116, 32, 114, 101, 97, 100, 121])]))

/-- 'laws.FnSysOver': WHATEVER THE INPUT: true; the input reads as it did. -/
def fnSysOverSpec : ChangeSpec := { name := "fnSysOver", vars := ["loop.example/equerry/impl.errSys"], fn := fun _ => fun
  | [d, g1] => { results := [.lit (.bool true)], args := [d], vars := [g1] }
  | _ => none }
def fnSysOverRow : OpenClaim := { program := "yteajdhhmkjblnaagreatdoor", sum := "61302689ccbb56baabfe6da36a33b7b2745e05dedf04b9868632b4f94538b0c9", func := "loop.example/equerry/laws.FnSysOver", spec := "fnSysOver", inPlace := ["internal/reflectlite.TypeOf"], unfollowed := true, recurses := true, named := ["loop.example/equerry/impl.errSys"], ifaces := true, apart := false, laid := [("loop.example/equerry/impl.errSys", laid_loop_example_equerry_impl_errSys)] }
def FnSysOverSaid : Prop := fnSysOverRow.holds Tryz.pinned (OpenSpec.ofChange fnSysOverSpec)

/-- ITS FALSE NEIGHBOUR: 'it returns false'. Refute it at one input. -/
def fnSysOverWrong : ChangeSpec := { name := "fnSysOver", vars := ["loop.example/equerry/impl.errSys"], fn := fun _ => fun
  | [d, g1] => { results := [.lit (.bool false)], args := [d], vars := [g1] }
  | _ => none }
def FnSysOverWrongFalsely : Prop := fnSysOverRow.holds Tryz.pinned (OpenSpec.ofChange fnSysOverWrong)

/-- 'laws.FnSysAwait': WHATEVER THE INPUT: true; the input reads as it did. -/
def fnSysAwaitSpec : ChangeSpec := { name := "fnSysAwait", vars := ["loop.example/equerry/impl.errSys"], fn := fun _ => fun
  | [d, g1] => { results := [.lit (.bool true)], args := [d], vars := [g1] }
  | _ => none }
def fnSysAwaitRow : OpenClaim := { program := "yteajdhhmkjblnaagreatdoor", sum := "61302689ccbb56baabfe6da36a33b7b2745e05dedf04b9868632b4f94538b0c9", func := "loop.example/equerry/laws.FnSysAwait", spec := "fnSysAwait", inPlace := ["internal/reflectlite.TypeOf"], unfollowed := true, recurses := true, named := ["loop.example/equerry/impl.errSys"], ifaces := true, apart := false, laid := [("loop.example/equerry/impl.errSys", laid_loop_example_equerry_impl_errSys)] }
def FnSysAwaitSaid : Prop := fnSysAwaitRow.holds Tryz.pinned (OpenSpec.ofChange fnSysAwaitSpec)

/-- ITS FALSE NEIGHBOUR: 'it returns false'. Refute it at one input. -/
def fnSysAwaitWrong : ChangeSpec := { name := "fnSysAwait", vars := ["loop.example/equerry/impl.errSys"], fn := fun _ => fun
  | [d, g1] => { results := [.lit (.bool false)], args := [d], vars := [g1] }
  | _ => none }
def FnSysAwaitWrongFalsely : Prop := fnSysAwaitRow.holds Tryz.pinned (OpenSpec.ofChange fnSysAwaitWrong)

/-- 'laws.FnSysReadyMain': WHATEVER THE INPUT: true; the input reads as it did. -/
def fnSysReadyMainSpec : ChangeSpec := { name := "fnSysReadyMain", vars := ["loop.example/equerry/impl.errSys"], fn := fun _ => fun
  | [d, g1] => { results := [.lit (.bool true)], args := [d], vars := [g1] }
  | _ => none }
def fnSysReadyMainRow : OpenClaim := { program := "yteajdhhmkjblnaagreatdoor", sum := "61302689ccbb56baabfe6da36a33b7b2745e05dedf04b9868632b4f94538b0c9", func := "loop.example/equerry/laws.FnSysReadyMain", spec := "fnSysReadyMain", recurses := true, named := ["loop.example/equerry/impl.errSys"], ifaces := true, apart := false, laid := [("loop.example/equerry/impl.errSys", laid_loop_example_equerry_impl_errSys)] }
def FnSysReadyMainSaid : Prop := fnSysReadyMainRow.holds Tryz.pinned (OpenSpec.ofChange fnSysReadyMainSpec)

/-- ITS FALSE NEIGHBOUR: 'it returns false'. Refute it at one input. -/
def fnSysReadyMainWrong : ChangeSpec := { name := "fnSysReadyMain", vars := ["loop.example/equerry/impl.errSys"], fn := fun _ => fun
  | [d, g1] => { results := [.lit (.bool false)], args := [d], vars := [g1] }
  | _ => none }
def FnSysReadyMainWrongFalsely : Prop := fnSysReadyMainRow.holds Tryz.pinned (OpenSpec.ofChange fnSysReadyMainWrong)

/-- 'laws.FnSysEnd': WHATEVER THE INPUT: true; the input reads as it did. -/
def fnSysEndSpec : ChangeSpec := { name := "fnSysEnd", vars := ["loop.example/equerry/impl.errSys", "loop.example/equerry/impl.errTurn"], fn := fun _ => fun
  | [d, g1, g2] => { results := [.lit (.bool true)], args := [d], vars := [g1, g2] }
  | _ => none }
def fnSysEndRow : OpenClaim := { program := "yteajdhhmkjblnaagreatdoor", sum := "61302689ccbb56baabfe6da36a33b7b2745e05dedf04b9868632b4f94538b0c9", func := "loop.example/equerry/laws.FnSysEnd", spec := "fnSysEnd", inPlace := ["slices.overlaps[loop.example/equerry/impl.Put]", "internal/reflectlite.TypeOf"], unfollowed := true, recurses := true, named := ["loop.example/equerry/impl.errSys", "loop.example/equerry/impl.errTurn"], ifaces := true, apart := false, laid := [("loop.example/equerry/impl.errSys", laid_loop_example_equerry_impl_errSys), ("loop.example/equerry/impl.errTurn", laid_loop_example_equerry_impl_errTurn)] }
def FnSysEndSaid : Prop := fnSysEndRow.holds Tryz.pinned (OpenSpec.ofChange fnSysEndSpec)

/-- ITS FALSE NEIGHBOUR: 'it returns false'. Refute it at one input. -/
def fnSysEndWrong : ChangeSpec := { name := "fnSysEnd", vars := ["loop.example/equerry/impl.errSys", "loop.example/equerry/impl.errTurn"], fn := fun _ => fun
  | [d, g1, g2] => { results := [.lit (.bool false)], args := [d], vars := [g1, g2] }
  | _ => none }
def FnSysEndWrongFalsely : Prop := fnSysEndRow.holds Tryz.pinned (OpenSpec.ofChange fnSysEndWrong)

/-- 'laws.FnSysBegin': WHATEVER THE INPUT: true; the input reads as it did. -/
def fnSysBeginSpec : ChangeSpec := { name := "fnSysBegin", vars := ["loop.example/equerry/impl.errSys", "loop.example/equerry/impl.errTurn"], fn := fun _ => fun
  | [d, g1, g2] => { results := [.lit (.bool true)], args := [d], vars := [g1, g2] }
  | _ => none }
def fnSysBeginRow : OpenClaim := { program := "yteajdhhmkjblnaagreatdoor", sum := "61302689ccbb56baabfe6da36a33b7b2745e05dedf04b9868632b4f94538b0c9", func := "loop.example/equerry/laws.FnSysBegin", spec := "fnSysBegin", inPlace := ["slices.overlaps[loop.example/equerry/impl.Put]", "internal/reflectlite.TypeOf"], unfollowed := true, recurses := true, named := ["loop.example/equerry/impl.errSys", "loop.example/equerry/impl.errTurn"], ifaces := true, apart := false, laid := [("loop.example/equerry/impl.errSys", laid_loop_example_equerry_impl_errSys), ("loop.example/equerry/impl.errTurn", laid_loop_example_equerry_impl_errTurn)] }
def FnSysBeginSaid : Prop := fnSysBeginRow.holds Tryz.pinned (OpenSpec.ofChange fnSysBeginSpec)

/-- ITS FALSE NEIGHBOUR: 'it returns false'. Refute it at one input. -/
def fnSysBeginWrong : ChangeSpec := { name := "fnSysBegin", vars := ["loop.example/equerry/impl.errSys", "loop.example/equerry/impl.errTurn"], fn := fun _ => fun
  | [d, g1, g2] => { results := [.lit (.bool false)], args := [d], vars := [g1, g2] }
  | _ => none }
def FnSysBeginWrongFalsely : Prop := fnSysBeginRow.holds Tryz.pinned (OpenSpec.ofChange fnSysBeginWrong)

/-- 'laws.FnSysCheck': WHATEVER THE INPUT: true; the input reads as it did. -/
def fnSysCheckSpec : ChangeSpec := { name := "fnSysCheck", vars := ["loop.example/equerry/impl.errSys", "loop.example/equerry/impl.errTurn"], fn := fun _ => fun
  | [d, g1, g2] => { results := [.lit (.bool true)], args := [d], vars := [g1, g2] }
  | _ => none }
def fnSysCheckRow : OpenClaim := { program := "yteajdhhmkjblnaagreatdoor", sum := "61302689ccbb56baabfe6da36a33b7b2745e05dedf04b9868632b4f94538b0c9", func := "loop.example/equerry/laws.FnSysCheck", spec := "fnSysCheck", inPlace := ["slices.overlaps[loop.example/equerry/impl.Put]", "internal/reflectlite.TypeOf"], unfollowed := true, recurses := true, named := ["loop.example/equerry/impl.errSys", "loop.example/equerry/impl.errTurn"], ifaces := true, apart := false, laid := [("loop.example/equerry/impl.errSys", laid_loop_example_equerry_impl_errSys), ("loop.example/equerry/impl.errTurn", laid_loop_example_equerry_impl_errTurn)] }
def FnSysCheckSaid : Prop := fnSysCheckRow.holds Tryz.pinned (OpenSpec.ofChange fnSysCheckSpec)

/-- ITS FALSE NEIGHBOUR: 'it returns false'. Refute it at one input. -/
def fnSysCheckWrong : ChangeSpec := { name := "fnSysCheck", vars := ["loop.example/equerry/impl.errSys", "loop.example/equerry/impl.errTurn"], fn := fun _ => fun
  | [d, g1, g2] => { results := [.lit (.bool false)], args := [d], vars := [g1, g2] }
  | _ => none }
def FnSysCheckWrongFalsely : Prop := fnSysCheckRow.holds Tryz.pinned (OpenSpec.ofChange fnSysCheckWrong)

/-- 'laws.FnSysAgain': WHATEVER THE INPUT: true; the input reads as it did. -/
def fnSysAgainSpec : ChangeSpec := { name := "fnSysAgain", vars := ["loop.example/equerry/impl.errSys", "loop.example/equerry/impl.errTurn"], fn := fun _ => fun
  | [d, g1, g2] => { results := [.lit (.bool true)], args := [d], vars := [g1, g2] }
  | _ => none }
def fnSysAgainRow : OpenClaim := { program := "yteajdhhmkjblnaagreatdoor", sum := "61302689ccbb56baabfe6da36a33b7b2745e05dedf04b9868632b4f94538b0c9", func := "loop.example/equerry/laws.FnSysAgain", spec := "fnSysAgain", inPlace := ["slices.overlaps[loop.example/equerry/impl.Put]", "internal/reflectlite.TypeOf"], unfollowed := true, recurses := true, named := ["loop.example/equerry/impl.errSys", "loop.example/equerry/impl.errTurn"], ifaces := true, apart := false, laid := [("loop.example/equerry/impl.errSys", laid_loop_example_equerry_impl_errSys), ("loop.example/equerry/impl.errTurn", laid_loop_example_equerry_impl_errTurn)] }
def FnSysAgainSaid : Prop := fnSysAgainRow.holds Tryz.pinned (OpenSpec.ofChange fnSysAgainSpec)

/-- ITS FALSE NEIGHBOUR: 'it returns false'. Refute it at one input. -/
def fnSysAgainWrong : ChangeSpec := { name := "fnSysAgain", vars := ["loop.example/equerry/impl.errSys", "loop.example/equerry/impl.errTurn"], fn := fun _ => fun
  | [d, g1, g2] => { results := [.lit (.bool false)], args := [d], vars := [g1, g2] }
  | _ => none }
def FnSysAgainWrongFalsely : Prop := fnSysAgainRow.holds Tryz.pinned (OpenSpec.ofChange fnSysAgainWrong)

/-- 'laws.FnSysFork': WHATEVER THE INPUT: true; the input reads as it did. -/
def fnSysForkSpec : ChangeSpec := { name := "fnSysFork", vars := ["loop.example/equerry/impl.errSys", "loop.example/equerry/impl.errTurn"], fn := fun _ => fun
  | [d, g1, g2] => { results := [.lit (.bool true)], args := [d], vars := [g1, g2] }
  | _ => none }
def fnSysForkRow : OpenClaim := { program := "yteajdhhmkjblnaagreatdoor", sum := "61302689ccbb56baabfe6da36a33b7b2745e05dedf04b9868632b4f94538b0c9", func := "loop.example/equerry/laws.FnSysFork", spec := "fnSysFork", inPlace := ["slices.overlaps[loop.example/equerry/impl.Put]", "internal/reflectlite.TypeOf"], unfollowed := true, recurses := true, named := ["loop.example/equerry/impl.errSys", "loop.example/equerry/impl.errTurn"], ifaces := true, apart := false, laid := [("loop.example/equerry/impl.errSys", laid_loop_example_equerry_impl_errSys), ("loop.example/equerry/impl.errTurn", laid_loop_example_equerry_impl_errTurn)] }
def FnSysForkSaid : Prop := fnSysForkRow.holds Tryz.pinned (OpenSpec.ofChange fnSysForkSpec)

/-- ITS FALSE NEIGHBOUR: 'it returns false'. Refute it at one input. -/
def fnSysForkWrong : ChangeSpec := { name := "fnSysFork", vars := ["loop.example/equerry/impl.errSys", "loop.example/equerry/impl.errTurn"], fn := fun _ => fun
  | [d, g1, g2] => { results := [.lit (.bool false)], args := [d], vars := [g1, g2] }
  | _ => none }
def FnSysForkWrongFalsely : Prop := fnSysForkRow.holds Tryz.pinned (OpenSpec.ofChange fnSysForkWrong)

/-- 'laws.FnSysFew': WHATEVER THE INPUT: true; the input reads as it did. -/
def fnSysFewSpec : ChangeSpec := { name := "fnSysFew", vars := ["loop.example/equerry/impl.errSys", "loop.example/equerry/impl.errTurn"], fn := fun _ => fun
  | [d, g1, g2] => { results := [.lit (.bool true)], args := [d], vars := [g1, g2] }
  | _ => none }
def fnSysFewRow : OpenClaim := { program := "yteajdhhmkjblnaagreatdoor", sum := "61302689ccbb56baabfe6da36a33b7b2745e05dedf04b9868632b4f94538b0c9", func := "loop.example/equerry/laws.FnSysFew", spec := "fnSysFew", inPlace := ["internal/reflectlite.TypeOf", "slices.overlaps[loop.example/equerry/impl.Put]"], unfollowed := true, recurses := true, named := ["loop.example/equerry/impl.errSys", "loop.example/equerry/impl.errTurn"], ifaces := true, apart := false, laid := [("loop.example/equerry/impl.errSys", laid_loop_example_equerry_impl_errSys), ("loop.example/equerry/impl.errTurn", laid_loop_example_equerry_impl_errTurn)] }
def FnSysFewSaid : Prop := fnSysFewRow.holds Tryz.pinned (OpenSpec.ofChange fnSysFewSpec)

/-- ITS FALSE NEIGHBOUR: 'it returns false'. Refute it at one input. -/
def fnSysFewWrong : ChangeSpec := { name := "fnSysFew", vars := ["loop.example/equerry/impl.errSys", "loop.example/equerry/impl.errTurn"], fn := fun _ => fun
  | [d, g1, g2] => { results := [.lit (.bool false)], args := [d], vars := [g1, g2] }
  | _ => none }
def FnSysFewWrongFalsely : Prop := fnSysFewRow.holds Tryz.pinned (OpenSpec.ofChange fnSysFewWrong)

/-- 'laws.FnSysGone': WHATEVER THE INPUT: true; the input reads as it did. -/
def fnSysGoneSpec : ChangeSpec := { name := "fnSysGone", vars := ["loop.example/equerry/impl.errSys", "loop.example/equerry/impl.errTurn"], fn := fun _ => fun
  | [d, g1, g2] => { results := [.lit (.bool true)], args := [d], vars := [g1, g2] }
  | _ => none }
def fnSysGoneRow : OpenClaim := { program := "yteajdhhmkjblnaagreatdoor", sum := "61302689ccbb56baabfe6da36a33b7b2745e05dedf04b9868632b4f94538b0c9", func := "loop.example/equerry/laws.FnSysGone", spec := "fnSysGone", inPlace := ["internal/reflectlite.TypeOf", "slices.overlaps[loop.example/equerry/impl.Put]"], unfollowed := true, recurses := true, named := ["loop.example/equerry/impl.errSys", "loop.example/equerry/impl.errTurn"], ifaces := true, apart := false, laid := [("loop.example/equerry/impl.errSys", laid_loop_example_equerry_impl_errSys), ("loop.example/equerry/impl.errTurn", laid_loop_example_equerry_impl_errTurn)] }
def FnSysGoneSaid : Prop := fnSysGoneRow.holds Tryz.pinned (OpenSpec.ofChange fnSysGoneSpec)

/-- ITS FALSE NEIGHBOUR: 'it returns false'. Refute it at one input. -/
def fnSysGoneWrong : ChangeSpec := { name := "fnSysGone", vars := ["loop.example/equerry/impl.errSys", "loop.example/equerry/impl.errTurn"], fn := fun _ => fun
  | [d, g1, g2] => { results := [.lit (.bool false)], args := [d], vars := [g1, g2] }
  | _ => none }
def FnSysGoneWrongFalsely : Prop := fnSysGoneRow.holds Tryz.pinned (OpenSpec.ofChange fnSysGoneWrong)

/-- 'laws.FnSysStepReady': WHATEVER THE INPUT: true; the input reads as it did. -/
def fnSysStepReadySpec : ChangeSpec := { name := "fnSysStepReady", vars := ["loop.example/equerry/impl.errSys", "loop.example/equerry/impl.errTurn"], fn := fun _ => fun
  | [d, g1, g2] => { results := [.lit (.bool true)], args := [d], vars := [g1, g2] }
  | _ => none }
def fnSysStepReadyRow : OpenClaim := { program := "yteajdhhmkjblnaagreatdoor", sum := "61302689ccbb56baabfe6da36a33b7b2745e05dedf04b9868632b4f94538b0c9", func := "loop.example/equerry/laws.FnSysStepReady", spec := "fnSysStepReady", inPlace := ["internal/reflectlite.TypeOf", "slices.overlaps[loop.example/equerry/impl.Put]"], unfollowed := true, recurses := true, named := ["loop.example/equerry/impl.errSys", "loop.example/equerry/impl.errTurn"], ifaces := true, apart := false, laid := [("loop.example/equerry/impl.errSys", laid_loop_example_equerry_impl_errSys), ("loop.example/equerry/impl.errTurn", laid_loop_example_equerry_impl_errTurn)] }
def FnSysStepReadySaid : Prop := fnSysStepReadyRow.holds Tryz.pinned (OpenSpec.ofChange fnSysStepReadySpec)

/-- ITS FALSE NEIGHBOUR: 'it returns false'. Refute it at one input. -/
def fnSysStepReadyWrong : ChangeSpec := { name := "fnSysStepReady", vars := ["loop.example/equerry/impl.errSys", "loop.example/equerry/impl.errTurn"], fn := fun _ => fun
  | [d, g1, g2] => { results := [.lit (.bool false)], args := [d], vars := [g1, g2] }
  | _ => none }
def FnSysStepReadyWrongFalsely : Prop := fnSysStepReadyRow.holds Tryz.pinned (OpenSpec.ofChange fnSysStepReadyWrong)

/-- 'laws.FnSysLoad': WHATEVER THE INPUT: true; the input reads as it did. -/
def fnSysLoadSpec : ChangeSpec := { name := "fnSysLoad", vars := ["loop.example/equerry/impl.errSys", "loop.example/equerry/impl.errTurn"], fn := fun _ => fun
  | [d, g1, g2] => { results := [.lit (.bool true)], args := [d], vars := [g1, g2] }
  | _ => none }
def fnSysLoadRow : OpenClaim := { program := "yteajdhhmkjblnaagreatdoor", sum := "61302689ccbb56baabfe6da36a33b7b2745e05dedf04b9868632b4f94538b0c9", func := "loop.example/equerry/laws.FnSysLoad", spec := "fnSysLoad", inPlace := ["slices.overlaps[loop.example/equerry/impl.Put]", "internal/reflectlite.TypeOf"], unfollowed := true, recurses := true, named := ["loop.example/equerry/impl.errSys", "loop.example/equerry/impl.errTurn"], ifaces := true, apart := false, laid := [("loop.example/equerry/impl.errSys", laid_loop_example_equerry_impl_errSys), ("loop.example/equerry/impl.errTurn", laid_loop_example_equerry_impl_errTurn)] }
def FnSysLoadSaid : Prop := fnSysLoadRow.holds Tryz.pinned (OpenSpec.ofChange fnSysLoadSpec)

/-- ITS FALSE NEIGHBOUR: 'it returns false'. Refute it at one input. -/
def fnSysLoadWrong : ChangeSpec := { name := "fnSysLoad", vars := ["loop.example/equerry/impl.errSys", "loop.example/equerry/impl.errTurn"], fn := fun _ => fun
  | [d, g1, g2] => { results := [.lit (.bool false)], args := [d], vars := [g1, g2] }
  | _ => none }
def FnSysLoadWrongFalsely : Prop := fnSysLoadRow.holds Tryz.pinned (OpenSpec.ofChange fnSysLoadWrong)

/- THE SECOND FORM. 'bulk': how many values and letters a reading holds, each counted each time it is reached (what is shared counts as often as it is met; a slice's spare places count too). A statement '..UptoSaid' is the law's where the arguments, and the package variables that the reading takes, are together of bulk at most 1048576: NARROWER than '..Said'. Prove '..Said' where nothing that the law and all that it calls make is longer than what came in: it says more and counts as full. Else prove '..UptoSaid'. A law counts once. -/
mutual
def uptoBulk {H : Type} : DataW H → Nat
  | .lit (.string bytes) => bytes.length + 1
  | .lit _ => 1
  | .nil => 1
  | .ptr d => uptoBulk d + 1
  | .slice elems spare => uptoBulkAll elems + uptoBulkAll spare + 1
  | .agg parts => uptoBulkAll parts + 1
  | .iface _ d => uptoBulk d + 1
  | .map entries => uptoBulkEntries entries + 1
  | .held _ => 1
def uptoBulkAll {H : Type} : List (DataW H) → Nat
  | [] => 0
  | d :: r => uptoBulk d + uptoBulkAll r
def uptoBulkEntries {H : Type} : List (Lit × DataW H) → Nat
  | [] => 0
  | x :: r => uptoBulkEntry x + uptoBulkEntries r
def uptoBulkEntry {H : Type} : Lit × DataW H → Nat
  | (.string bytes, d) => bytes.length + uptoBulk d + 1
  | (_, d) => uptoBulk d + 1
 end
def uptoSmall : (H : Type) → List (DataW H) → Bool := fun _ ds => decide (uptoBulkAll ds ≤ 1048576)
def OpenSpec.upto (s : _root_.Go.ChangeSpec) : _root_.Go.OpenSpec := { _root_.Go.OpenSpec.ofChange s with cond := some uptoSmall }

/-- 'laws.FnSysOver', WHERE WHAT IT READS IS OF BULK AT MOST 1048576: true; the input reads as it did. -/
def fnSysOverUptoRow : OpenClaim := { program := "yteajdhhmkjblnaagreatdoor", sum := "61302689ccbb56baabfe6da36a33b7b2745e05dedf04b9868632b4f94538b0c9", func := "loop.example/equerry/laws.FnSysOver", spec := "fnSysOver", inPlace := ["internal/reflectlite.TypeOf"], unfollowed := true, recurses := true, named := ["loop.example/equerry/impl.errSys"], ifaces := true, apart := false, laid := [("loop.example/equerry/impl.errSys", laid_loop_example_equerry_impl_errSys)], narrowed := true }
def FnSysOverUptoSaid : Prop := fnSysOverUptoRow.holds Tryz.pinned (OpenSpec.upto fnSysOverSpec)

/-- 'laws.FnSysAwait', WHERE WHAT IT READS IS OF BULK AT MOST 1048576: true; the input reads as it did. -/
def fnSysAwaitUptoRow : OpenClaim := { program := "yteajdhhmkjblnaagreatdoor", sum := "61302689ccbb56baabfe6da36a33b7b2745e05dedf04b9868632b4f94538b0c9", func := "loop.example/equerry/laws.FnSysAwait", spec := "fnSysAwait", inPlace := ["internal/reflectlite.TypeOf"], unfollowed := true, recurses := true, named := ["loop.example/equerry/impl.errSys"], ifaces := true, apart := false, laid := [("loop.example/equerry/impl.errSys", laid_loop_example_equerry_impl_errSys)], narrowed := true }
def FnSysAwaitUptoSaid : Prop := fnSysAwaitUptoRow.holds Tryz.pinned (OpenSpec.upto fnSysAwaitSpec)

/-- 'laws.FnSysReadyMain', WHERE WHAT IT READS IS OF BULK AT MOST 1048576: true; the input reads as it did. -/
def fnSysReadyMainUptoRow : OpenClaim := { program := "yteajdhhmkjblnaagreatdoor", sum := "61302689ccbb56baabfe6da36a33b7b2745e05dedf04b9868632b4f94538b0c9", func := "loop.example/equerry/laws.FnSysReadyMain", spec := "fnSysReadyMain", recurses := true, named := ["loop.example/equerry/impl.errSys"], ifaces := true, apart := false, laid := [("loop.example/equerry/impl.errSys", laid_loop_example_equerry_impl_errSys)], narrowed := true }
def FnSysReadyMainUptoSaid : Prop := fnSysReadyMainUptoRow.holds Tryz.pinned (OpenSpec.upto fnSysReadyMainSpec)

/-- 'laws.FnSysEnd', WHERE WHAT IT READS IS OF BULK AT MOST 1048576: true; the input reads as it did. -/
def fnSysEndUptoRow : OpenClaim := { program := "yteajdhhmkjblnaagreatdoor", sum := "61302689ccbb56baabfe6da36a33b7b2745e05dedf04b9868632b4f94538b0c9", func := "loop.example/equerry/laws.FnSysEnd", spec := "fnSysEnd", inPlace := ["slices.overlaps[loop.example/equerry/impl.Put]", "internal/reflectlite.TypeOf"], unfollowed := true, recurses := true, named := ["loop.example/equerry/impl.errSys", "loop.example/equerry/impl.errTurn"], ifaces := true, apart := false, laid := [("loop.example/equerry/impl.errSys", laid_loop_example_equerry_impl_errSys), ("loop.example/equerry/impl.errTurn", laid_loop_example_equerry_impl_errTurn)], narrowed := true }
def FnSysEndUptoSaid : Prop := fnSysEndUptoRow.holds Tryz.pinned (OpenSpec.upto fnSysEndSpec)

/-- 'laws.FnSysBegin', WHERE WHAT IT READS IS OF BULK AT MOST 1048576: true; the input reads as it did. -/
def fnSysBeginUptoRow : OpenClaim := { program := "yteajdhhmkjblnaagreatdoor", sum := "61302689ccbb56baabfe6da36a33b7b2745e05dedf04b9868632b4f94538b0c9", func := "loop.example/equerry/laws.FnSysBegin", spec := "fnSysBegin", inPlace := ["slices.overlaps[loop.example/equerry/impl.Put]", "internal/reflectlite.TypeOf"], unfollowed := true, recurses := true, named := ["loop.example/equerry/impl.errSys", "loop.example/equerry/impl.errTurn"], ifaces := true, apart := false, laid := [("loop.example/equerry/impl.errSys", laid_loop_example_equerry_impl_errSys), ("loop.example/equerry/impl.errTurn", laid_loop_example_equerry_impl_errTurn)], narrowed := true }
def FnSysBeginUptoSaid : Prop := fnSysBeginUptoRow.holds Tryz.pinned (OpenSpec.upto fnSysBeginSpec)

/-- 'laws.FnSysCheck', WHERE WHAT IT READS IS OF BULK AT MOST 1048576: true; the input reads as it did. -/
def fnSysCheckUptoRow : OpenClaim := { program := "yteajdhhmkjblnaagreatdoor", sum := "61302689ccbb56baabfe6da36a33b7b2745e05dedf04b9868632b4f94538b0c9", func := "loop.example/equerry/laws.FnSysCheck", spec := "fnSysCheck", inPlace := ["slices.overlaps[loop.example/equerry/impl.Put]", "internal/reflectlite.TypeOf"], unfollowed := true, recurses := true, named := ["loop.example/equerry/impl.errSys", "loop.example/equerry/impl.errTurn"], ifaces := true, apart := false, laid := [("loop.example/equerry/impl.errSys", laid_loop_example_equerry_impl_errSys), ("loop.example/equerry/impl.errTurn", laid_loop_example_equerry_impl_errTurn)], narrowed := true }
def FnSysCheckUptoSaid : Prop := fnSysCheckUptoRow.holds Tryz.pinned (OpenSpec.upto fnSysCheckSpec)

/-- 'laws.FnSysAgain', WHERE WHAT IT READS IS OF BULK AT MOST 1048576: true; the input reads as it did. -/
def fnSysAgainUptoRow : OpenClaim := { program := "yteajdhhmkjblnaagreatdoor", sum := "61302689ccbb56baabfe6da36a33b7b2745e05dedf04b9868632b4f94538b0c9", func := "loop.example/equerry/laws.FnSysAgain", spec := "fnSysAgain", inPlace := ["slices.overlaps[loop.example/equerry/impl.Put]", "internal/reflectlite.TypeOf"], unfollowed := true, recurses := true, named := ["loop.example/equerry/impl.errSys", "loop.example/equerry/impl.errTurn"], ifaces := true, apart := false, laid := [("loop.example/equerry/impl.errSys", laid_loop_example_equerry_impl_errSys), ("loop.example/equerry/impl.errTurn", laid_loop_example_equerry_impl_errTurn)], narrowed := true }
def FnSysAgainUptoSaid : Prop := fnSysAgainUptoRow.holds Tryz.pinned (OpenSpec.upto fnSysAgainSpec)

/-- 'laws.FnSysFork', WHERE WHAT IT READS IS OF BULK AT MOST 1048576: true; the input reads as it did. -/
def fnSysForkUptoRow : OpenClaim := { program := "yteajdhhmkjblnaagreatdoor", sum := "61302689ccbb56baabfe6da36a33b7b2745e05dedf04b9868632b4f94538b0c9", func := "loop.example/equerry/laws.FnSysFork", spec := "fnSysFork", inPlace := ["slices.overlaps[loop.example/equerry/impl.Put]", "internal/reflectlite.TypeOf"], unfollowed := true, recurses := true, named := ["loop.example/equerry/impl.errSys", "loop.example/equerry/impl.errTurn"], ifaces := true, apart := false, laid := [("loop.example/equerry/impl.errSys", laid_loop_example_equerry_impl_errSys), ("loop.example/equerry/impl.errTurn", laid_loop_example_equerry_impl_errTurn)], narrowed := true }
def FnSysForkUptoSaid : Prop := fnSysForkUptoRow.holds Tryz.pinned (OpenSpec.upto fnSysForkSpec)

/-- 'laws.FnSysFew', WHERE WHAT IT READS IS OF BULK AT MOST 1048576: true; the input reads as it did. -/
def fnSysFewUptoRow : OpenClaim := { program := "yteajdhhmkjblnaagreatdoor", sum := "61302689ccbb56baabfe6da36a33b7b2745e05dedf04b9868632b4f94538b0c9", func := "loop.example/equerry/laws.FnSysFew", spec := "fnSysFew", inPlace := ["internal/reflectlite.TypeOf", "slices.overlaps[loop.example/equerry/impl.Put]"], unfollowed := true, recurses := true, named := ["loop.example/equerry/impl.errSys", "loop.example/equerry/impl.errTurn"], ifaces := true, apart := false, laid := [("loop.example/equerry/impl.errSys", laid_loop_example_equerry_impl_errSys), ("loop.example/equerry/impl.errTurn", laid_loop_example_equerry_impl_errTurn)], narrowed := true }
def FnSysFewUptoSaid : Prop := fnSysFewUptoRow.holds Tryz.pinned (OpenSpec.upto fnSysFewSpec)

/-- 'laws.FnSysGone', WHERE WHAT IT READS IS OF BULK AT MOST 1048576: true; the input reads as it did. -/
def fnSysGoneUptoRow : OpenClaim := { program := "yteajdhhmkjblnaagreatdoor", sum := "61302689ccbb56baabfe6da36a33b7b2745e05dedf04b9868632b4f94538b0c9", func := "loop.example/equerry/laws.FnSysGone", spec := "fnSysGone", inPlace := ["internal/reflectlite.TypeOf", "slices.overlaps[loop.example/equerry/impl.Put]"], unfollowed := true, recurses := true, named := ["loop.example/equerry/impl.errSys", "loop.example/equerry/impl.errTurn"], ifaces := true, apart := false, laid := [("loop.example/equerry/impl.errSys", laid_loop_example_equerry_impl_errSys), ("loop.example/equerry/impl.errTurn", laid_loop_example_equerry_impl_errTurn)], narrowed := true }
def FnSysGoneUptoSaid : Prop := fnSysGoneUptoRow.holds Tryz.pinned (OpenSpec.upto fnSysGoneSpec)

/-- 'laws.FnSysStepReady', WHERE WHAT IT READS IS OF BULK AT MOST 1048576: true; the input reads as it did. -/
def fnSysStepReadyUptoRow : OpenClaim := { program := "yteajdhhmkjblnaagreatdoor", sum := "61302689ccbb56baabfe6da36a33b7b2745e05dedf04b9868632b4f94538b0c9", func := "loop.example/equerry/laws.FnSysStepReady", spec := "fnSysStepReady", inPlace := ["internal/reflectlite.TypeOf", "slices.overlaps[loop.example/equerry/impl.Put]"], unfollowed := true, recurses := true, named := ["loop.example/equerry/impl.errSys", "loop.example/equerry/impl.errTurn"], ifaces := true, apart := false, laid := [("loop.example/equerry/impl.errSys", laid_loop_example_equerry_impl_errSys), ("loop.example/equerry/impl.errTurn", laid_loop_example_equerry_impl_errTurn)], narrowed := true }
def FnSysStepReadyUptoSaid : Prop := fnSysStepReadyUptoRow.holds Tryz.pinned (OpenSpec.upto fnSysStepReadySpec)

/-- 'laws.FnSysLoad', WHERE WHAT IT READS IS OF BULK AT MOST 1048576: true; the input reads as it did. -/
def fnSysLoadUptoRow : OpenClaim := { program := "yteajdhhmkjblnaagreatdoor", sum := "61302689ccbb56baabfe6da36a33b7b2745e05dedf04b9868632b4f94538b0c9", func := "loop.example/equerry/laws.FnSysLoad", spec := "fnSysLoad", inPlace := ["slices.overlaps[loop.example/equerry/impl.Put]", "internal/reflectlite.TypeOf"], unfollowed := true, recurses := true, named := ["loop.example/equerry/impl.errSys", "loop.example/equerry/impl.errTurn"], ifaces := true, apart := false, laid := [("loop.example/equerry/impl.errSys", laid_loop_example_equerry_impl_errSys), ("loop.example/equerry/impl.errTurn", laid_loop_example_equerry_impl_errTurn)], narrowed := true }
def FnSysLoadUptoSaid : Prop := fnSysLoadUptoRow.holds Tryz.pinned (OpenSpec.upto fnSysLoadSpec)

end Rows
end Go.Proofs.YteajdhhmkjblnaaGreatDoor
