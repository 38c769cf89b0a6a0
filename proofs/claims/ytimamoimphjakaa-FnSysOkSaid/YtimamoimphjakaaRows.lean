/-
  No cell of these rows narrows 'for every input' (looked for: loops, veiled, ifaces, maps, wideKeys, modest, calm, conditions, laid).
  DERIVED. THE GIVEN ROWS OF THIS SEAT. 12 by the template 'for every input the law returns true; each argument reads behind the call as it read before'; 0 by the template 'total and deterministic' (their statements: YtimamoimphjakaaTotals.lean).
  GIVEN WITH THE SEED: the statements are not yours to turn. If you find one false, say at which input.
  Laid BY PROGRAM, IN A SANDBOX (cutbox-rows.mjs): the forced cells as the released guide's own fill.sh prints them over the translation cb6710e45c97c1c7… (all of the seat's roots in one cut). By AI agents, Wed Nov 11 2026. No macro, syntax, notation, axiom, sorry.
-/
import Derived.Test.YtimamoimphjakaaChecked
import GoSem.Claim
import GoSem.ClaimJoined
import GoSem.ClaimMapViews
import Derived.JoinedTies
import Derived.KernelRfl
namespace Go.Proofs.Ytimamoimphjakaa
/- THE CELL 'sum', in the pinned program and in every row, IS THE sha256 OF THE DUMP (.gsa) THAT YtimamoimphjakaaProg.lean LOADS. Nothing in Lean hashes anything: it is a label: what it is worth is what the hold of that sum in a sandbox is worth. -/
noncomputable def Try.pinned : Pinned := { name := "ytimamoimphjakaa", sum := "cb6710e45c97c1c7f411294d6c0ff4ad2c49a94caac19d0bb8b7d2ac1371bddc", checked := Try.checked }
namespace Rows
def none {H : Type} : Left H := { results := [], args := [] }

/-- 'laws.FnSysWays': WHATEVER THE INPUT: true; the input reads as it did. -/
def fnSysWaysSpec : ChangeSpec := { name := "fnSysWays", fn := fun _ => fun
  | [d] => { results := [.lit (.bool true)], args := [d] }
  | _ => none }
def fnSysWaysRow : OpenClaim := { program := "ytimamoimphjakaa", sum := "cb6710e45c97c1c7f411294d6c0ff4ad2c49a94caac19d0bb8b7d2ac1371bddc", func := "loop.example/equerry/laws.FnSysWays", spec := "fnSysWays", recurses := true, apart := false }
def FnSysWaysSaid : Prop := fnSysWaysRow.holds Try.pinned (OpenSpec.ofChange fnSysWaysSpec)

/-- ITS FALSE NEIGHBOUR: 'it returns false'. Refute it at one input. -/
def fnSysWaysWrong : ChangeSpec := { name := "fnSysWays", fn := fun _ => fun
  | [d] => { results := [.lit (.bool false)], args := [d] }
  | _ => none }
def FnSysWaysWrongFalsely : Prop := fnSysWaysRow.holds Try.pinned (OpenSpec.ofChange fnSysWaysWrong)

/-- 'laws.FnTreeUnder': WHATEVER THE INPUT: true; the input reads as it did. -/
def fnTreeUnderSpec : ChangeSpec := { name := "fnTreeUnder", fn := fun _ => fun
  | [d] => { results := [.lit (.bool true)], args := [d] }
  | _ => none }
def fnTreeUnderRow : OpenClaim := { program := "ytimamoimphjakaa", sum := "cb6710e45c97c1c7f411294d6c0ff4ad2c49a94caac19d0bb8b7d2ac1371bddc", func := "loop.example/equerry/laws.FnTreeUnder", spec := "fnTreeUnder", unfollowed := true, recurses := true, apart := false }
def FnTreeUnderSaid : Prop := fnTreeUnderRow.holds Try.pinned (OpenSpec.ofChange fnTreeUnderSpec)

/-- ITS FALSE NEIGHBOUR: 'it returns false'. Refute it at one input. -/
def fnTreeUnderWrong : ChangeSpec := { name := "fnTreeUnder", fn := fun _ => fun
  | [d] => { results := [.lit (.bool false)], args := [d] }
  | _ => none }
def FnTreeUnderWrongFalsely : Prop := fnTreeUnderRow.holds Try.pinned (OpenSpec.ofChange fnTreeUnderWrong)

/-- 'laws.FnTreeUnderOn': WHATEVER THE INPUT: true; the input reads as it did. -/
def fnTreeUnderOnSpec : ChangeSpec := { name := "fnTreeUnderOn", fn := fun _ => fun
  | [d1, d2] => { results := [.lit (.bool true)], args := [d1, d2] }
  | _ => none }
def fnTreeUnderOnRow : OpenClaim := { program := "ytimamoimphjakaa", sum := "cb6710e45c97c1c7f411294d6c0ff4ad2c49a94caac19d0bb8b7d2ac1371bddc", func := "loop.example/equerry/laws.FnTreeUnderOn", spec := "fnTreeUnderOn", unfollowed := true, recurses := true, apart := false }
def FnTreeUnderOnSaid : Prop := fnTreeUnderOnRow.holds Try.pinned (OpenSpec.ofChange fnTreeUnderOnSpec)

/-- ITS FALSE NEIGHBOUR: 'it returns false'. Refute it at one input. -/
def fnTreeUnderOnWrong : ChangeSpec := { name := "fnTreeUnderOn", fn := fun _ => fun
  | [d1, d2] => { results := [.lit (.bool false)], args := [d1, d2] }
  | _ => none }
def FnTreeUnderOnWrongFalsely : Prop := fnTreeUnderOnRow.holds Try.pinned (OpenSpec.ofChange fnTreeUnderOnWrong)

/-- 'laws.FnTreeOk': WHATEVER THE INPUT: true; the input reads as it did. -/
def fnTreeOkSpec : ChangeSpec := { name := "fnTreeOk", fn := fun _ => fun
  | [d] => { results := [.lit (.bool true)], args := [d] }
  | _ => none }
def fnTreeOkRow : OpenClaim := { program := "ytimamoimphjakaa", sum := "cb6710e45c97c1c7f411294d6c0ff4ad2c49a94caac19d0bb8b7d2ac1371bddc", func := "loop.example/equerry/laws.FnTreeOk", spec := "fnTreeOk", recurses := true, apart := false }
def FnTreeOkSaid : Prop := fnTreeOkRow.holds Try.pinned (OpenSpec.ofChange fnTreeOkSpec)

/-- ITS FALSE NEIGHBOUR: 'it returns false'. Refute it at one input. -/
def fnTreeOkWrong : ChangeSpec := { name := "fnTreeOk", fn := fun _ => fun
  | [d] => { results := [.lit (.bool false)], args := [d] }
  | _ => none }
def FnTreeOkWrongFalsely : Prop := fnTreeOkRow.holds Try.pinned (OpenSpec.ofChange fnTreeOkWrong)

/-- 'laws.FnTreeLive': WHATEVER THE INPUT: true; the input reads as it did. -/
def fnTreeLiveSpec : ChangeSpec := { name := "fnTreeLive", fn := fun _ => fun
  | [d] => { results := [.lit (.bool true)], args := [d] }
  | _ => none }
def fnTreeLiveRow : OpenClaim := { program := "ytimamoimphjakaa", sum := "cb6710e45c97c1c7f411294d6c0ff4ad2c49a94caac19d0bb8b7d2ac1371bddc", func := "loop.example/equerry/laws.FnTreeLive", spec := "fnTreeLive", recurses := true, apart := false }
def FnTreeLiveSaid : Prop := fnTreeLiveRow.holds Try.pinned (OpenSpec.ofChange fnTreeLiveSpec)

/-- ITS FALSE NEIGHBOUR: 'it returns false'. Refute it at one input. -/
def fnTreeLiveWrong : ChangeSpec := { name := "fnTreeLive", fn := fun _ => fun
  | [d] => { results := [.lit (.bool false)], args := [d] }
  | _ => none }
def FnTreeLiveWrongFalsely : Prop := fnTreeLiveRow.holds Try.pinned (OpenSpec.ofChange fnTreeLiveWrong)

/-- 'laws.FnTreeKids': WHATEVER THE INPUT: true; the input reads as it did. -/
def fnTreeKidsSpec : ChangeSpec := { name := "fnTreeKids", fn := fun _ => fun
  | [d] => { results := [.lit (.bool true)], args := [d] }
  | _ => none }
def fnTreeKidsRow : OpenClaim := { program := "ytimamoimphjakaa", sum := "cb6710e45c97c1c7f411294d6c0ff4ad2c49a94caac19d0bb8b7d2ac1371bddc", func := "loop.example/equerry/laws.FnTreeKids", spec := "fnTreeKids", unfollowed := true, recurses := true, apart := false }
def FnTreeKidsSaid : Prop := fnTreeKidsRow.holds Try.pinned (OpenSpec.ofChange fnTreeKidsSpec)

/-- ITS FALSE NEIGHBOUR: 'it returns false'. Refute it at one input. -/
def fnTreeKidsWrong : ChangeSpec := { name := "fnTreeKids", fn := fun _ => fun
  | [d] => { results := [.lit (.bool false)], args := [d] }
  | _ => none }
def FnTreeKidsWrongFalsely : Prop := fnTreeKidsRow.holds Try.pinned (OpenSpec.ofChange fnTreeKidsWrong)

/-- 'laws.FnTreeAll': WHATEVER THE INPUT: true; the input reads as it did. -/
def fnTreeAllSpec : ChangeSpec := { name := "fnTreeAll", fn := fun _ => fun
  | [d] => { results := [.lit (.bool true)], args := [d] }
  | _ => none }
def fnTreeAllRow : OpenClaim := { program := "ytimamoimphjakaa", sum := "cb6710e45c97c1c7f411294d6c0ff4ad2c49a94caac19d0bb8b7d2ac1371bddc", func := "loop.example/equerry/laws.FnTreeAll", spec := "fnTreeAll", unfollowed := true, recurses := true, apart := false }
def FnTreeAllSaid : Prop := fnTreeAllRow.holds Try.pinned (OpenSpec.ofChange fnTreeAllSpec)

/-- ITS FALSE NEIGHBOUR: 'it returns false'. Refute it at one input. -/
def fnTreeAllWrong : ChangeSpec := { name := "fnTreeAll", fn := fun _ => fun
  | [d] => { results := [.lit (.bool false)], args := [d] }
  | _ => none }
def FnTreeAllWrongFalsely : Prop := fnTreeAllRow.holds Try.pinned (OpenSpec.ofChange fnTreeAllWrong)

/-- 'laws.FnTreeWalkNear': WHATEVER THE INPUT: true; the input reads as it did. -/
def fnTreeWalkNearSpec : ChangeSpec := { name := "fnTreeWalkNear", fn := fun _ => fun
  | [d] => { results := [.lit (.bool true)], args := [d] }
  | _ => none }
def fnTreeWalkNearRow : OpenClaim := { program := "ytimamoimphjakaa", sum := "cb6710e45c97c1c7f411294d6c0ff4ad2c49a94caac19d0bb8b7d2ac1371bddc", func := "loop.example/equerry/laws.FnTreeWalkNear", spec := "fnTreeWalkNear", unfollowed := true, recurses := true, apart := false }
def FnTreeWalkNearSaid : Prop := fnTreeWalkNearRow.holds Try.pinned (OpenSpec.ofChange fnTreeWalkNearSpec)

/-- ITS FALSE NEIGHBOUR: 'it returns false'. Refute it at one input. -/
def fnTreeWalkNearWrong : ChangeSpec := { name := "fnTreeWalkNear", fn := fun _ => fun
  | [d] => { results := [.lit (.bool false)], args := [d] }
  | _ => none }
def FnTreeWalkNearWrongFalsely : Prop := fnTreeWalkNearRow.holds Try.pinned (OpenSpec.ofChange fnTreeWalkNearWrong)

/-- 'laws.FnTreeWalk': WHATEVER THE INPUT: true; the input reads as it did. -/
def fnTreeWalkSpec : ChangeSpec := { name := "fnTreeWalk", fn := fun _ => fun
  | [d] => { results := [.lit (.bool true)], args := [d] }
  | _ => none }
def fnTreeWalkRow : OpenClaim := { program := "ytimamoimphjakaa", sum := "cb6710e45c97c1c7f411294d6c0ff4ad2c49a94caac19d0bb8b7d2ac1371bddc", func := "loop.example/equerry/laws.FnTreeWalk", spec := "fnTreeWalk", recurses := true, apart := false }
def FnTreeWalkSaid : Prop := fnTreeWalkRow.holds Try.pinned (OpenSpec.ofChange fnTreeWalkSpec)

/-- ITS FALSE NEIGHBOUR: 'it returns false'. Refute it at one input. -/
def fnTreeWalkWrong : ChangeSpec := { name := "fnTreeWalk", fn := fun _ => fun
  | [d] => { results := [.lit (.bool false)], args := [d] }
  | _ => none }
def FnTreeWalkWrongFalsely : Prop := fnTreeWalkRow.holds Try.pinned (OpenSpec.ofChange fnTreeWalkWrong)

/-- 'laws.FnTreeMain': WHATEVER THE INPUT: true; the input reads as it did. -/
def fnTreeMainSpec : ChangeSpec := { name := "fnTreeMain", fn := fun _ => fun
  | [d] => { results := [.lit (.bool true)], args := [d] }
  | _ => none }
def fnTreeMainRow : OpenClaim := { program := "ytimamoimphjakaa", sum := "cb6710e45c97c1c7f411294d6c0ff4ad2c49a94caac19d0bb8b7d2ac1371bddc", func := "loop.example/equerry/laws.FnTreeMain", spec := "fnTreeMain", unfollowed := true, recurses := true, apart := false }
def FnTreeMainSaid : Prop := fnTreeMainRow.holds Try.pinned (OpenSpec.ofChange fnTreeMainSpec)

/-- ITS FALSE NEIGHBOUR: 'it returns false'. Refute it at one input. -/
def fnTreeMainWrong : ChangeSpec := { name := "fnTreeMain", fn := fun _ => fun
  | [d] => { results := [.lit (.bool false)], args := [d] }
  | _ => none }
def FnTreeMainWrongFalsely : Prop := fnTreeMainRow.holds Try.pinned (OpenSpec.ofChange fnTreeMainWrong)

/-- 'laws.FnSysOk': WHATEVER THE INPUT: true; the input reads as it did. -/
def fnSysOkSpec : ChangeSpec := { name := "fnSysOk", fn := fun _ => fun
  | [d] => { results := [.lit (.bool true)], args := [d] }
  | _ => none }
def fnSysOkRow : OpenClaim := { program := "ytimamoimphjakaa", sum := "cb6710e45c97c1c7f411294d6c0ff4ad2c49a94caac19d0bb8b7d2ac1371bddc", func := "loop.example/equerry/laws.FnSysOk", spec := "fnSysOk", recurses := true, apart := false }
def FnSysOkSaid : Prop := fnSysOkRow.holds Try.pinned (OpenSpec.ofChange fnSysOkSpec)

/-- ITS FALSE NEIGHBOUR: 'it returns false'. Refute it at one input. -/
def fnSysOkWrong : ChangeSpec := { name := "fnSysOk", fn := fun _ => fun
  | [d] => { results := [.lit (.bool false)], args := [d] }
  | _ => none }
def FnSysOkWrongFalsely : Prop := fnSysOkRow.holds Try.pinned (OpenSpec.ofChange fnSysOkWrong)

/-- 'laws.FnExactSysOk': WHATEVER THE INPUT: true; the input reads as it did. -/
def fnExactSysOkSpec : ChangeSpec := { name := "fnExactSysOk", fn := fun _ => fun
  | [d1, d2] => { results := [.lit (.bool true)], args := [d1, d2] }
  | _ => none }
def fnExactSysOkRow : OpenClaim := { program := "ytimamoimphjakaa", sum := "cb6710e45c97c1c7f411294d6c0ff4ad2c49a94caac19d0bb8b7d2ac1371bddc", func := "loop.example/equerry/laws.FnExactSysOk", spec := "fnExactSysOk", recurses := true, apart := false }
def FnExactSysOkSaid : Prop := fnExactSysOkRow.holds Try.pinned (OpenSpec.ofChange fnExactSysOkSpec)

/-- ITS FALSE NEIGHBOUR: 'it returns false'. Refute it at one input. -/
def fnExactSysOkWrong : ChangeSpec := { name := "fnExactSysOk", fn := fun _ => fun
  | [d1, d2] => { results := [.lit (.bool false)], args := [d1, d2] }
  | _ => none }
def FnExactSysOkWrongFalsely : Prop := fnExactSysOkRow.holds Try.pinned (OpenSpec.ofChange fnExactSysOkWrong)

/- THE SECOND FORM. 'bulk': how many values and letters a reading holds, each counted each time it is reached (what is shared counts as often as it is met; a slice's spare places count too). A statement '..UptoSaid' is the law's where the arguments, and the package variables that the reading takes, are together of bulk at most 1048576: NARROWER than '..Said'. Prove '..Said' where nothing that the law and all that it calls make is longer than what came in: it says more and counts as full. Else prove '..UptoSaid'. A law counts once. -/
mutual
def uptoBulk {H : Type} : DataW H → Nat
  | .lit (.string bytes) => bytes.length + 1
  | .lit _ => 1
  | .nil => 1
  | .ptr d => uptoBulk d + 1
  | .slice elems spare => uptoBulkAll elems + uptoBulkAll spare + 1
  | .agg parts => uptoBulkAll parts + 1
  | .iface _ d => uptoBulk d + 1
  | .map entries => uptoBulkEntries entries + 1
  | .held _ => 1
def uptoBulkAll {H : Type} : List (DataW H) → Nat
  | [] => 0
  | d :: r => uptoBulk d + uptoBulkAll r
def uptoBulkEntries {H : Type} : List (Lit × DataW H) → Nat
  | [] => 0
  | x :: r => uptoBulkEntry x + uptoBulkEntries r
def uptoBulkEntry {H : Type} : Lit × DataW H → Nat
  | (.string bytes, d) => bytes.length + uptoBulk d + 1
  | (_, d) => uptoBulk d + 1
 end
def uptoSmall : (H : Type) → List (DataW H) → Bool := fun _ ds => decide (uptoBulkAll ds ≤ 1048576)
def OpenSpec.upto (s : _root_.Go.ChangeSpec) : _root_.Go.OpenSpec := { _root_.Go.OpenSpec.ofChange s with cond := some uptoSmall }

/-- 'laws.FnSysWays', WHERE WHAT IT READS IS OF BULK AT MOST 1048576: true; the input reads as it did. -/
def fnSysWaysUptoRow : OpenClaim := { program := "ytimamoimphjakaa", sum := "cb6710e45c97c1c7f411294d6c0ff4ad2c49a94caac19d0bb8b7d2ac1371bddc", func := "loop.example/equerry/laws.FnSysWays", spec := "fnSysWays", recurses := true, apart := false, narrowed := true }
def FnSysWaysUptoSaid : Prop := fnSysWaysUptoRow.holds Try.pinned (OpenSpec.upto fnSysWaysSpec)

/-- 'laws.FnTreeUnder', WHERE WHAT IT READS IS OF BULK AT MOST 1048576: true; the input reads as it did. -/
def fnTreeUnderUptoRow : OpenClaim := { program := "ytimamoimphjakaa", sum := "cb6710e45c97c1c7f411294d6c0ff4ad2c49a94caac19d0bb8b7d2ac1371bddc", func := "loop.example/equerry/laws.FnTreeUnder", spec := "fnTreeUnder", unfollowed := true, recurses := true, apart := false, narrowed := true }
def FnTreeUnderUptoSaid : Prop := fnTreeUnderUptoRow.holds Try.pinned (OpenSpec.upto fnTreeUnderSpec)

/-- 'laws.FnTreeUnderOn', WHERE WHAT IT READS IS OF BULK AT MOST 1048576: true; the input reads as it did. -/
def fnTreeUnderOnUptoRow : OpenClaim := { program := "ytimamoimphjakaa", sum := "cb6710e45c97c1c7f411294d6c0ff4ad2c49a94caac19d0bb8b7d2ac1371bddc", func := "loop.example/equerry/laws.FnTreeUnderOn", spec := "fnTreeUnderOn", unfollowed := true, recurses := true, apart := false, narrowed := true }
def FnTreeUnderOnUptoSaid : Prop := fnTreeUnderOnUptoRow.holds Try.pinned (OpenSpec.upto fnTreeUnderOnSpec)

/-- 'laws.FnTreeOk', WHERE WHAT IT READS IS OF BULK AT MOST 1048576: true; the input reads as it did. -/
def fnTreeOkUptoRow : OpenClaim := { program := "ytimamoimphjakaa", sum := "cb6710e45c97c1c7f411294d6c0ff4ad2c49a94caac19d0bb8b7d2ac1371bddc", func := "loop.example/equerry/laws.FnTreeOk", spec := "fnTreeOk", recurses := true, apart := false, narrowed := true }
def FnTreeOkUptoSaid : Prop := fnTreeOkUptoRow.holds Try.pinned (OpenSpec.upto fnTreeOkSpec)

/-- 'laws.FnTreeLive', WHERE WHAT IT READS IS OF BULK AT MOST 1048576: true; the input reads as it did. -/
def fnTreeLiveUptoRow : OpenClaim := { program := "ytimamoimphjakaa", sum := "cb6710e45c97c1c7f411294d6c0ff4ad2c49a94caac19d0bb8b7d2ac1371bddc", func := "loop.example/equerry/laws.FnTreeLive", spec := "fnTreeLive", recurses := true, apart := false, narrowed := true }
def FnTreeLiveUptoSaid : Prop := fnTreeLiveUptoRow.holds Try.pinned (OpenSpec.upto fnTreeLiveSpec)

/-- 'laws.FnTreeKids', WHERE WHAT IT READS IS OF BULK AT MOST 1048576: true; the input reads as it did. -/
def fnTreeKidsUptoRow : OpenClaim := { program := "ytimamoimphjakaa", sum := "cb6710e45c97c1c7f411294d6c0ff4ad2c49a94caac19d0bb8b7d2ac1371bddc", func := "loop.example/equerry/laws.FnTreeKids", spec := "fnTreeKids", unfollowed := true, recurses := true, apart := false, narrowed := true }
def FnTreeKidsUptoSaid : Prop := fnTreeKidsUptoRow.holds Try.pinned (OpenSpec.upto fnTreeKidsSpec)

/-- 'laws.FnTreeAll', WHERE WHAT IT READS IS OF BULK AT MOST 1048576: true; the input reads as it did. -/
def fnTreeAllUptoRow : OpenClaim := { program := "ytimamoimphjakaa", sum := "cb6710e45c97c1c7f411294d6c0ff4ad2c49a94caac19d0bb8b7d2ac1371bddc", func := "loop.example/equerry/laws.FnTreeAll", spec := "fnTreeAll", unfollowed := true, recurses := true, apart := false, narrowed := true }
def FnTreeAllUptoSaid : Prop := fnTreeAllUptoRow.holds Try.pinned (OpenSpec.upto fnTreeAllSpec)

/-- 'laws.FnTreeWalkNear', WHERE WHAT IT READS IS OF BULK AT MOST 1048576: true; the input reads as it did. -/
def fnTreeWalkNearUptoRow : OpenClaim := { program := "ytimamoimphjakaa", sum := "cb6710e45c97c1c7f411294d6c0ff4ad2c49a94caac19d0bb8b7d2ac1371bddc", func := "loop.example/equerry/laws.FnTreeWalkNear", spec := "fnTreeWalkNear", unfollowed := true, recurses := true, apart := false, narrowed := true }
def FnTreeWalkNearUptoSaid : Prop := fnTreeWalkNearUptoRow.holds Try.pinned (OpenSpec.upto fnTreeWalkNearSpec)

/-- 'laws.FnTreeWalk', WHERE WHAT IT READS IS OF BULK AT MOST 1048576: true; the input reads as it did. -/
def fnTreeWalkUptoRow : OpenClaim := { program := "ytimamoimphjakaa", sum := "cb6710e45c97c1c7f411294d6c0ff4ad2c49a94caac19d0bb8b7d2ac1371bddc", func := "loop.example/equerry/laws.FnTreeWalk", spec := "fnTreeWalk", recurses := true, apart := false, narrowed := true }
def FnTreeWalkUptoSaid : Prop := fnTreeWalkUptoRow.holds Try.pinned (OpenSpec.upto fnTreeWalkSpec)

/-- 'laws.FnTreeMain', WHERE WHAT IT READS IS OF BULK AT MOST 1048576: true; the input reads as it did. -/
def fnTreeMainUptoRow : OpenClaim := { program := "ytimamoimphjakaa", sum := "cb6710e45c97c1c7f411294d6c0ff4ad2c49a94caac19d0bb8b7d2ac1371bddc", func := "loop.example/equerry/laws.FnTreeMain", spec := "fnTreeMain", unfollowed := true, recurses := true, apart := false, narrowed := true }
def FnTreeMainUptoSaid : Prop := fnTreeMainUptoRow.holds Try.pinned (OpenSpec.upto fnTreeMainSpec)

/-- 'laws.FnSysOk', WHERE WHAT IT READS IS OF BULK AT MOST 1048576: true; the input reads as it did. -/
def fnSysOkUptoRow : OpenClaim := { program := "ytimamoimphjakaa", sum := "cb6710e45c97c1c7f411294d6c0ff4ad2c49a94caac19d0bb8b7d2ac1371bddc", func := "loop.example/equerry/laws.FnSysOk", spec := "fnSysOk", recurses := true, apart := false, narrowed := true }
def FnSysOkUptoSaid : Prop := fnSysOkUptoRow.holds Try.pinned (OpenSpec.upto fnSysOkSpec)

/-- 'laws.FnExactSysOk', WHERE WHAT IT READS IS OF BULK AT MOST 1048576: true; the input reads as it did. -/
def fnExactSysOkUptoRow : OpenClaim := { program := "ytimamoimphjakaa", sum := "cb6710e45c97c1c7f411294d6c0ff4ad2c49a94caac19d0bb8b7d2ac1371bddc", func := "loop.example/equerry/laws.FnExactSysOk", spec := "fnExactSysOk", recurses := true, apart := false, narrowed := true }
def FnExactSysOkUptoSaid : Prop := fnExactSysOkUptoRow.holds Try.pinned (OpenSpec.upto fnExactSysOkSpec)

end Rows
end Go.Proofs.Ytimamoimphjakaa
