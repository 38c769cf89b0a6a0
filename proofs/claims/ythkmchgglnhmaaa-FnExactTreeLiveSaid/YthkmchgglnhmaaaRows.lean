/-
  No cell of these rows narrows 'for every input' (looked for: loops, veiled, ifaces, maps, wideKeys, modest, calm, conditions, laid).
  DERIVED. THE GIVEN ROWS OF THIS SEAT. 5 by the template 'for every input the law returns true; each argument reads behind the call as it read before'; 0 by the template 'total and deterministic' (their statements: YthkmchgglnhmaaaTotals.lean).
  GIVEN WITH THE SEED: the statements are not yours to turn. If you find one false, say at which input.
  Laid BY PROGRAM, IN A SANDBOX (cutbox-rows.mjs): the forced cells as the released guide's own fill.sh prints them over the translation 4816b7d93dcd35da… (all of the seat's roots in one cut). By AI agents, Wed Nov 11 2026. No macro, syntax, notation, axiom, sorry.
-/
import Derived.Test.YthkmchgglnhmaaaChecked
import GoSem.Claim
import GoSem.ClaimJoined
import GoSem.ClaimMapViews
import Derived.JoinedTies
import Derived.KernelRfl
namespace Go.Proofs.Ythkmchgglnhmaaa
/- THE CELL 'sum', in the pinned program and in every row, IS THE sha256 OF THE DUMP (.gsa) THAT YthkmchgglnhmaaaProg.lean LOADS. Nothing in Lean hashes anything: it is a label: what it is worth is what the hold of that sum in a sandbox is worth. -/
noncomputable def Try.pinned : Pinned := { name := "ythkmchgglnhmaaa", sum := "4816b7d93dcd35da7fb4ac307ce370953df05f5f780854378f706cc3580d7d34", checked := Try.checked }
namespace Rows
def none {H : Type} : Left H := { results := [], args := [] }

/-- 'laws.FnExactTreeUnder': WHATEVER THE INPUT: true; the input reads as it did. -/
def fnExactTreeUnderSpec : ChangeSpec := { name := "fnExactTreeUnder", fn := fun _ => fun
  | [d1, d2, d3] => { results := [.lit (.bool true)], args := [d1, d2, d3] }
  | _ => none }
def fnExactTreeUnderRow : OpenClaim := { program := "ythkmchgglnhmaaa", sum := "4816b7d93dcd35da7fb4ac307ce370953df05f5f780854378f706cc3580d7d34", func := "loop.example/equerry/laws.FnExactTreeUnder", spec := "fnExactTreeUnder", unfollowed := true, recurses := true, apart := false }
def FnExactTreeUnderSaid : Prop := fnExactTreeUnderRow.holds Try.pinned (OpenSpec.ofChange fnExactTreeUnderSpec)

/-- ITS FALSE NEIGHBOUR: 'it returns false'. Refute it at one input. -/
def fnExactTreeUnderWrong : ChangeSpec := { name := "fnExactTreeUnder", fn := fun _ => fun
  | [d1, d2, d3] => { results := [.lit (.bool false)], args := [d1, d2, d3] }
  | _ => none }
def FnExactTreeUnderWrongFalsely : Prop := fnExactTreeUnderRow.holds Try.pinned (OpenSpec.ofChange fnExactTreeUnderWrong)

/-- 'laws.FnExactTreeOk': WHATEVER THE INPUT: true; the input reads as it did. -/
def fnExactTreeOkSpec : ChangeSpec := { name := "fnExactTreeOk", fn := fun _ => fun
  | [d] => { results := [.lit (.bool true)], args := [d] }
  | _ => none }
def fnExactTreeOkRow : OpenClaim := { program := "ythkmchgglnhmaaa", sum := "4816b7d93dcd35da7fb4ac307ce370953df05f5f780854378f706cc3580d7d34", func := "loop.example/equerry/laws.FnExactTreeOk", spec := "fnExactTreeOk", apart := false }
def FnExactTreeOkSaid : Prop := fnExactTreeOkRow.holds Try.pinned (OpenSpec.ofChange fnExactTreeOkSpec)

/-- ITS FALSE NEIGHBOUR: 'it returns false'. Refute it at one input. -/
def fnExactTreeOkWrong : ChangeSpec := { name := "fnExactTreeOk", fn := fun _ => fun
  | [d] => { results := [.lit (.bool false)], args := [d] }
  | _ => none }
def FnExactTreeOkWrongFalsely : Prop := fnExactTreeOkRow.holds Try.pinned (OpenSpec.ofChange fnExactTreeOkWrong)

/-- 'laws.FnExactTreeLive': WHATEVER THE INPUT: true; the input reads as it did. -/
def fnExactTreeLiveSpec : ChangeSpec := { name := "fnExactTreeLive", fn := fun _ => fun
  | [d] => { results := [.lit (.bool true)], args := [d] }
  | _ => none }
def fnExactTreeLiveRow : OpenClaim := { program := "ythkmchgglnhmaaa", sum := "4816b7d93dcd35da7fb4ac307ce370953df05f5f780854378f706cc3580d7d34", func := "loop.example/equerry/laws.FnExactTreeLive", spec := "fnExactTreeLive", apart := false }
def FnExactTreeLiveSaid : Prop := fnExactTreeLiveRow.holds Try.pinned (OpenSpec.ofChange fnExactTreeLiveSpec)

/-- ITS FALSE NEIGHBOUR: 'it returns false'. Refute it at one input. -/
def fnExactTreeLiveWrong : ChangeSpec := { name := "fnExactTreeLive", fn := fun _ => fun
  | [d] => { results := [.lit (.bool false)], args := [d] }
  | _ => none }
def FnExactTreeLiveWrongFalsely : Prop := fnExactTreeLiveRow.holds Try.pinned (OpenSpec.ofChange fnExactTreeLiveWrong)

/-- 'laws.FnExactTreeKids': WHATEVER THE INPUT: true; the input reads as it did. -/
def fnExactTreeKidsSpec : ChangeSpec := { name := "fnExactTreeKids", fn := fun _ => fun
  | [d1, d2] => { results := [.lit (.bool true)], args := [d1, d2] }
  | _ => none }
def fnExactTreeKidsRow : OpenClaim := { program := "ythkmchgglnhmaaa", sum := "4816b7d93dcd35da7fb4ac307ce370953df05f5f780854378f706cc3580d7d34", func := "loop.example/equerry/laws.FnExactTreeKids", spec := "fnExactTreeKids", apart := false }
def FnExactTreeKidsSaid : Prop := fnExactTreeKidsRow.holds Try.pinned (OpenSpec.ofChange fnExactTreeKidsSpec)

/-- ITS FALSE NEIGHBOUR: 'it returns false'. Refute it at one input. -/
def fnExactTreeKidsWrong : ChangeSpec := { name := "fnExactTreeKids", fn := fun _ => fun
  | [d1, d2] => { results := [.lit (.bool false)], args := [d1, d2] }
  | _ => none }
def FnExactTreeKidsWrongFalsely : Prop := fnExactTreeKidsRow.holds Try.pinned (OpenSpec.ofChange fnExactTreeKidsWrong)

/-- 'laws.FnExactTreeWalk': WHATEVER THE INPUT: true; the input reads as it did. -/
def fnExactTreeWalkSpec : ChangeSpec := { name := "fnExactTreeWalk", fn := fun _ => fun
  | [d] => { results := [.lit (.bool true)], args := [d] }
  | _ => none }
def fnExactTreeWalkRow : OpenClaim := { program := "ythkmchgglnhmaaa", sum := "4816b7d93dcd35da7fb4ac307ce370953df05f5f780854378f706cc3580d7d34", func := "loop.example/equerry/laws.FnExactTreeWalk", spec := "fnExactTreeWalk", recurses := true, apart := false }
def FnExactTreeWalkSaid : Prop := fnExactTreeWalkRow.holds Try.pinned (OpenSpec.ofChange fnExactTreeWalkSpec)

/-- ITS FALSE NEIGHBOUR: 'it returns false'. Refute it at one input. -/
def fnExactTreeWalkWrong : ChangeSpec := { name := "fnExactTreeWalk", fn := fun _ => fun
  | [d] => { results := [.lit (.bool false)], args := [d] }
  | _ => none }
def FnExactTreeWalkWrongFalsely : Prop := fnExactTreeWalkRow.holds Try.pinned (OpenSpec.ofChange fnExactTreeWalkWrong)

/- THE SECOND FORM. 'bulk': how many values and letters a reading holds, each counted each time it is reached (what is shared counts as often as it is met; a slice's spare places count too). A statement '..UptoSaid' is the law's where the arguments, and the package variables that the reading takes, are together of bulk at most 1048576: NARROWER than '..Said'. Prove '..Said' where nothing that the law and all that it calls make is longer than what came in: it says more and counts as full. Else prove '..UptoSaid'. A law counts once. -/
mutual
def uptoBulk {H : Type} : DataW H → Nat
  | .lit (.string bytes) => bytes.length + 1
  | .lit _ => 1
  | .nil => 1
  | .ptr d => uptoBulk d + 1
  | .slice elems spare => uptoBulkAll elems + uptoBulkAll spare + 1
  | .agg parts => uptoBulkAll parts + 1
  | .iface _ d => uptoBulk d + 1
  | .map entries => uptoBulkEntries entries + 1
  | .held _ => 1
def uptoBulkAll {H : Type} : List (DataW H) → Nat
  | [] => 0
  | d :: r => uptoBulk d + uptoBulkAll r
def uptoBulkEntries {H : Type} : List (Lit × DataW H) → Nat
  | [] => 0
  | x :: r => uptoBulkEntry x + uptoBulkEntries r
def uptoBulkEntry {H : Type} : Lit × DataW H → Nat
  | (.string bytes, d) => bytes.length + uptoBulk d + 1
  | (_, d) => uptoBulk d + 1
 end
def uptoSmall : (H : Type) → List (DataW H) → Bool := fun _ ds => decide (uptoBulkAll ds ≤ 1048576)
def OpenSpec.upto (s : _root_.Go.ChangeSpec) : _root_.Go.OpenSpec := { _root_.Go.OpenSpec.ofChange s with cond := some uptoSmall }

/-- 'laws.FnExactTreeUnder', WHERE WHAT IT READS IS OF BULK AT MOST 1048576: true; the input reads as it did. -/
def fnExactTreeUnderUptoRow : OpenClaim := { program := "ythkmchgglnhmaaa", sum := "4816b7d93dcd35da7fb4ac307ce370953df05f5f780854378f706cc3580d7d34", func := "loop.example/equerry/laws.FnExactTreeUnder", spec := "fnExactTreeUnder", unfollowed := true, recurses := true, apart := false, narrowed := true }
def FnExactTreeUnderUptoSaid : Prop := fnExactTreeUnderUptoRow.holds Try.pinned (OpenSpec.upto fnExactTreeUnderSpec)

/-- 'laws.FnExactTreeOk', WHERE WHAT IT READS IS OF BULK AT MOST 1048576: true; the input reads as it did. -/
def fnExactTreeOkUptoRow : OpenClaim := { program := "ythkmchgglnhmaaa", sum := "4816b7d93dcd35da7fb4ac307ce370953df05f5f780854378f706cc3580d7d34", func := "loop.example/equerry/laws.FnExactTreeOk", spec := "fnExactTreeOk", apart := false, narrowed := true }
def FnExactTreeOkUptoSaid : Prop := fnExactTreeOkUptoRow.holds Try.pinned (OpenSpec.upto fnExactTreeOkSpec)

/-- 'laws.FnExactTreeLive', WHERE WHAT IT READS IS OF BULK AT MOST 1048576: true; the input reads as it did. -/
def fnExactTreeLiveUptoRow : OpenClaim := { program := "ythkmchgglnhmaaa", sum := "4816b7d93dcd35da7fb4ac307ce370953df05f5f780854378f706cc3580d7d34", func := "loop.example/equerry/laws.FnExactTreeLive", spec := "fnExactTreeLive", apart := false, narrowed := true }
def FnExactTreeLiveUptoSaid : Prop := fnExactTreeLiveUptoRow.holds Try.pinned (OpenSpec.upto fnExactTreeLiveSpec)

/-- 'laws.FnExactTreeKids', WHERE WHAT IT READS IS OF BULK AT MOST 1048576: true; the input reads as it did. -/
def fnExactTreeKidsUptoRow : OpenClaim := { program := "ythkmchgglnhmaaa", sum := "4816b7d93dcd35da7fb4ac307ce370953df05f5f780854378f706cc3580d7d34", func := "loop.example/equerry/laws.FnExactTreeKids", spec := "fnExactTreeKids", apart := false, narrowed := true }
def FnExactTreeKidsUptoSaid : Prop := fnExactTreeKidsUptoRow.holds Try.pinned (OpenSpec.upto fnExactTreeKidsSpec)

/-- 'laws.FnExactTreeWalk', WHERE WHAT IT READS IS OF BULK AT MOST 1048576: true; the input reads as it did. -/
def fnExactTreeWalkUptoRow : OpenClaim := { program := "ythkmchgglnhmaaa", sum := "4816b7d93dcd35da7fb4ac307ce370953df05f5f780854378f706cc3580d7d34", func := "loop.example/equerry/laws.FnExactTreeWalk", spec := "fnExactTreeWalk", recurses := true, apart := false, narrowed := true }
def FnExactTreeWalkUptoSaid : Prop := fnExactTreeWalkUptoRow.holds Try.pinned (OpenSpec.upto fnExactTreeWalkSpec)

end Rows
end Go.Proofs.Ythkmchgglnhmaaa
