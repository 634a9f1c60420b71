/-
  No cell of these rows narrows 'for every input' (looked for: loops, veiled, ifaces, maps, wideKeys, modest, calm, conditions, laid).
  DERIVED. THE GIVEN ROWS OF THIS SEAT. 11 by the template 'for every input the law returns true; each argument reads behind the call as it read before'; 0 by the template 'total and deterministic' (their statements: YtcbjpdaogicibaaTotals.lean).
  GIVEN WITH THE SEED: the statements are not yours to turn. If you find one false, say at which input.
  Laid BY PROGRAM, IN A SANDBOX (cutbox-rows.mjs): the forced cells as the released guide's own fill.sh prints them over the translation b1b646f622264e6c… (all of the seat's roots in one cut). By AI agents, Wed Nov 11 2026. No macro, syntax, notation, axiom, sorry.
-/
import Derived.Test.YtcbjpdaogicibaaChecked
import GoSem.Claim
import GoSem.ClaimJoined
import GoSem.ClaimMapViews
import Derived.JoinedTies
import Derived.KernelRfl
namespace Go.Proofs.Ytcbjpdaogicibaa
/- THE CELL 'sum', in the pinned program and in every row, IS THE sha256 OF THE DUMP (.gsa) THAT YtcbjpdaogicibaaProg.lean LOADS. Nothing in Lean hashes anything: it is a label: what it is worth is what the hold of that sum in a sandbox is worth. -/
noncomputable def Try.pinned : Pinned := { name := "ytcbjpdaogicibaa", sum := "b1b646f622264e6cd9e39b36b0672cf6996aaf9b19f6853f830d28e901730f68", checked := Try.checked }
namespace Rows
def none {H : Type} : Left H := { results := [], args := [] }

/-- 'laws.FnBooleanOk': WHATEVER THE INPUT: true; the input reads as it did. -/
def fnBooleanOkSpec : ChangeSpec := { name := "fnBooleanOk", fn := fun _ => fun
  | [d] => { results := [.lit (.bool true)], args := [d] }
  | _ => none }
def fnBooleanOkRow : OpenClaim := { program := "ytcbjpdaogicibaa", sum := "b1b646f622264e6cd9e39b36b0672cf6996aaf9b19f6853f830d28e901730f68", func := "loop.example/orthologics/laws.FnBooleanOk", spec := "fnBooleanOk", unfollowed := true, recurses := true, apart := false }
def FnBooleanOkSaid : Prop := fnBooleanOkRow.holds Try.pinned (OpenSpec.ofChange fnBooleanOkSpec)

/-- ITS FALSE NEIGHBOUR: 'it returns false'. Refute it at one input. -/
def fnBooleanOkWrong : ChangeSpec := { name := "fnBooleanOk", fn := fun _ => fun
  | [d] => { results := [.lit (.bool false)], args := [d] }
  | _ => none }
def FnBooleanOkWrongFalsely : Prop := fnBooleanOkRow.holds Try.pinned (OpenSpec.ofChange fnBooleanOkWrong)

/-- 'laws.FnBlocksWith': WHATEVER THE INPUT: true; the input reads as it did. -/
def fnBlocksWithSpec : ChangeSpec := { name := "fnBlocksWith", fn := fun _ => fun
  | [d] => { results := [.lit (.bool true)], args := [d] }
  | _ => none }
def fnBlocksWithRow : OpenClaim := { program := "ytcbjpdaogicibaa", sum := "b1b646f622264e6cd9e39b36b0672cf6996aaf9b19f6853f830d28e901730f68", func := "loop.example/orthologics/laws.FnBlocksWith", spec := "fnBlocksWith", unfollowed := true, recurses := true, apart := false }
def FnBlocksWithSaid : Prop := fnBlocksWithRow.holds Try.pinned (OpenSpec.ofChange fnBlocksWithSpec)

/-- ITS FALSE NEIGHBOUR: 'it returns false'. Refute it at one input. -/
def fnBlocksWithWrong : ChangeSpec := { name := "fnBlocksWith", fn := fun _ => fun
  | [d] => { results := [.lit (.bool false)], args := [d] }
  | _ => none }
def FnBlocksWithWrongFalsely : Prop := fnBlocksWithRow.holds Try.pinned (OpenSpec.ofChange fnBlocksWithWrong)

/-- 'laws.FnAgreeOk': WHATEVER THE INPUT: true; the input reads as it did. -/
def fnAgreeOkSpec : ChangeSpec := { name := "fnAgreeOk", fn := fun _ => fun
  | [d] => { results := [.lit (.bool true)], args := [d] }
  | _ => none }
def fnAgreeOkRow : OpenClaim := { program := "ytcbjpdaogicibaa", sum := "b1b646f622264e6cd9e39b36b0672cf6996aaf9b19f6853f830d28e901730f68", func := "loop.example/orthologics/laws.FnAgreeOk", spec := "fnAgreeOk", unfollowed := true, recurses := true, apart := false }
def FnAgreeOkSaid : Prop := fnAgreeOkRow.holds Try.pinned (OpenSpec.ofChange fnAgreeOkSpec)

/-- ITS FALSE NEIGHBOUR: 'it returns false'. Refute it at one input. -/
def fnAgreeOkWrong : ChangeSpec := { name := "fnAgreeOk", fn := fun _ => fun
  | [d] => { results := [.lit (.bool false)], args := [d] }
  | _ => none }
def FnAgreeOkWrongFalsely : Prop := fnAgreeOkRow.holds Try.pinned (OpenSpec.ofChange fnAgreeOkWrong)

/-- 'laws.FnBlocksOf': WHATEVER THE INPUT: true; the input reads as it did. -/
def fnBlocksOfSpec : ChangeSpec := { name := "fnBlocksOf", fn := fun _ => fun
  | [d] => { results := [.lit (.bool true)], args := [d] }
  | _ => none }
def fnBlocksOfRow : OpenClaim := { program := "ytcbjpdaogicibaa", sum := "b1b646f622264e6cd9e39b36b0672cf6996aaf9b19f6853f830d28e901730f68", func := "loop.example/orthologics/laws.FnBlocksOf", spec := "fnBlocksOf", unfollowed := true, recurses := true, apart := false }
def FnBlocksOfSaid : Prop := fnBlocksOfRow.holds Try.pinned (OpenSpec.ofChange fnBlocksOfSpec)

/-- ITS FALSE NEIGHBOUR: 'it returns false'. Refute it at one input. -/
def fnBlocksOfWrong : ChangeSpec := { name := "fnBlocksOf", fn := fun _ => fun
  | [d] => { results := [.lit (.bool false)], args := [d] }
  | _ => none }
def FnBlocksOfWrongFalsely : Prop := fnBlocksOfRow.holds Try.pinned (OpenSpec.ofChange fnBlocksOfWrong)

/-- 'laws.FnValueOf': WHATEVER THE INPUT: true; the input reads as it did. -/
def fnValueOfSpec : ChangeSpec := { name := "fnValueOf", fn := fun _ => fun
  | [d] => { results := [.lit (.bool true)], args := [d] }
  | _ => none }
def fnValueOfRow : OpenClaim := { program := "ytcbjpdaogicibaa", sum := "b1b646f622264e6cd9e39b36b0672cf6996aaf9b19f6853f830d28e901730f68", func := "loop.example/orthologics/laws.FnValueOf", spec := "fnValueOf", recurses := true, apart := false }
def FnValueOfSaid : Prop := fnValueOfRow.holds Try.pinned (OpenSpec.ofChange fnValueOfSpec)

/-- ITS FALSE NEIGHBOUR: 'it returns false'. Refute it at one input. -/
def fnValueOfWrong : ChangeSpec := { name := "fnValueOf", fn := fun _ => fun
  | [d] => { results := [.lit (.bool false)], args := [d] }
  | _ => none }
def FnValueOfWrongFalsely : Prop := fnValueOfRow.holds Try.pinned (OpenSpec.ofChange fnValueOfWrong)

/-- 'laws.FnFullOk': WHATEVER THE INPUT: true; the input reads as it did. -/
def fnFullOkSpec : ChangeSpec := { name := "fnFullOk", fn := fun _ => fun
  | [d] => { results := [.lit (.bool true)], args := [d] }
  | _ => none }
def fnFullOkRow : OpenClaim := { program := "ytcbjpdaogicibaa", sum := "b1b646f622264e6cd9e39b36b0672cf6996aaf9b19f6853f830d28e901730f68", func := "loop.example/orthologics/laws.FnFullOk", spec := "fnFullOk", unfollowed := true, recurses := true, apart := false }
def FnFullOkSaid : Prop := fnFullOkRow.holds Try.pinned (OpenSpec.ofChange fnFullOkSpec)

/-- ITS FALSE NEIGHBOUR: 'it returns false'. Refute it at one input. -/
def fnFullOkWrong : ChangeSpec := { name := "fnFullOk", fn := fun _ => fun
  | [d] => { results := [.lit (.bool false)], args := [d] }
  | _ => none }
def FnFullOkWrongFalsely : Prop := fnFullOkRow.holds Try.pinned (OpenSpec.ofChange fnFullOkWrong)

/-- 'laws.FnStatesOf': WHATEVER THE INPUT: true; the input reads as it did. -/
def fnStatesOfSpec : ChangeSpec := { name := "fnStatesOf", fn := fun _ => fun
  | [d] => { results := [.lit (.bool true)], args := [d] }
  | _ => none }
def fnStatesOfRow : OpenClaim := { program := "ytcbjpdaogicibaa", sum := "b1b646f622264e6cd9e39b36b0672cf6996aaf9b19f6853f830d28e901730f68", func := "loop.example/orthologics/laws.FnStatesOf", spec := "fnStatesOf", unfollowed := true, recurses := true, apart := false }
def FnStatesOfSaid : Prop := fnStatesOfRow.holds Try.pinned (OpenSpec.ofChange fnStatesOfSpec)

/-- ITS FALSE NEIGHBOUR: 'it returns false'. Refute it at one input. -/
def fnStatesOfWrong : ChangeSpec := { name := "fnStatesOf", fn := fun _ => fun
  | [d] => { results := [.lit (.bool false)], args := [d] }
  | _ => none }
def FnStatesOfWrongFalsely : Prop := fnStatesOfRow.holds Try.pinned (OpenSpec.ofChange fnStatesOfWrong)

/-- 'laws.FnSameOk': WHATEVER THE INPUT: true; the input reads as it did. -/
def fnSameOkSpec : ChangeSpec := { name := "fnSameOk", fn := fun _ => fun
  | [d] => { results := [.lit (.bool true)], args := [d] }
  | _ => none }
def fnSameOkRow : OpenClaim := { program := "ytcbjpdaogicibaa", sum := "b1b646f622264e6cd9e39b36b0672cf6996aaf9b19f6853f830d28e901730f68", func := "loop.example/orthologics/laws.FnSameOk", spec := "fnSameOk", unfollowed := true, recurses := true, apart := false }
def FnSameOkSaid : Prop := fnSameOkRow.holds Try.pinned (OpenSpec.ofChange fnSameOkSpec)

/-- ITS FALSE NEIGHBOUR: 'it returns false'. Refute it at one input. -/
def fnSameOkWrong : ChangeSpec := { name := "fnSameOk", fn := fun _ => fun
  | [d] => { results := [.lit (.bool false)], args := [d] }
  | _ => none }
def FnSameOkWrongFalsely : Prop := fnSameOkRow.holds Try.pinned (OpenSpec.ofChange fnSameOkWrong)

/-- 'laws.FnAlwaysOk': WHATEVER THE INPUT: true; the input reads as it did. -/
def fnAlwaysOkSpec : ChangeSpec := { name := "fnAlwaysOk", fn := fun _ => fun
  | [d] => { results := [.lit (.bool true)], args := [d] }
  | _ => none }
def fnAlwaysOkRow : OpenClaim := { program := "ytcbjpdaogicibaa", sum := "b1b646f622264e6cd9e39b36b0672cf6996aaf9b19f6853f830d28e901730f68", func := "loop.example/orthologics/laws.FnAlwaysOk", spec := "fnAlwaysOk", unfollowed := true, recurses := true, apart := false }
def FnAlwaysOkSaid : Prop := fnAlwaysOkRow.holds Try.pinned (OpenSpec.ofChange fnAlwaysOkSpec)

/-- ITS FALSE NEIGHBOUR: 'it returns false'. Refute it at one input. -/
def fnAlwaysOkWrong : ChangeSpec := { name := "fnAlwaysOk", fn := fun _ => fun
  | [d] => { results := [.lit (.bool false)], args := [d] }
  | _ => none }
def FnAlwaysOkWrongFalsely : Prop := fnAlwaysOkRow.holds Try.pinned (OpenSpec.ofChange fnAlwaysOkWrong)

/-- 'laws.FnDeskOk': WHATEVER THE INPUT: true; the input reads as it did. -/
def fnDeskOkSpec : ChangeSpec := { name := "fnDeskOk", fn := fun _ => fun
  | [d] => { results := [.lit (.bool true)], args := [d] }
  | _ => none }
def fnDeskOkRow : OpenClaim := { program := "ytcbjpdaogicibaa", sum := "b1b646f622264e6cd9e39b36b0672cf6996aaf9b19f6853f830d28e901730f68", func := "loop.example/orthologics/laws.FnDeskOk", spec := "fnDeskOk", unfollowed := true, recurses := true, apart := false }
def FnDeskOkSaid : Prop := fnDeskOkRow.holds Try.pinned (OpenSpec.ofChange fnDeskOkSpec)

/-- ITS FALSE NEIGHBOUR: 'it returns false'. Refute it at one input. -/
def fnDeskOkWrong : ChangeSpec := { name := "fnDeskOk", fn := fun _ => fun
  | [d] => { results := [.lit (.bool false)], args := [d] }
  | _ => none }
def FnDeskOkWrongFalsely : Prop := fnDeskOkRow.holds Try.pinned (OpenSpec.ofChange fnDeskOkWrong)

/-- 'laws.FnDeskNew': WHATEVER THE INPUT: true; the input reads as it did. -/
def fnDeskNewSpec : ChangeSpec := { name := "fnDeskNew", fn := fun _ => fun
  | [d] => { results := [.lit (.bool true)], args := [d] }
  | _ => none }
def fnDeskNewRow : OpenClaim := { program := "ytcbjpdaogicibaa", sum := "b1b646f622264e6cd9e39b36b0672cf6996aaf9b19f6853f830d28e901730f68", func := "loop.example/orthologics/laws.FnDeskNew", spec := "fnDeskNew", unfollowed := true, recurses := true, apart := false }
def FnDeskNewSaid : Prop := fnDeskNewRow.holds Try.pinned (OpenSpec.ofChange fnDeskNewSpec)

/-- ITS FALSE NEIGHBOUR: 'it returns false'. Refute it at one input. -/
def fnDeskNewWrong : ChangeSpec := { name := "fnDeskNew", fn := fun _ => fun
  | [d] => { results := [.lit (.bool false)], args := [d] }
  | _ => none }
def FnDeskNewWrongFalsely : Prop := fnDeskNewRow.holds Try.pinned (OpenSpec.ofChange fnDeskNewWrong)

/- THE SECOND FORM. 'bulk': how many values and letters a reading holds, each counted each time it is reached (what is shared counts as often as it is met; a slice's spare places count too). A statement '..UptoSaid' is the law's where the arguments, and the package variables that the reading takes, are together of bulk at most 1048576: NARROWER than '..Said'. Prove '..Said' where nothing that the law and all that it calls make is longer than what came in: it says more and counts as full. Else prove '..UptoSaid'. A law counts once. -/
mutual
def uptoBulk {H : Type} : DataW H → Nat
  | .lit (.string bytes) => bytes.length + 1
  | .lit _ => 1
  | .nil => 1
  | .ptr d => uptoBulk d + 1
  | .slice elems spare => uptoBulkAll elems + uptoBulkAll spare + 1
  | .agg parts => uptoBulkAll parts + 1
  | .iface _ d => uptoBulk d + 1
  | .map entries => uptoBulkEntries entries + 1
  | .held _ => 1
def uptoBulkAll {H : Type} : List (DataW H) → Nat
  | [] => 0
  | d :: r => uptoBulk d + uptoBulkAll r
def uptoBulkEntries {H : Type} : List (Lit × DataW H) → Nat
  | [] => 0
  | x :: r => uptoBulkEntry x + uptoBulkEntries r
def uptoBulkEntry {H : Type} : Lit × DataW H → Nat
  | (.string bytes, d) => bytes.length + uptoBulk d + 1
  | (_, d) => uptoBulk d + 1
 end
def uptoSmall : (H : Type) → List (DataW H) → Bool := fun _ ds => decide (uptoBulkAll ds ≤ 1048576)
def OpenSpec.upto (s : _root_.Go.ChangeSpec) : _root_.Go.OpenSpec := { _root_.Go.OpenSpec.ofChange s with cond := some uptoSmall }

/-- 'laws.FnBooleanOk', WHERE WHAT IT READS IS OF BULK AT MOST 1048576: true; the input reads as it did. -/
def fnBooleanOkUptoRow : OpenClaim := { program := "ytcbjpdaogicibaa", sum := "b1b646f622264e6cd9e39b36b0672cf6996aaf9b19f6853f830d28e901730f68", func := "loop.example/orthologics/laws.FnBooleanOk", spec := "fnBooleanOk", unfollowed := true, recurses := true, apart := false, narrowed := true }
def FnBooleanOkUptoSaid : Prop := fnBooleanOkUptoRow.holds Try.pinned (OpenSpec.upto fnBooleanOkSpec)

/-- 'laws.FnBlocksWith', WHERE WHAT IT READS IS OF BULK AT MOST 1048576: true; the input reads as it did. -/
def fnBlocksWithUptoRow : OpenClaim := { program := "ytcbjpdaogicibaa", sum := "b1b646f622264e6cd9e39b36b0672cf6996aaf9b19f6853f830d28e901730f68", func := "loop.example/orthologics/laws.FnBlocksWith", spec := "fnBlocksWith", unfollowed := true, recurses := true, apart := false, narrowed := true }
def FnBlocksWithUptoSaid : Prop := fnBlocksWithUptoRow.holds Try.pinned (OpenSpec.upto fnBlocksWithSpec)

/-- 'laws.FnAgreeOk', WHERE WHAT IT READS IS OF BULK AT MOST 1048576: true; the input reads as it did. -/
def fnAgreeOkUptoRow : OpenClaim := { program := "ytcbjpdaogicibaa", sum := "b1b646f622264e6cd9e39b36b0672cf6996aaf9b19f6853f830d28e901730f68", func := "loop.example/orthologics/laws.FnAgreeOk", spec := "fnAgreeOk", unfollowed := true, recurses := true, apart := false, narrowed := true }
def FnAgreeOkUptoSaid : Prop := fnAgreeOkUptoRow.holds Try.pinned (OpenSpec.upto fnAgreeOkSpec)

/-- 'laws.FnBlocksOf', WHERE WHAT IT READS IS OF BULK AT MOST 1048576: true; the input reads as it did. -/
def fnBlocksOfUptoRow : OpenClaim := { program := "ytcbjpdaogicibaa", sum := "b1b646f622264e6cd9e39b36b0672cf6996aaf9b19f6853f830d28e901730f68", func := "loop.example/orthologics/laws.FnBlocksOf", spec := "fnBlocksOf", unfollowed := true, recurses := true, apart := false, narrowed := true }
def FnBlocksOfUptoSaid : Prop := fnBlocksOfUptoRow.holds Try.pinned (OpenSpec.upto fnBlocksOfSpec)

/-- 'laws.FnValueOf', WHERE WHAT IT READS IS OF BULK AT MOST 1048576: true; the input reads as it did. -/
def fnValueOfUptoRow : OpenClaim := { program := "ytcbjpdaogicibaa", sum := "b1b646f622264e6cd9e39b36b0672cf6996aaf9b19f6853f830d28e901730f68", func := "loop.example/orthologics/laws.FnValueOf", spec := "fnValueOf", recurses := true, apart := false, narrowed := true }
def FnValueOfUptoSaid : Prop := fnValueOfUptoRow.holds Try.pinned (OpenSpec.upto fnValueOfSpec)

/-- 'laws.FnFullOk', WHERE WHAT IT READS IS OF BULK AT MOST 1048576: true; the input reads as it did. -/
def fnFullOkUptoRow : OpenClaim := { program := "ytcbjpdaogicibaa", sum := "b1b646f622264e6cd9e39b36b0672cf6996aaf9b19f6853f830d28e901730f68", func := "loop.example/orthologics/laws.FnFullOk", spec := "fnFullOk", unfollowed := true, recurses := true, apart := false, narrowed := true }
def FnFullOkUptoSaid : Prop := fnFullOkUptoRow.holds Try.pinned (OpenSpec.upto fnFullOkSpec)

/-- 'laws.FnStatesOf', WHERE WHAT IT READS IS OF BULK AT MOST 1048576: true; the input reads as it did. -/
def fnStatesOfUptoRow : OpenClaim := { program := "ytcbjpdaogicibaa", sum := "b1b646f622264e6cd9e39b36b0672cf6996aaf9b19f6853f830d28e901730f68", func := "loop.example/orthologics/laws.FnStatesOf", spec := "fnStatesOf", unfollowed := true, recurses := true, apart := false, narrowed := true }
def FnStatesOfUptoSaid : Prop := fnStatesOfUptoRow.holds Try.pinned (OpenSpec.upto fnStatesOfSpec)

/-- 'laws.FnSameOk', WHERE WHAT IT READS IS OF BULK AT MOST 1048576: true; the input reads as it did. -/
def fnSameOkUptoRow : OpenClaim := { program := "ytcbjpdaogicibaa", sum := "b1b646f622264e6cd9e39b36b0672cf6996aaf9b19f6853f830d28e901730f68", func := "loop.example/orthologics/laws.FnSameOk", spec := "fnSameOk", unfollowed := true, recurses := true, apart := false, narrowed := true }
def FnSameOkUptoSaid : Prop := fnSameOkUptoRow.holds Try.pinned (OpenSpec.upto fnSameOkSpec)

/-- 'laws.FnAlwaysOk', WHERE WHAT IT READS IS OF BULK AT MOST 1048576: true; the input reads as it did. -/
def fnAlwaysOkUptoRow : OpenClaim := { program := "ytcbjpdaogicibaa", sum := "b1b646f622264e6cd9e39b36b0672cf6996aaf9b19f6853f830d28e901730f68", func := "loop.example/orthologics/laws.FnAlwaysOk", spec := "fnAlwaysOk", unfollowed := true, recurses := true, apart := false, narrowed := true }
def FnAlwaysOkUptoSaid : Prop := fnAlwaysOkUptoRow.holds Try.pinned (OpenSpec.upto fnAlwaysOkSpec)

/-- 'laws.FnDeskOk', WHERE WHAT IT READS IS OF BULK AT MOST 1048576: true; the input reads as it did. -/
def fnDeskOkUptoRow : OpenClaim := { program := "ytcbjpdaogicibaa", sum := "b1b646f622264e6cd9e39b36b0672cf6996aaf9b19f6853f830d28e901730f68", func := "loop.example/orthologics/laws.FnDeskOk", spec := "fnDeskOk", unfollowed := true, recurses := true, apart := false, narrowed := true }
def FnDeskOkUptoSaid : Prop := fnDeskOkUptoRow.holds Try.pinned (OpenSpec.upto fnDeskOkSpec)

/-- 'laws.FnDeskNew', WHERE WHAT IT READS IS OF BULK AT MOST 1048576: true; the input reads as it did. -/
def fnDeskNewUptoRow : OpenClaim := { program := "ytcbjpdaogicibaa", sum := "b1b646f622264e6cd9e39b36b0672cf6996aaf9b19f6853f830d28e901730f68", func := "loop.example/orthologics/laws.FnDeskNew", spec := "fnDeskNew", unfollowed := true, recurses := true, apart := false, narrowed := true }
def FnDeskNewUptoSaid : Prop := fnDeskNewUptoRow.holds Try.pinned (OpenSpec.upto fnDeskNewSpec)

end Rows
end Go.Proofs.Ytcbjpdaogicibaa
