/-
  No cell of these rows narrows 'for every input' (looked for: loops, veiled, ifaces, maps, wideKeys, modest, calm, conditions, laid).
  DERIVED. THE GIVEN ROWS OF THIS SEAT. 12 by the template 'for every input the law returns true; each argument reads behind the call as it read before'; 0 by the template 'total and deterministic' (their statements: YtjoadckkdophnaaTotals.lean).
  GIVEN WITH THE SEED: the statements are not yours to turn. If you find one false, say at which input.
  Laid BY PROGRAM, IN A SANDBOX (cutbox-rows.mjs): the forced cells as the released guide's own fill.sh prints them over the translation 6daadf21dacc39e3… (all of the seat's roots in one cut). By AI agents, Wed Nov 11 2026. No macro, syntax, notation, axiom, sorry.
-/
import Derived.Test.YtjoadckkdophnaaChecked
import GoSem.Claim
import GoSem.ClaimJoined
import GoSem.ClaimMapViews
import Derived.JoinedTies
import Derived.KernelRfl
namespace Go.Proofs.Ytjoadckkdophnaa
/- THE CELL 'sum', in the pinned program and in every row, IS THE sha256 OF THE DUMP (.gsa) THAT YtjoadckkdophnaaProg.lean LOADS. Nothing in Lean hashes anything: it is a label: what it is worth is what the hold of that sum in a sandbox is worth. -/
noncomputable def Try.pinned : Pinned := { name := "ytjoadckkdophnaa", sum := "6daadf21dacc39e3bdeb0a9ebafe5d735c8bf882342bac4b188b05581687e03f", checked := Try.checked }
namespace Rows
def none {H : Type} : Left H := { results := [], args := [] }

/-- 'laws.FnExactFormulaOk': WHATEVER THE INPUT: true; the input reads as it did. -/
def fnExactFormulaOkSpec : ChangeSpec := { name := "fnExactFormulaOk", fn := fun _ => fun
  | [d] => { results := [.lit (.bool true)], args := [d] }
  | _ => none }
def fnExactFormulaOkRow : OpenClaim := { program := "ytjoadckkdophnaa", sum := "6daadf21dacc39e3bdeb0a9ebafe5d735c8bf882342bac4b188b05581687e03f", func := "loop.example/orthologics/laws.FnExactFormulaOk", spec := "fnExactFormulaOk", recurses := true, apart := false }
def FnExactFormulaOkSaid : Prop := fnExactFormulaOkRow.holds Try.pinned (OpenSpec.ofChange fnExactFormulaOkSpec)

/-- ITS FALSE NEIGHBOUR: 'it returns false'. Refute it at one input. -/
def fnExactFormulaOkWrong : ChangeSpec := { name := "fnExactFormulaOk", fn := fun _ => fun
  | [d] => { results := [.lit (.bool false)], args := [d] }
  | _ => none }
def FnExactFormulaOkWrongFalsely : Prop := fnExactFormulaOkRow.holds Try.pinned (OpenSpec.ofChange fnExactFormulaOkWrong)

/-- 'laws.FnExactHookOf': WHATEVER THE INPUT: true; the input reads as it did. -/
def fnExactHookOfSpec : ChangeSpec := { name := "fnExactHookOf", fn := fun _ => fun
  | [d1, d2, d3] => { results := [.lit (.bool true)], args := [d1, d2, d3] }
  | _ => none }
def fnExactHookOfRow : OpenClaim := { program := "ytjoadckkdophnaa", sum := "6daadf21dacc39e3bdeb0a9ebafe5d735c8bf882342bac4b188b05581687e03f", func := "loop.example/orthologics/laws.FnExactHookOf", spec := "fnExactHookOf", apart := false }
def FnExactHookOfSaid : Prop := fnExactHookOfRow.holds Try.pinned (OpenSpec.ofChange fnExactHookOfSpec)

/-- ITS FALSE NEIGHBOUR: 'it returns false'. Refute it at one input. -/
def fnExactHookOfWrong : ChangeSpec := { name := "fnExactHookOf", fn := fun _ => fun
  | [d1, d2, d3] => { results := [.lit (.bool false)], args := [d1, d2, d3] }
  | _ => none }
def FnExactHookOfWrongFalsely : Prop := fnExactHookOfRow.holds Try.pinned (OpenSpec.ofChange fnExactHookOfWrong)

/-- 'laws.FnExactProjectOf': WHATEVER THE INPUT: true; the input reads as it did. -/
def fnExactProjectOfSpec : ChangeSpec := { name := "fnExactProjectOf", fn := fun _ => fun
  | [d1, d2, d3] => { results := [.lit (.bool true)], args := [d1, d2, d3] }
  | _ => none }
def fnExactProjectOfRow : OpenClaim := { program := "ytjoadckkdophnaa", sum := "6daadf21dacc39e3bdeb0a9ebafe5d735c8bf882342bac4b188b05581687e03f", func := "loop.example/orthologics/laws.FnExactProjectOf", spec := "fnExactProjectOf", apart := false }
def FnExactProjectOfSaid : Prop := fnExactProjectOfRow.holds Try.pinned (OpenSpec.ofChange fnExactProjectOfSpec)

/-- ITS FALSE NEIGHBOUR: 'it returns false'. Refute it at one input. -/
def fnExactProjectOfWrong : ChangeSpec := { name := "fnExactProjectOf", fn := fun _ => fun
  | [d1, d2, d3] => { results := [.lit (.bool false)], args := [d1, d2, d3] }
  | _ => none }
def FnExactProjectOfWrongFalsely : Prop := fnExactProjectOfRow.holds Try.pinned (OpenSpec.ofChange fnExactProjectOfWrong)

/-- 'laws.FnExactPentagonOf': WHATEVER THE INPUT: true; the input reads as it did. -/
def fnExactPentagonOfSpec : ChangeSpec := { name := "fnExactPentagonOf", fn := fun _ => fun
  | [d] => { results := [.lit (.bool true)], args := [d] }
  | _ => none }
def fnExactPentagonOfRow : OpenClaim := { program := "ytjoadckkdophnaa", sum := "6daadf21dacc39e3bdeb0a9ebafe5d735c8bf882342bac4b188b05581687e03f", func := "loop.example/orthologics/laws.FnExactPentagonOf", spec := "fnExactPentagonOf", apart := false }
def FnExactPentagonOfSaid : Prop := fnExactPentagonOfRow.holds Try.pinned (OpenSpec.ofChange fnExactPentagonOfSpec)

/-- ITS FALSE NEIGHBOUR: 'it returns false'. Refute it at one input. -/
def fnExactPentagonOfWrong : ChangeSpec := { name := "fnExactPentagonOf", fn := fun _ => fun
  | [d] => { results := [.lit (.bool false)], args := [d] }
  | _ => none }
def FnExactPentagonOfWrongFalsely : Prop := fnExactPentagonOfRow.holds Try.pinned (OpenSpec.ofChange fnExactPentagonOfWrong)

/-- 'laws.FnExactBehindOf': WHATEVER THE INPUT: true; the input reads as it did. -/
def fnExactBehindOfSpec : ChangeSpec := { name := "fnExactBehindOf", fn := fun _ => fun
  | [d1, d2, d3, d4] => { results := [.lit (.bool true)], args := [d1, d2, d3, d4] }
  | _ => none }
def fnExactBehindOfRow : OpenClaim := { program := "ytjoadckkdophnaa", sum := "6daadf21dacc39e3bdeb0a9ebafe5d735c8bf882342bac4b188b05581687e03f", func := "loop.example/orthologics/laws.FnExactBehindOf", spec := "fnExactBehindOf", apart := false }
def FnExactBehindOfSaid : Prop := fnExactBehindOfRow.holds Try.pinned (OpenSpec.ofChange fnExactBehindOfSpec)

/-- ITS FALSE NEIGHBOUR: 'it returns false'. Refute it at one input. -/
def fnExactBehindOfWrong : ChangeSpec := { name := "fnExactBehindOf", fn := fun _ => fun
  | [d1, d2, d3, d4] => { results := [.lit (.bool false)], args := [d1, d2, d3, d4] }
  | _ => none }
def FnExactBehindOfWrongFalsely : Prop := fnExactBehindOfRow.holds Try.pinned (OpenSpec.ofChange fnExactBehindOfWrong)

/-- 'laws.FnExactModularOk': WHATEVER THE INPUT: true; the input reads as it did. -/
def fnExactModularOkSpec : ChangeSpec := { name := "fnExactModularOk", fn := fun _ => fun
  | [d] => { results := [.lit (.bool true)], args := [d] }
  | _ => none }
def fnExactModularOkRow : OpenClaim := { program := "ytjoadckkdophnaa", sum := "6daadf21dacc39e3bdeb0a9ebafe5d735c8bf882342bac4b188b05581687e03f", func := "loop.example/orthologics/laws.FnExactModularOk", spec := "fnExactModularOk", unfollowed := true, recurses := true, apart := false }
def FnExactModularOkSaid : Prop := fnExactModularOkRow.holds Try.pinned (OpenSpec.ofChange fnExactModularOkSpec)

/-- ITS FALSE NEIGHBOUR: 'it returns false'. Refute it at one input. -/
def fnExactModularOkWrong : ChangeSpec := { name := "fnExactModularOk", fn := fun _ => fun
  | [d] => { results := [.lit (.bool false)], args := [d] }
  | _ => none }
def FnExactModularOkWrongFalsely : Prop := fnExactModularOkRow.holds Try.pinned (OpenSpec.ofChange fnExactModularOkWrong)

/-- 'laws.FnExactHighOf': WHATEVER THE INPUT: true; the input reads as it did. -/
def fnExactHighOfSpec : ChangeSpec := { name := "fnExactHighOf", fn := fun _ => fun
  | [d1, d2] => { results := [.lit (.bool true)], args := [d1, d2] }
  | _ => none }
def fnExactHighOfRow : OpenClaim := { program := "ytjoadckkdophnaa", sum := "6daadf21dacc39e3bdeb0a9ebafe5d735c8bf882342bac4b188b05581687e03f", func := "loop.example/orthologics/laws.FnExactHighOf", spec := "fnExactHighOf", recurses := true, apart := false }
def FnExactHighOfSaid : Prop := fnExactHighOfRow.holds Try.pinned (OpenSpec.ofChange fnExactHighOfSpec)

/-- ITS FALSE NEIGHBOUR: 'it returns false'. Refute it at one input. -/
def fnExactHighOfWrong : ChangeSpec := { name := "fnExactHighOf", fn := fun _ => fun
  | [d1, d2] => { results := [.lit (.bool false)], args := [d1, d2] }
  | _ => none }
def FnExactHighOfWrongFalsely : Prop := fnExactHighOfRow.holds Try.pinned (OpenSpec.ofChange fnExactHighOfWrong)

/-- 'laws.FnExactAddsUpOk': WHATEVER THE INPUT: true; the input reads as it did. -/
def fnExactAddsUpOkSpec : ChangeSpec := { name := "fnExactAddsUpOk", fn := fun _ => fun
  | [d] => { results := [.lit (.bool true)], args := [d] }
  | _ => none }
def fnExactAddsUpOkRow : OpenClaim := { program := "ytjoadckkdophnaa", sum := "6daadf21dacc39e3bdeb0a9ebafe5d735c8bf882342bac4b188b05581687e03f", func := "loop.example/orthologics/laws.FnExactAddsUpOk", spec := "fnExactAddsUpOk", unfollowed := true, recurses := true, apart := false }
def FnExactAddsUpOkSaid : Prop := fnExactAddsUpOkRow.holds Try.pinned (OpenSpec.ofChange fnExactAddsUpOkSpec)

/-- ITS FALSE NEIGHBOUR: 'it returns false'. Refute it at one input. -/
def fnExactAddsUpOkWrong : ChangeSpec := { name := "fnExactAddsUpOk", fn := fun _ => fun
  | [d] => { results := [.lit (.bool false)], args := [d] }
  | _ => none }
def FnExactAddsUpOkWrongFalsely : Prop := fnExactAddsUpOkRow.holds Try.pinned (OpenSpec.ofChange fnExactAddsUpOkWrong)

/-- 'laws.FnExactUpToOf': WHATEVER THE INPUT: true; the input reads as it did. -/
def fnExactUpToOfSpec : ChangeSpec := { name := "fnExactUpToOf", fn := fun _ => fun
  | [d1, d2] => { results := [.lit (.bool true)], args := [d1, d2] }
  | _ => none }
def fnExactUpToOfRow : OpenClaim := { program := "ytjoadckkdophnaa", sum := "6daadf21dacc39e3bdeb0a9ebafe5d735c8bf882342bac4b188b05581687e03f", func := "loop.example/orthologics/laws.FnExactUpToOf", spec := "fnExactUpToOf", unfollowed := true, recurses := true, apart := false }
def FnExactUpToOfSaid : Prop := fnExactUpToOfRow.holds Try.pinned (OpenSpec.ofChange fnExactUpToOfSpec)

/-- ITS FALSE NEIGHBOUR: 'it returns false'. Refute it at one input. -/
def fnExactUpToOfWrong : ChangeSpec := { name := "fnExactUpToOf", fn := fun _ => fun
  | [d1, d2] => { results := [.lit (.bool false)], args := [d1, d2] }
  | _ => none }
def FnExactUpToOfWrongFalsely : Prop := fnExactUpToOfRow.holds Try.pinned (OpenSpec.ofChange fnExactUpToOfWrong)

/-- 'laws.FnExactClearOf': WHATEVER THE INPUT: true; the input reads as it did. -/
def fnExactClearOfSpec : ChangeSpec := { name := "fnExactClearOf", fn := fun _ => fun
  | [d1, d2] => { results := [.lit (.bool true)], args := [d1, d2] }
  | _ => none }
def fnExactClearOfRow : OpenClaim := { program := "ytjoadckkdophnaa", sum := "6daadf21dacc39e3bdeb0a9ebafe5d735c8bf882342bac4b188b05581687e03f", func := "loop.example/orthologics/laws.FnExactClearOf", spec := "fnExactClearOf", unfollowed := true, recurses := true, apart := false }
def FnExactClearOfSaid : Prop := fnExactClearOfRow.holds Try.pinned (OpenSpec.ofChange fnExactClearOfSpec)

/-- ITS FALSE NEIGHBOUR: 'it returns false'. Refute it at one input. -/
def fnExactClearOfWrong : ChangeSpec := { name := "fnExactClearOf", fn := fun _ => fun
  | [d1, d2] => { results := [.lit (.bool false)], args := [d1, d2] }
  | _ => none }
def FnExactClearOfWrongFalsely : Prop := fnExactClearOfRow.holds Try.pinned (OpenSpec.ofChange fnExactClearOfWrong)

/-- 'laws.FnExactBlocksOf': WHATEVER THE INPUT: true; the input reads as it did. -/
def fnExactBlocksOfSpec : ChangeSpec := { name := "fnExactBlocksOf", fn := fun _ => fun
  | [d] => { results := [.lit (.bool true)], args := [d] }
  | _ => none }
def fnExactBlocksOfRow : OpenClaim := { program := "ytjoadckkdophnaa", sum := "6daadf21dacc39e3bdeb0a9ebafe5d735c8bf882342bac4b188b05581687e03f", func := "loop.example/orthologics/laws.FnExactBlocksOf", spec := "fnExactBlocksOf", unfollowed := true, recurses := true, apart := false }
def FnExactBlocksOfSaid : Prop := fnExactBlocksOfRow.holds Try.pinned (OpenSpec.ofChange fnExactBlocksOfSpec)

/-- ITS FALSE NEIGHBOUR: 'it returns false'. Refute it at one input. -/
def fnExactBlocksOfWrong : ChangeSpec := { name := "fnExactBlocksOf", fn := fun _ => fun
  | [d] => { results := [.lit (.bool false)], args := [d] }
  | _ => none }
def FnExactBlocksOfWrongFalsely : Prop := fnExactBlocksOfRow.holds Try.pinned (OpenSpec.ofChange fnExactBlocksOfWrong)

/-- 'laws.FnExactBlocksWith': WHATEVER THE INPUT: true; the input reads as it did. -/
def fnExactBlocksWithSpec : ChangeSpec := { name := "fnExactBlocksWith", fn := fun _ => fun
  | [d1, d2] => { results := [.lit (.bool true)], args := [d1, d2] }
  | _ => none }
def fnExactBlocksWithRow : OpenClaim := { program := "ytjoadckkdophnaa", sum := "6daadf21dacc39e3bdeb0a9ebafe5d735c8bf882342bac4b188b05581687e03f", func := "loop.example/orthologics/laws.FnExactBlocksWith", spec := "fnExactBlocksWith", unfollowed := true, recurses := true, apart := false }
def FnExactBlocksWithSaid : Prop := fnExactBlocksWithRow.holds Try.pinned (OpenSpec.ofChange fnExactBlocksWithSpec)

/-- ITS FALSE NEIGHBOUR: 'it returns false'. Refute it at one input. -/
def fnExactBlocksWithWrong : ChangeSpec := { name := "fnExactBlocksWith", fn := fun _ => fun
  | [d1, d2] => { results := [.lit (.bool false)], args := [d1, d2] }
  | _ => none }
def FnExactBlocksWithWrongFalsely : Prop := fnExactBlocksWithRow.holds Try.pinned (OpenSpec.ofChange fnExactBlocksWithWrong)

/- THE SECOND FORM. 'bulk': how many values and letters a reading holds, each counted each time it is reached (what is shared counts as often as it is met; a slice's spare places count too). A statement '..UptoSaid' is the law's where the arguments, and the package variables that the reading takes, are together of bulk at most 1048576: NARROWER than '..Said'. Prove '..Said' where nothing that the law and all that it calls make is longer than what came in: it says more and counts as full. Else prove '..UptoSaid'. A law counts once. -/
mutual
def uptoBulk {H : Type} : DataW H → Nat
  | .lit (.string bytes) => bytes.length + 1
  | .lit _ => 1
  | .nil => 1
  | .ptr d => uptoBulk d + 1
  | .slice elems spare => uptoBulkAll elems + uptoBulkAll spare + 1
  | .agg parts => uptoBulkAll parts + 1
  | .iface _ d => uptoBulk d + 1
  | .map entries => uptoBulkEntries entries + 1
  | .held _ => 1
def uptoBulkAll {H : Type} : List (DataW H) → Nat
  | [] => 0
  | d :: r => uptoBulk d + uptoBulkAll r
def uptoBulkEntries {H : Type} : List (Lit × DataW H) → Nat
  | [] => 0
  | x :: r => uptoBulkEntry x + uptoBulkEntries r
def uptoBulkEntry {H : Type} : Lit × DataW H → Nat
  | (.string bytes, d) => bytes.length + uptoBulk d + 1
  | (_, d) => uptoBulk d + 1
 end
def uptoSmall : (H : Type) → List (DataW H) → Bool := fun _ ds => decide (uptoBulkAll ds ≤ 1048576)
def OpenSpec.upto (s : _root_.Go.ChangeSpec) : _root_.Go.OpenSpec := { _root_.Go.OpenSpec.ofChange s with cond := some uptoSmall }

/-- 'laws.FnExactFormulaOk', WHERE WHAT IT READS IS OF BULK AT MOST 1048576: true; the input reads as it did. -/
def fnExactFormulaOkUptoRow : OpenClaim := { program := "ytjoadckkdophnaa", sum := "6daadf21dacc39e3bdeb0a9ebafe5d735c8bf882342bac4b188b05581687e03f", func := "loop.example/orthologics/laws.FnExactFormulaOk", spec := "fnExactFormulaOk", recurses := true, apart := false, narrowed := true }
def FnExactFormulaOkUptoSaid : Prop := fnExactFormulaOkUptoRow.holds Try.pinned (OpenSpec.upto fnExactFormulaOkSpec)

/-- 'laws.FnExactHookOf', WHERE WHAT IT READS IS OF BULK AT MOST 1048576: true; the input reads as it did. -/
def fnExactHookOfUptoRow : OpenClaim := { program := "ytjoadckkdophnaa", sum := "6daadf21dacc39e3bdeb0a9ebafe5d735c8bf882342bac4b188b05581687e03f", func := "loop.example/orthologics/laws.FnExactHookOf", spec := "fnExactHookOf", apart := false, narrowed := true }
def FnExactHookOfUptoSaid : Prop := fnExactHookOfUptoRow.holds Try.pinned (OpenSpec.upto fnExactHookOfSpec)

/-- 'laws.FnExactProjectOf', WHERE WHAT IT READS IS OF BULK AT MOST 1048576: true; the input reads as it did. -/
def fnExactProjectOfUptoRow : OpenClaim := { program := "ytjoadckkdophnaa", sum := "6daadf21dacc39e3bdeb0a9ebafe5d735c8bf882342bac4b188b05581687e03f", func := "loop.example/orthologics/laws.FnExactProjectOf", spec := "fnExactProjectOf", apart := false, narrowed := true }
def FnExactProjectOfUptoSaid : Prop := fnExactProjectOfUptoRow.holds Try.pinned (OpenSpec.upto fnExactProjectOfSpec)

/-- 'laws.FnExactPentagonOf', WHERE WHAT IT READS IS OF BULK AT MOST 1048576: true; the input reads as it did. -/
def fnExactPentagonOfUptoRow : OpenClaim := { program := "ytjoadckkdophnaa", sum := "6daadf21dacc39e3bdeb0a9ebafe5d735c8bf882342bac4b188b05581687e03f", func := "loop.example/orthologics/laws.FnExactPentagonOf", spec := "fnExactPentagonOf", apart := false, narrowed := true }
def FnExactPentagonOfUptoSaid : Prop := fnExactPentagonOfUptoRow.holds Try.pinned (OpenSpec.upto fnExactPentagonOfSpec)

/-- 'laws.FnExactBehindOf', WHERE WHAT IT READS IS OF BULK AT MOST 1048576: true; the input reads as it did. -/
def fnExactBehindOfUptoRow : OpenClaim := { program := "ytjoadckkdophnaa", sum := "6daadf21dacc39e3bdeb0a9ebafe5d735c8bf882342bac4b188b05581687e03f", func := "loop.example/orthologics/laws.FnExactBehindOf", spec := "fnExactBehindOf", apart := false, narrowed := true }
def FnExactBehindOfUptoSaid : Prop := fnExactBehindOfUptoRow.holds Try.pinned (OpenSpec.upto fnExactBehindOfSpec)

/-- 'laws.FnExactModularOk', WHERE WHAT IT READS IS OF BULK AT MOST 1048576: true; the input reads as it did. -/
def fnExactModularOkUptoRow : OpenClaim := { program := "ytjoadckkdophnaa", sum := "6daadf21dacc39e3bdeb0a9ebafe5d735c8bf882342bac4b188b05581687e03f", func := "loop.example/orthologics/laws.FnExactModularOk", spec := "fnExactModularOk", unfollowed := true, recurses := true, apart := false, narrowed := true }
def FnExactModularOkUptoSaid : Prop := fnExactModularOkUptoRow.holds Try.pinned (OpenSpec.upto fnExactModularOkSpec)

/-- 'laws.FnExactHighOf', WHERE WHAT IT READS IS OF BULK AT MOST 1048576: true; the input reads as it did. -/
def fnExactHighOfUptoRow : OpenClaim := { program := "ytjoadckkdophnaa", sum := "6daadf21dacc39e3bdeb0a9ebafe5d735c8bf882342bac4b188b05581687e03f", func := "loop.example/orthologics/laws.FnExactHighOf", spec := "fnExactHighOf", recurses := true, apart := false, narrowed := true }
def FnExactHighOfUptoSaid : Prop := fnExactHighOfUptoRow.holds Try.pinned (OpenSpec.upto fnExactHighOfSpec)

/-- 'laws.FnExactAddsUpOk', WHERE WHAT IT READS IS OF BULK AT MOST 1048576: true; the input reads as it did. -/
def fnExactAddsUpOkUptoRow : OpenClaim := { program := "ytjoadckkdophnaa", sum := "6daadf21dacc39e3bdeb0a9ebafe5d735c8bf882342bac4b188b05581687e03f", func := "loop.example/orthologics/laws.FnExactAddsUpOk", spec := "fnExactAddsUpOk", unfollowed := true, recurses := true, apart := false, narrowed := true }
def FnExactAddsUpOkUptoSaid : Prop := fnExactAddsUpOkUptoRow.holds Try.pinned (OpenSpec.upto fnExactAddsUpOkSpec)

/-- 'laws.FnExactUpToOf', WHERE WHAT IT READS IS OF BULK AT MOST 1048576: true; the input reads as it did. -/
def fnExactUpToOfUptoRow : OpenClaim := { program := "ytjoadckkdophnaa", sum := "6daadf21dacc39e3bdeb0a9ebafe5d735c8bf882342bac4b188b05581687e03f", func := "loop.example/orthologics/laws.FnExactUpToOf", spec := "fnExactUpToOf", unfollowed := true, recurses := true, apart := false, narrowed := true }
def FnExactUpToOfUptoSaid : Prop := fnExactUpToOfUptoRow.holds Try.pinned (OpenSpec.upto fnExactUpToOfSpec)

/-- 'laws.FnExactClearOf', WHERE WHAT IT READS IS OF BULK AT MOST 1048576: true; the input reads as it did. -/
def fnExactClearOfUptoRow : OpenClaim := { program := "ytjoadckkdophnaa", sum := "6daadf21dacc39e3bdeb0a9ebafe5d735c8bf882342bac4b188b05581687e03f", func := "loop.example/orthologics/laws.FnExactClearOf", spec := "fnExactClearOf", unfollowed := true, recurses := true, apart := false, narrowed := true }
def FnExactClearOfUptoSaid : Prop := fnExactClearOfUptoRow.holds Try.pinned (OpenSpec.upto fnExactClearOfSpec)

/-- 'laws.FnExactBlocksOf', WHERE WHAT IT READS IS OF BULK AT MOST 1048576: true; the input reads as it did. -/
def fnExactBlocksOfUptoRow : OpenClaim := { program := "ytjoadckkdophnaa", sum := "6daadf21dacc39e3bdeb0a9ebafe5d735c8bf882342bac4b188b05581687e03f", func := "loop.example/orthologics/laws.FnExactBlocksOf", spec := "fnExactBlocksOf", unfollowed := true, recurses := true, apart := false, narrowed := true }
def FnExactBlocksOfUptoSaid : Prop := fnExactBlocksOfUptoRow.holds Try.pinned (OpenSpec.upto fnExactBlocksOfSpec)

/-- 'laws.FnExactBlocksWith', WHERE WHAT IT READS IS OF BULK AT MOST 1048576: true; the input reads as it did. -/
def fnExactBlocksWithUptoRow : OpenClaim := { program := "ytjoadckkdophnaa", sum := "6daadf21dacc39e3bdeb0a9ebafe5d735c8bf882342bac4b188b05581687e03f", func := "loop.example/orthologics/laws.FnExactBlocksWith", spec := "fnExactBlocksWith", unfollowed := true, recurses := true, apart := false, narrowed := true }
def FnExactBlocksWithUptoSaid : Prop := fnExactBlocksWithUptoRow.holds Try.pinned (OpenSpec.upto fnExactBlocksWithSpec)

end Rows
end Go.Proofs.Ytjoadckkdophnaa
