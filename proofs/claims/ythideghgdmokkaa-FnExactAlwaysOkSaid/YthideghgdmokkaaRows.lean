/-
  No cell of these rows narrows 'for every input' (looked for: loops, veiled, ifaces, maps, wideKeys, modest, calm, conditions, laid).
  DERIVED. THE GIVEN ROWS OF THIS SEAT. 11 by the template 'for every input the law returns true; each argument reads behind the call as it read before'; 0 by the template 'total and deterministic' (their statements: YthideghgdmokkaaTotals.lean).
  GIVEN WITH THE SEED: the statements are not yours to turn. If you find one false, say at which input.
  Laid BY PROGRAM, IN A SANDBOX (cutbox-rows.mjs): the forced cells as the released guide's own fill.sh prints them over the translation 3a86e2ecb74ef27d… (all of the seat's roots in one cut). By AI agents, Wed Nov 11 2026. No macro, syntax, notation, axiom, sorry.
-/
import Derived.Test.YthideghgdmokkaaChecked
import GoSem.Claim
import GoSem.ClaimJoined
import GoSem.ClaimMapViews
import Derived.JoinedTies
import Derived.KernelRfl
namespace Go.Proofs.Ythideghgdmokkaa
/- THE CELL 'sum', in the pinned program and in every row, IS THE sha256 OF THE DUMP (.gsa) THAT YthideghgdmokkaaProg.lean LOADS. Nothing in Lean hashes anything: it is a label: what it is worth is what the hold of that sum in a sandbox is worth. -/
noncomputable def Try.pinned : Pinned := { name := "ythideghgdmokkaa", sum := "3a86e2ecb74ef27d9bab804c38c56e247ffe7dfbc2381aaf6b70e0dd53c9d6a7", checked := Try.checked }
namespace Rows
def none {H : Type} : Left H := { results := [], args := [] }

/-- 'laws.FnExactStateOk': WHATEVER THE INPUT: true; the input reads as it did. -/
def fnExactStateOkSpec : ChangeSpec := { name := "fnExactStateOk", fn := fun _ => fun
  | [d1, d2] => { results := [.lit (.bool true)], args := [d1, d2] }
  | _ => none }
def fnExactStateOkRow : OpenClaim := { program := "ythideghgdmokkaa", sum := "3a86e2ecb74ef27d9bab804c38c56e247ffe7dfbc2381aaf6b70e0dd53c9d6a7", func := "loop.example/orthologics/laws.FnExactStateOk", spec := "fnExactStateOk", unfollowed := true, recurses := true, apart := false }
def FnExactStateOkSaid : Prop := fnExactStateOkRow.holds Try.pinned (OpenSpec.ofChange fnExactStateOkSpec)

/-- ITS FALSE NEIGHBOUR: 'it returns false'. Refute it at one input. -/
def fnExactStateOkWrong : ChangeSpec := { name := "fnExactStateOk", fn := fun _ => fun
  | [d1, d2] => { results := [.lit (.bool false)], args := [d1, d2] }
  | _ => none }
def FnExactStateOkWrongFalsely : Prop := fnExactStateOkRow.holds Try.pinned (OpenSpec.ofChange fnExactStateOkWrong)

/-- 'laws.FnExactStatesOf': WHATEVER THE INPUT: true; the input reads as it did. -/
def fnExactStatesOfSpec : ChangeSpec := { name := "fnExactStatesOf", fn := fun _ => fun
  | [d] => { results := [.lit (.bool true)], args := [d] }
  | _ => none }
def fnExactStatesOfRow : OpenClaim := { program := "ythideghgdmokkaa", sum := "3a86e2ecb74ef27d9bab804c38c56e247ffe7dfbc2381aaf6b70e0dd53c9d6a7", func := "loop.example/orthologics/laws.FnExactStatesOf", spec := "fnExactStatesOf", unfollowed := true, recurses := true, apart := false }
def FnExactStatesOfSaid : Prop := fnExactStatesOfRow.holds Try.pinned (OpenSpec.ofChange fnExactStatesOfSpec)

/-- ITS FALSE NEIGHBOUR: 'it returns false'. Refute it at one input. -/
def fnExactStatesOfWrong : ChangeSpec := { name := "fnExactStatesOf", fn := fun _ => fun
  | [d] => { results := [.lit (.bool false)], args := [d] }
  | _ => none }
def FnExactStatesOfWrongFalsely : Prop := fnExactStatesOfRow.holds Try.pinned (OpenSpec.ofChange fnExactStatesOfWrong)

/-- 'laws.FnExactToldBy': WHATEVER THE INPUT: true; the input reads as it did. -/
def fnExactToldBySpec : ChangeSpec := { name := "fnExactToldBy", fn := fun _ => fun
  | [d1, d2] => { results := [.lit (.bool true)], args := [d1, d2] }
  | _ => none }
def fnExactToldByRow : OpenClaim := { program := "ythideghgdmokkaa", sum := "3a86e2ecb74ef27d9bab804c38c56e247ffe7dfbc2381aaf6b70e0dd53c9d6a7", func := "loop.example/orthologics/laws.FnExactToldBy", spec := "fnExactToldBy", unfollowed := true, recurses := true, apart := false }
def FnExactToldBySaid : Prop := fnExactToldByRow.holds Try.pinned (OpenSpec.ofChange fnExactToldBySpec)

/-- ITS FALSE NEIGHBOUR: 'it returns false'. Refute it at one input. -/
def fnExactToldByWrong : ChangeSpec := { name := "fnExactToldBy", fn := fun _ => fun
  | [d1, d2] => { results := [.lit (.bool false)], args := [d1, d2] }
  | _ => none }
def FnExactToldByWrongFalsely : Prop := fnExactToldByRow.holds Try.pinned (OpenSpec.ofChange fnExactToldByWrong)

/-- 'laws.FnExactFullOk': WHATEVER THE INPUT: true; the input reads as it did. -/
def fnExactFullOkSpec : ChangeSpec := { name := "fnExactFullOk", fn := fun _ => fun
  | [d] => { results := [.lit (.bool true)], args := [d] }
  | _ => none }
def fnExactFullOkRow : OpenClaim := { program := "ythideghgdmokkaa", sum := "3a86e2ecb74ef27d9bab804c38c56e247ffe7dfbc2381aaf6b70e0dd53c9d6a7", func := "loop.example/orthologics/laws.FnExactFullOk", spec := "fnExactFullOk", unfollowed := true, recurses := true, apart := false }
def FnExactFullOkSaid : Prop := fnExactFullOkRow.holds Try.pinned (OpenSpec.ofChange fnExactFullOkSpec)

/-- ITS FALSE NEIGHBOUR: 'it returns false'. Refute it at one input. -/
def fnExactFullOkWrong : ChangeSpec := { name := "fnExactFullOk", fn := fun _ => fun
  | [d] => { results := [.lit (.bool false)], args := [d] }
  | _ => none }
def FnExactFullOkWrongFalsely : Prop := fnExactFullOkRow.holds Try.pinned (OpenSpec.ofChange fnExactFullOkWrong)

/-- 'laws.FnExactValueOf': WHATEVER THE INPUT: true; the input reads as it did. -/
def fnExactValueOfSpec : ChangeSpec := { name := "fnExactValueOf", fn := fun _ => fun
  | [d1, d2, d3, d4, d5] => { results := [.lit (.bool true)], args := [d1, d2, d3, d4, d5] }
  | _ => none }
def fnExactValueOfRow : OpenClaim := { program := "ythideghgdmokkaa", sum := "3a86e2ecb74ef27d9bab804c38c56e247ffe7dfbc2381aaf6b70e0dd53c9d6a7", func := "loop.example/orthologics/laws.FnExactValueOf", spec := "fnExactValueOf", recurses := true, apart := false }
def FnExactValueOfSaid : Prop := fnExactValueOfRow.holds Try.pinned (OpenSpec.ofChange fnExactValueOfSpec)

/-- ITS FALSE NEIGHBOUR: 'it returns false'. Refute it at one input. -/
def fnExactValueOfWrong : ChangeSpec := { name := "fnExactValueOf", fn := fun _ => fun
  | [d1, d2, d3, d4, d5] => { results := [.lit (.bool false)], args := [d1, d2, d3, d4, d5] }
  | _ => none }
def FnExactValueOfWrongFalsely : Prop := fnExactValueOfRow.holds Try.pinned (OpenSpec.ofChange fnExactValueOfWrong)

/-- 'laws.FnExactSameOk': WHATEVER THE INPUT: true; the input reads as it did. -/
def fnExactSameOkSpec : ChangeSpec := { name := "fnExactSameOk", fn := fun _ => fun
  | [d1, d2, d3] => { results := [.lit (.bool true)], args := [d1, d2, d3] }
  | _ => none }
def fnExactSameOkRow : OpenClaim := { program := "ythideghgdmokkaa", sum := "3a86e2ecb74ef27d9bab804c38c56e247ffe7dfbc2381aaf6b70e0dd53c9d6a7", func := "loop.example/orthologics/laws.FnExactSameOk", spec := "fnExactSameOk", unfollowed := true, recurses := true, apart := false }
def FnExactSameOkSaid : Prop := fnExactSameOkRow.holds Try.pinned (OpenSpec.ofChange fnExactSameOkSpec)

/-- ITS FALSE NEIGHBOUR: 'it returns false'. Refute it at one input. -/
def fnExactSameOkWrong : ChangeSpec := { name := "fnExactSameOk", fn := fun _ => fun
  | [d1, d2, d3] => { results := [.lit (.bool false)], args := [d1, d2, d3] }
  | _ => none }
def FnExactSameOkWrongFalsely : Prop := fnExactSameOkRow.holds Try.pinned (OpenSpec.ofChange fnExactSameOkWrong)

/-- 'laws.FnExactAlwaysOk': WHATEVER THE INPUT: true; the input reads as it did. -/
def fnExactAlwaysOkSpec : ChangeSpec := { name := "fnExactAlwaysOk", fn := fun _ => fun
  | [d1, d2] => { results := [.lit (.bool true)], args := [d1, d2] }
  | _ => none }
def fnExactAlwaysOkRow : OpenClaim := { program := "ythideghgdmokkaa", sum := "3a86e2ecb74ef27d9bab804c38c56e247ffe7dfbc2381aaf6b70e0dd53c9d6a7", func := "loop.example/orthologics/laws.FnExactAlwaysOk", spec := "fnExactAlwaysOk", unfollowed := true, recurses := true, apart := false }
def FnExactAlwaysOkSaid : Prop := fnExactAlwaysOkRow.holds Try.pinned (OpenSpec.ofChange fnExactAlwaysOkSpec)

/-- ITS FALSE NEIGHBOUR: 'it returns false'. Refute it at one input. -/
def fnExactAlwaysOkWrong : ChangeSpec := { name := "fnExactAlwaysOk", fn := fun _ => fun
  | [d1, d2] => { results := [.lit (.bool false)], args := [d1, d2] }
  | _ => none }
def FnExactAlwaysOkWrongFalsely : Prop := fnExactAlwaysOkRow.holds Try.pinned (OpenSpec.ofChange fnExactAlwaysOkWrong)

/-- 'laws.FnExactDualOf': WHATEVER THE INPUT: true; the input reads as it did. -/
def fnExactDualOfSpec : ChangeSpec := { name := "fnExactDualOf", fn := fun _ => fun
  | [d] => { results := [.lit (.bool true)], args := [d] }
  | _ => none }
def fnExactDualOfRow : OpenClaim := { program := "ythideghgdmokkaa", sum := "3a86e2ecb74ef27d9bab804c38c56e247ffe7dfbc2381aaf6b70e0dd53c9d6a7", func := "loop.example/orthologics/laws.FnExactDualOf", spec := "fnExactDualOf", inPlace := ["sync/atomic.LoadUint32", "(*internal/sync.Mutex).Lock", "internal/race.Disable", "sync/atomic.CompareAndSwapInt32", "internal/race.Enable", "internal/race.Acquire", "(*internal/sync.Mutex).lockSlow", "internal/sync.runtime_canSpin", "internal/sync.runtime_doSpin", "internal/sync.throw", "internal/sync.runtime_nanotime", "internal/sync.runtime_SemacquireMutex", "sync/atomic.AddInt32", "(*internal/sync.Mutex).Unlock", "internal/race.ReleaseMerge", "(*internal/sync.Mutex).unlockSlow", "internal/sync.fatal", "internal/sync.runtime_Semrelease", "sync/atomic.StoreUint32"], unfollowed := true, recurses := true, apart := false }
def FnExactDualOfSaid : Prop := fnExactDualOfRow.holds Try.pinned (OpenSpec.ofChange fnExactDualOfSpec)

/-- ITS FALSE NEIGHBOUR: 'it returns false'. Refute it at one input. -/
def fnExactDualOfWrong : ChangeSpec := { name := "fnExactDualOf", fn := fun _ => fun
  | [d] => { results := [.lit (.bool false)], args := [d] }
  | _ => none }
def FnExactDualOfWrongFalsely : Prop := fnExactDualOfRow.holds Try.pinned (OpenSpec.ofChange fnExactDualOfWrong)

/-- 'laws.FnExactDeskNew': WHATEVER THE INPUT: true; the input reads as it did. -/
def fnExactDeskNewSpec : ChangeSpec := { name := "fnExactDeskNew", fn := fun _ => fun
  | [d] => { results := [.lit (.bool true)], args := [d] }
  | _ => none }
def fnExactDeskNewRow : OpenClaim := { program := "ythideghgdmokkaa", sum := "3a86e2ecb74ef27d9bab804c38c56e247ffe7dfbc2381aaf6b70e0dd53c9d6a7", func := "loop.example/orthologics/laws.FnExactDeskNew", spec := "fnExactDeskNew", unfollowed := true, recurses := true, apart := false }
def FnExactDeskNewSaid : Prop := fnExactDeskNewRow.holds Try.pinned (OpenSpec.ofChange fnExactDeskNewSpec)

/-- ITS FALSE NEIGHBOUR: 'it returns false'. Refute it at one input. -/
def fnExactDeskNewWrong : ChangeSpec := { name := "fnExactDeskNew", fn := fun _ => fun
  | [d] => { results := [.lit (.bool false)], args := [d] }
  | _ => none }
def FnExactDeskNewWrongFalsely : Prop := fnExactDeskNewRow.holds Try.pinned (OpenSpec.ofChange fnExactDeskNewWrong)

/-- 'laws.FnExactDeskOk': WHATEVER THE INPUT: true; the input reads as it did. -/
def fnExactDeskOkSpec : ChangeSpec := { name := "fnExactDeskOk", fn := fun _ => fun
  | [d] => { results := [.lit (.bool true)], args := [d] }
  | _ => none }
def fnExactDeskOkRow : OpenClaim := { program := "ythideghgdmokkaa", sum := "3a86e2ecb74ef27d9bab804c38c56e247ffe7dfbc2381aaf6b70e0dd53c9d6a7", func := "loop.example/orthologics/laws.FnExactDeskOk", spec := "fnExactDeskOk", unfollowed := true, recurses := true, apart := false }
def FnExactDeskOkSaid : Prop := fnExactDeskOkRow.holds Try.pinned (OpenSpec.ofChange fnExactDeskOkSpec)

/-- ITS FALSE NEIGHBOUR: 'it returns false'. Refute it at one input. -/
def fnExactDeskOkWrong : ChangeSpec := { name := "fnExactDeskOk", fn := fun _ => fun
  | [d] => { results := [.lit (.bool false)], args := [d] }
  | _ => none }
def FnExactDeskOkWrongFalsely : Prop := fnExactDeskOkRow.holds Try.pinned (OpenSpec.ofChange fnExactDeskOkWrong)

/-- 'laws.FnExactDeskDo': WHATEVER THE INPUT: true; the input reads as it did. -/
def fnExactDeskDoSpec : ChangeSpec := { name := "fnExactDeskDo", fn := fun _ => fun
  | [d1, d2] => { results := [.lit (.bool true)], args := [d1, d2] }
  | _ => none }
def fnExactDeskDoRow : OpenClaim := { program := "ythideghgdmokkaa", sum := "3a86e2ecb74ef27d9bab804c38c56e247ffe7dfbc2381aaf6b70e0dd53c9d6a7", func := "loop.example/orthologics/laws.FnExactDeskDo", spec := "fnExactDeskDo", unfollowed := true, recurses := true, apart := false }
def FnExactDeskDoSaid : Prop := fnExactDeskDoRow.holds Try.pinned (OpenSpec.ofChange fnExactDeskDoSpec)

/-- ITS FALSE NEIGHBOUR: 'it returns false'. Refute it at one input. -/
def fnExactDeskDoWrong : ChangeSpec := { name := "fnExactDeskDo", fn := fun _ => fun
  | [d1, d2] => { results := [.lit (.bool false)], args := [d1, d2] }
  | _ => none }
def FnExactDeskDoWrongFalsely : Prop := fnExactDeskDoRow.holds Try.pinned (OpenSpec.ofChange fnExactDeskDoWrong)

/- THE SECOND FORM. 'bulk': how many values and letters a reading holds, each counted each time it is reached (what is shared counts as often as it is met; a slice's spare places count too). A statement '..UptoSaid' is the law's where the arguments, and the package variables that the reading takes, are together of bulk at most 1048576: NARROWER than '..Said'. Prove '..Said' where nothing that the law and all that it calls make is longer than what came in: it says more and counts as full. Else prove '..UptoSaid'. A law counts once. -/
mutual
def uptoBulk {H : Type} : DataW H → Nat
  | .lit (.string bytes) => bytes.length + 1
  | .lit _ => 1
  | .nil => 1
  | .ptr d => uptoBulk d + 1
  | .slice elems spare => uptoBulkAll elems + uptoBulkAll spare + 1
  | .agg parts => uptoBulkAll parts + 1
  | .iface _ d => uptoBulk d + 1
  | .map entries => uptoBulkEntries entries + 1
  | .held _ => 1
def uptoBulkAll {H : Type} : List (DataW H) → Nat
  | [] => 0
  | d :: r => uptoBulk d + uptoBulkAll r
def uptoBulkEntries {H : Type} : List (Lit × DataW H) → Nat
  | [] => 0
  | x :: r => uptoBulkEntry x + uptoBulkEntries r
def uptoBulkEntry {H : Type} : Lit × DataW H → Nat
  | (.string bytes, d) => bytes.length + uptoBulk d + 1
  | (_, d) => uptoBulk d + 1
 end
def uptoSmall : (H : Type) → List (DataW H) → Bool := fun _ ds => decide (uptoBulkAll ds ≤ 1048576)
def OpenSpec.upto (s : _root_.Go.ChangeSpec) : _root_.Go.OpenSpec := { _root_.Go.OpenSpec.ofChange s with cond := some uptoSmall }

/-- 'laws.FnExactStateOk', WHERE WHAT IT READS IS OF BULK AT MOST 1048576: true; the input reads as it did. -/
def fnExactStateOkUptoRow : OpenClaim := { program := "ythideghgdmokkaa", sum := "3a86e2ecb74ef27d9bab804c38c56e247ffe7dfbc2381aaf6b70e0dd53c9d6a7", func := "loop.example/orthologics/laws.FnExactStateOk", spec := "fnExactStateOk", unfollowed := true, recurses := true, apart := false, narrowed := true }
def FnExactStateOkUptoSaid : Prop := fnExactStateOkUptoRow.holds Try.pinned (OpenSpec.upto fnExactStateOkSpec)

/-- 'laws.FnExactStatesOf', WHERE WHAT IT READS IS OF BULK AT MOST 1048576: true; the input reads as it did. -/
def fnExactStatesOfUptoRow : OpenClaim := { program := "ythideghgdmokkaa", sum := "3a86e2ecb74ef27d9bab804c38c56e247ffe7dfbc2381aaf6b70e0dd53c9d6a7", func := "loop.example/orthologics/laws.FnExactStatesOf", spec := "fnExactStatesOf", unfollowed := true, recurses := true, apart := false, narrowed := true }
def FnExactStatesOfUptoSaid : Prop := fnExactStatesOfUptoRow.holds Try.pinned (OpenSpec.upto fnExactStatesOfSpec)

/-- 'laws.FnExactToldBy', WHERE WHAT IT READS IS OF BULK AT MOST 1048576: true; the input reads as it did. -/
def fnExactToldByUptoRow : OpenClaim := { program := "ythideghgdmokkaa", sum := "3a86e2ecb74ef27d9bab804c38c56e247ffe7dfbc2381aaf6b70e0dd53c9d6a7", func := "loop.example/orthologics/laws.FnExactToldBy", spec := "fnExactToldBy", unfollowed := true, recurses := true, apart := false, narrowed := true }
def FnExactToldByUptoSaid : Prop := fnExactToldByUptoRow.holds Try.pinned (OpenSpec.upto fnExactToldBySpec)

/-- 'laws.FnExactFullOk', WHERE WHAT IT READS IS OF BULK AT MOST 1048576: true; the input reads as it did. -/
def fnExactFullOkUptoRow : OpenClaim := { program := "ythideghgdmokkaa", sum := "3a86e2ecb74ef27d9bab804c38c56e247ffe7dfbc2381aaf6b70e0dd53c9d6a7", func := "loop.example/orthologics/laws.FnExactFullOk", spec := "fnExactFullOk", unfollowed := true, recurses := true, apart := false, narrowed := true }
def FnExactFullOkUptoSaid : Prop := fnExactFullOkUptoRow.holds Try.pinned (OpenSpec.upto fnExactFullOkSpec)

/-- 'laws.FnExactValueOf', WHERE WHAT IT READS IS OF BULK AT MOST 1048576: true; the input reads as it did. -/
def fnExactValueOfUptoRow : OpenClaim := { program := "ythideghgdmokkaa", sum := "3a86e2ecb74ef27d9bab804c38c56e247ffe7dfbc2381aaf6b70e0dd53c9d6a7", func := "loop.example/orthologics/laws.FnExactValueOf", spec := "fnExactValueOf", recurses := true, apart := false, narrowed := true }
def FnExactValueOfUptoSaid : Prop := fnExactValueOfUptoRow.holds Try.pinned (OpenSpec.upto fnExactValueOfSpec)

/-- 'laws.FnExactSameOk', WHERE WHAT IT READS IS OF BULK AT MOST 1048576: true; the input reads as it did. -/
def fnExactSameOkUptoRow : OpenClaim := { program := "ythideghgdmokkaa", sum := "3a86e2ecb74ef27d9bab804c38c56e247ffe7dfbc2381aaf6b70e0dd53c9d6a7", func := "loop.example/orthologics/laws.FnExactSameOk", spec := "fnExactSameOk", unfollowed := true, recurses := true, apart := false, narrowed := true }
def FnExactSameOkUptoSaid : Prop := fnExactSameOkUptoRow.holds Try.pinned (OpenSpec.upto fnExactSameOkSpec)

/-- 'laws.FnExactAlwaysOk', WHERE WHAT IT READS IS OF BULK AT MOST 1048576: true; the input reads as it did. -/
def fnExactAlwaysOkUptoRow : OpenClaim := { program := "ythideghgdmokkaa", sum := "3a86e2ecb74ef27d9bab804c38c56e247ffe7dfbc2381aaf6b70e0dd53c9d6a7", func := "loop.example/orthologics/laws.FnExactAlwaysOk", spec := "fnExactAlwaysOk", unfollowed := true, recurses := true, apart := false, narrowed := true }
def FnExactAlwaysOkUptoSaid : Prop := fnExactAlwaysOkUptoRow.holds Try.pinned (OpenSpec.upto fnExactAlwaysOkSpec)

/-- 'laws.FnExactDualOf', WHERE WHAT IT READS IS OF BULK AT MOST 1048576: true; the input reads as it did. -/
def fnExactDualOfUptoRow : OpenClaim := { program := "ythideghgdmokkaa", sum := "3a86e2ecb74ef27d9bab804c38c56e247ffe7dfbc2381aaf6b70e0dd53c9d6a7", func := "loop.example/orthologics/laws.FnExactDualOf", spec := "fnExactDualOf", inPlace := ["sync/atomic.LoadUint32", "(*internal/sync.Mutex).Lock", "internal/race.Disable", "sync/atomic.CompareAndSwapInt32", "internal/race.Enable", "internal/race.Acquire", "(*internal/sync.Mutex).lockSlow", "internal/sync.runtime_canSpin", "internal/sync.runtime_doSpin", "internal/sync.throw", "internal/sync.runtime_nanotime", "internal/sync.runtime_SemacquireMutex", "sync/atomic.AddInt32", "(*internal/sync.Mutex).Unlock", "internal/race.ReleaseMerge", "(*internal/sync.Mutex).unlockSlow", "internal/sync.fatal", "internal/sync.runtime_Semrelease", "sync/atomic.StoreUint32"], unfollowed := true, recurses := true, apart := false, narrowed := true }
def FnExactDualOfUptoSaid : Prop := fnExactDualOfUptoRow.holds Try.pinned (OpenSpec.upto fnExactDualOfSpec)

/-- 'laws.FnExactDeskNew', WHERE WHAT IT READS IS OF BULK AT MOST 1048576: true; the input reads as it did. -/
def fnExactDeskNewUptoRow : OpenClaim := { program := "ythideghgdmokkaa", sum := "3a86e2ecb74ef27d9bab804c38c56e247ffe7dfbc2381aaf6b70e0dd53c9d6a7", func := "loop.example/orthologics/laws.FnExactDeskNew", spec := "fnExactDeskNew", unfollowed := true, recurses := true, apart := false, narrowed := true }
def FnExactDeskNewUptoSaid : Prop := fnExactDeskNewUptoRow.holds Try.pinned (OpenSpec.upto fnExactDeskNewSpec)

/-- 'laws.FnExactDeskOk', WHERE WHAT IT READS IS OF BULK AT MOST 1048576: true; the input reads as it did. -/
def fnExactDeskOkUptoRow : OpenClaim := { program := "ythideghgdmokkaa", sum := "3a86e2ecb74ef27d9bab804c38c56e247ffe7dfbc2381aaf6b70e0dd53c9d6a7", func := "loop.example/orthologics/laws.FnExactDeskOk", spec := "fnExactDeskOk", unfollowed := true, recurses := true, apart := false, narrowed := true }
def FnExactDeskOkUptoSaid : Prop := fnExactDeskOkUptoRow.holds Try.pinned (OpenSpec.upto fnExactDeskOkSpec)

/-- 'laws.FnExactDeskDo', WHERE WHAT IT READS IS OF BULK AT MOST 1048576: true; the input reads as it did. -/
def fnExactDeskDoUptoRow : OpenClaim := { program := "ythideghgdmokkaa", sum := "3a86e2ecb74ef27d9bab804c38c56e247ffe7dfbc2381aaf6b70e0dd53c9d6a7", func := "loop.example/orthologics/laws.FnExactDeskDo", spec := "fnExactDeskDo", unfollowed := true, recurses := true, apart := false, narrowed := true }
def FnExactDeskDoUptoSaid : Prop := fnExactDeskDoUptoRow.holds Try.pinned (OpenSpec.upto fnExactDeskDoSpec)

end Rows
end Go.Proofs.Ythideghgdmokkaa
