/-
  No cell of these rows narrows 'for every input' (looked for: loops, veiled, ifaces, maps, wideKeys, modest, calm, conditions, laid).
  DERIVED. THE GIVEN ROWS OF THIS SEAT. 12 by the template 'for every input the law returns true; each argument reads behind the call as it read before'; 0 by the template 'total and deterministic' (their statements: YtdoomkcgdcfmlaaTotals.lean).
  GIVEN WITH THE SEED: the statements are not yours to turn. If you find one false, say at which input.
  Laid BY PROGRAM, IN A SANDBOX (cutbox-rows.mjs): the forced cells as the released guide's own fill.sh prints them over the translation c23619ddcc367382… (all of the seat's roots in one cut). By AI agents, Wed Nov 11 2026. No macro, syntax, notation, axiom, sorry.
-/
import Derived.Test.YtdoomkcgdcfmlaaChecked
import GoSem.Claim
import GoSem.ClaimJoined
import GoSem.ClaimMapViews
import Derived.JoinedTies
import Derived.KernelRfl
namespace Go.Proofs.Ytdoomkcgdcfmlaa
/- THE CELL 'sum', in the pinned program and in every row, IS THE sha256 OF THE DUMP (.gsa) THAT YtdoomkcgdcfmlaaProg.lean LOADS. Nothing in Lean hashes anything: it is a label: what it is worth is what the hold of that sum in a sandbox is worth. -/
noncomputable def Try.pinned : Pinned := { name := "ytdoomkcgdcfmlaa", sum := "c23619ddcc36738297ebba0975b0a158982621812fb0afbfd17218d10532c405", checked := Try.checked }
namespace Rows
def none {H : Type} : Left H := { results := [], args := [] }

/-- 'laws.FnFormulaOk': WHATEVER THE INPUT: true; the input reads as it did. -/
def fnFormulaOkSpec : ChangeSpec := { name := "fnFormulaOk", fn := fun _ => fun
  | [d] => { results := [.lit (.bool true)], args := [d] }
  | _ => none }
def fnFormulaOkRow : OpenClaim := { program := "ytdoomkcgdcfmlaa", sum := "c23619ddcc36738297ebba0975b0a158982621812fb0afbfd17218d10532c405", func := "loop.example/orthologics/laws.FnFormulaOk", spec := "fnFormulaOk", recurses := true, apart := false }
def FnFormulaOkSaid : Prop := fnFormulaOkRow.holds Try.pinned (OpenSpec.ofChange fnFormulaOkSpec)

/-- ITS FALSE NEIGHBOUR: 'it returns false'. Refute it at one input. -/
def fnFormulaOkWrong : ChangeSpec := { name := "fnFormulaOk", fn := fun _ => fun
  | [d] => { results := [.lit (.bool false)], args := [d] }
  | _ => none }
def FnFormulaOkWrongFalsely : Prop := fnFormulaOkRow.holds Try.pinned (OpenSpec.ofChange fnFormulaOkWrong)

/-- 'laws.FnProjectOf': WHATEVER THE INPUT: true; the input reads as it did. -/
def fnProjectOfSpec : ChangeSpec := { name := "fnProjectOf", fn := fun _ => fun
  | [d] => { results := [.lit (.bool true)], args := [d] }
  | _ => none }
def fnProjectOfRow : OpenClaim := { program := "ytdoomkcgdcfmlaa", sum := "c23619ddcc36738297ebba0975b0a158982621812fb0afbfd17218d10532c405", func := "loop.example/orthologics/laws.FnProjectOf", spec := "fnProjectOf", apart := false }
def FnProjectOfSaid : Prop := fnProjectOfRow.holds Try.pinned (OpenSpec.ofChange fnProjectOfSpec)

/-- ITS FALSE NEIGHBOUR: 'it returns false'. Refute it at one input. -/
def fnProjectOfWrong : ChangeSpec := { name := "fnProjectOf", fn := fun _ => fun
  | [d] => { results := [.lit (.bool false)], args := [d] }
  | _ => none }
def FnProjectOfWrongFalsely : Prop := fnProjectOfRow.holds Try.pinned (OpenSpec.ofChange fnProjectOfWrong)

/-- 'laws.FnBehindOf': WHATEVER THE INPUT: true; the input reads as it did. -/
def fnBehindOfSpec : ChangeSpec := { name := "fnBehindOf", fn := fun _ => fun
  | [d] => { results := [.lit (.bool true)], args := [d] }
  | _ => none }
def fnBehindOfRow : OpenClaim := { program := "ytdoomkcgdcfmlaa", sum := "c23619ddcc36738297ebba0975b0a158982621812fb0afbfd17218d10532c405", func := "loop.example/orthologics/laws.FnBehindOf", spec := "fnBehindOf", apart := false }
def FnBehindOfSaid : Prop := fnBehindOfRow.holds Try.pinned (OpenSpec.ofChange fnBehindOfSpec)

/-- ITS FALSE NEIGHBOUR: 'it returns false'. Refute it at one input. -/
def fnBehindOfWrong : ChangeSpec := { name := "fnBehindOf", fn := fun _ => fun
  | [d] => { results := [.lit (.bool false)], args := [d] }
  | _ => none }
def FnBehindOfWrongFalsely : Prop := fnBehindOfRow.holds Try.pinned (OpenSpec.ofChange fnBehindOfWrong)

/-- 'laws.FnHookOf': WHATEVER THE INPUT: true; the input reads as it did. -/
def fnHookOfSpec : ChangeSpec := { name := "fnHookOf", fn := fun _ => fun
  | [d] => { results := [.lit (.bool true)], args := [d] }
  | _ => none }
def fnHookOfRow : OpenClaim := { program := "ytdoomkcgdcfmlaa", sum := "c23619ddcc36738297ebba0975b0a158982621812fb0afbfd17218d10532c405", func := "loop.example/orthologics/laws.FnHookOf", spec := "fnHookOf", apart := false }
def FnHookOfSaid : Prop := fnHookOfRow.holds Try.pinned (OpenSpec.ofChange fnHookOfSpec)

/-- ITS FALSE NEIGHBOUR: 'it returns false'. Refute it at one input. -/
def fnHookOfWrong : ChangeSpec := { name := "fnHookOf", fn := fun _ => fun
  | [d] => { results := [.lit (.bool false)], args := [d] }
  | _ => none }
def FnHookOfWrongFalsely : Prop := fnHookOfRow.holds Try.pinned (OpenSpec.ofChange fnHookOfWrong)

/-- 'laws.FnAddsUpOk': WHATEVER THE INPUT: true; the input reads as it did. -/
def fnAddsUpOkSpec : ChangeSpec := { name := "fnAddsUpOk", fn := fun _ => fun
  | [d] => { results := [.lit (.bool true)], args := [d] }
  | _ => none }
def fnAddsUpOkRow : OpenClaim := { program := "ytdoomkcgdcfmlaa", sum := "c23619ddcc36738297ebba0975b0a158982621812fb0afbfd17218d10532c405", func := "loop.example/orthologics/laws.FnAddsUpOk", spec := "fnAddsUpOk", unfollowed := true, recurses := true, apart := false }
def FnAddsUpOkSaid : Prop := fnAddsUpOkRow.holds Try.pinned (OpenSpec.ofChange fnAddsUpOkSpec)

/-- ITS FALSE NEIGHBOUR: 'it returns false'. Refute it at one input. -/
def fnAddsUpOkWrong : ChangeSpec := { name := "fnAddsUpOk", fn := fun _ => fun
  | [d] => { results := [.lit (.bool false)], args := [d] }
  | _ => none }
def FnAddsUpOkWrongFalsely : Prop := fnAddsUpOkRow.holds Try.pinned (OpenSpec.ofChange fnAddsUpOkWrong)

/-- 'laws.FnPentagonOf': WHATEVER THE INPUT: true; the input reads as it did. -/
def fnPentagonOfSpec : ChangeSpec := { name := "fnPentagonOf", fn := fun _ => fun
  | [d] => { results := [.lit (.bool true)], args := [d] }
  | _ => none }
def fnPentagonOfRow : OpenClaim := { program := "ytdoomkcgdcfmlaa", sum := "c23619ddcc36738297ebba0975b0a158982621812fb0afbfd17218d10532c405", func := "loop.example/orthologics/laws.FnPentagonOf", spec := "fnPentagonOf", unfollowed := true, recurses := true, apart := false }
def FnPentagonOfSaid : Prop := fnPentagonOfRow.holds Try.pinned (OpenSpec.ofChange fnPentagonOfSpec)

/-- ITS FALSE NEIGHBOUR: 'it returns false'. Refute it at one input. -/
def fnPentagonOfWrong : ChangeSpec := { name := "fnPentagonOf", fn := fun _ => fun
  | [d] => { results := [.lit (.bool false)], args := [d] }
  | _ => none }
def FnPentagonOfWrongFalsely : Prop := fnPentagonOfRow.holds Try.pinned (OpenSpec.ofChange fnPentagonOfWrong)

/-- 'laws.FnHighOf': WHATEVER THE INPUT: true; the input reads as it did. -/
def fnHighOfSpec : ChangeSpec := { name := "fnHighOf", fn := fun _ => fun
  | [d] => { results := [.lit (.bool true)], args := [d] }
  | _ => none }
def fnHighOfRow : OpenClaim := { program := "ytdoomkcgdcfmlaa", sum := "c23619ddcc36738297ebba0975b0a158982621812fb0afbfd17218d10532c405", func := "loop.example/orthologics/laws.FnHighOf", spec := "fnHighOf", recurses := true, apart := false }
def FnHighOfSaid : Prop := fnHighOfRow.holds Try.pinned (OpenSpec.ofChange fnHighOfSpec)

/-- ITS FALSE NEIGHBOUR: 'it returns false'. Refute it at one input. -/
def fnHighOfWrong : ChangeSpec := { name := "fnHighOf", fn := fun _ => fun
  | [d] => { results := [.lit (.bool false)], args := [d] }
  | _ => none }
def FnHighOfWrongFalsely : Prop := fnHighOfRow.holds Try.pinned (OpenSpec.ofChange fnHighOfWrong)

/-- 'laws.FnUpToOf': WHATEVER THE INPUT: true; the input reads as it did. -/
def fnUpToOfSpec : ChangeSpec := { name := "fnUpToOf", fn := fun _ => fun
  | [d] => { results := [.lit (.bool true)], args := [d] }
  | _ => none }
def fnUpToOfRow : OpenClaim := { program := "ytdoomkcgdcfmlaa", sum := "c23619ddcc36738297ebba0975b0a158982621812fb0afbfd17218d10532c405", func := "loop.example/orthologics/laws.FnUpToOf", spec := "fnUpToOf", unfollowed := true, recurses := true, apart := false }
def FnUpToOfSaid : Prop := fnUpToOfRow.holds Try.pinned (OpenSpec.ofChange fnUpToOfSpec)

/-- ITS FALSE NEIGHBOUR: 'it returns false'. Refute it at one input. -/
def fnUpToOfWrong : ChangeSpec := { name := "fnUpToOf", fn := fun _ => fun
  | [d] => { results := [.lit (.bool false)], args := [d] }
  | _ => none }
def FnUpToOfWrongFalsely : Prop := fnUpToOfRow.holds Try.pinned (OpenSpec.ofChange fnUpToOfWrong)

/-- 'laws.FnClearOf': WHATEVER THE INPUT: true; the input reads as it did. -/
def fnClearOfSpec : ChangeSpec := { name := "fnClearOf", fn := fun _ => fun
  | [d] => { results := [.lit (.bool true)], args := [d] }
  | _ => none }
def fnClearOfRow : OpenClaim := { program := "ytdoomkcgdcfmlaa", sum := "c23619ddcc36738297ebba0975b0a158982621812fb0afbfd17218d10532c405", func := "loop.example/orthologics/laws.FnClearOf", spec := "fnClearOf", unfollowed := true, recurses := true, apart := false }
def FnClearOfSaid : Prop := fnClearOfRow.holds Try.pinned (OpenSpec.ofChange fnClearOfSpec)

/-- ITS FALSE NEIGHBOUR: 'it returns false'. Refute it at one input. -/
def fnClearOfWrong : ChangeSpec := { name := "fnClearOf", fn := fun _ => fun
  | [d] => { results := [.lit (.bool false)], args := [d] }
  | _ => none }
def FnClearOfWrongFalsely : Prop := fnClearOfRow.holds Try.pinned (OpenSpec.ofChange fnClearOfWrong)

/-- 'laws.FnStateOk': WHATEVER THE INPUT: true; the input reads as it did. -/
def fnStateOkSpec : ChangeSpec := { name := "fnStateOk", fn := fun _ => fun
  | [d] => { results := [.lit (.bool true)], args := [d] }
  | _ => none }
def fnStateOkRow : OpenClaim := { program := "ytdoomkcgdcfmlaa", sum := "c23619ddcc36738297ebba0975b0a158982621812fb0afbfd17218d10532c405", func := "loop.example/orthologics/laws.FnStateOk", spec := "fnStateOk", unfollowed := true, recurses := true, apart := false }
def FnStateOkSaid : Prop := fnStateOkRow.holds Try.pinned (OpenSpec.ofChange fnStateOkSpec)

/-- ITS FALSE NEIGHBOUR: 'it returns false'. Refute it at one input. -/
def fnStateOkWrong : ChangeSpec := { name := "fnStateOk", fn := fun _ => fun
  | [d] => { results := [.lit (.bool false)], args := [d] }
  | _ => none }
def FnStateOkWrongFalsely : Prop := fnStateOkRow.holds Try.pinned (OpenSpec.ofChange fnStateOkWrong)

/-- 'laws.FnToldBy': WHATEVER THE INPUT: true; the input reads as it did. -/
def fnToldBySpec : ChangeSpec := { name := "fnToldBy", fn := fun _ => fun
  | [d] => { results := [.lit (.bool true)], args := [d] }
  | _ => none }
def fnToldByRow : OpenClaim := { program := "ytdoomkcgdcfmlaa", sum := "c23619ddcc36738297ebba0975b0a158982621812fb0afbfd17218d10532c405", func := "loop.example/orthologics/laws.FnToldBy", spec := "fnToldBy", unfollowed := true, recurses := true, apart := false }
def FnToldBySaid : Prop := fnToldByRow.holds Try.pinned (OpenSpec.ofChange fnToldBySpec)

/-- ITS FALSE NEIGHBOUR: 'it returns false'. Refute it at one input. -/
def fnToldByWrong : ChangeSpec := { name := "fnToldBy", fn := fun _ => fun
  | [d] => { results := [.lit (.bool false)], args := [d] }
  | _ => none }
def FnToldByWrongFalsely : Prop := fnToldByRow.holds Try.pinned (OpenSpec.ofChange fnToldByWrong)

/-- 'laws.FnModularOk': WHATEVER THE INPUT: true; the input reads as it did. -/
def fnModularOkSpec : ChangeSpec := { name := "fnModularOk", fn := fun _ => fun
  | [d] => { results := [.lit (.bool true)], args := [d] }
  | _ => none }
def fnModularOkRow : OpenClaim := { program := "ytdoomkcgdcfmlaa", sum := "c23619ddcc36738297ebba0975b0a158982621812fb0afbfd17218d10532c405", func := "loop.example/orthologics/laws.FnModularOk", spec := "fnModularOk", unfollowed := true, recurses := true, apart := false }
def FnModularOkSaid : Prop := fnModularOkRow.holds Try.pinned (OpenSpec.ofChange fnModularOkSpec)

/-- ITS FALSE NEIGHBOUR: 'it returns false'. Refute it at one input. -/
def fnModularOkWrong : ChangeSpec := { name := "fnModularOk", fn := fun _ => fun
  | [d] => { results := [.lit (.bool false)], args := [d] }
  | _ => none }
def FnModularOkWrongFalsely : Prop := fnModularOkRow.holds Try.pinned (OpenSpec.ofChange fnModularOkWrong)

/- THE SECOND FORM. 'bulk': how many values and letters a reading holds, each counted each time it is reached (what is shared counts as often as it is met; a slice's spare places count too). A statement '..UptoSaid' is the law's where the arguments, and the package variables that the reading takes, are together of bulk at most 1048576: NARROWER than '..Said'. Prove '..Said' where nothing that the law and all that it calls make is longer than what came in: it says more and counts as full. Else prove '..UptoSaid'. A law counts once. -/
mutual
def uptoBulk {H : Type} : DataW H → Nat
  | .lit (.string bytes) => bytes.length + 1
  | .lit _ => 1
  | .nil => 1
  | .ptr d => uptoBulk d + 1
  | .slice elems spare => uptoBulkAll elems + uptoBulkAll spare + 1
  | .agg parts => uptoBulkAll parts + 1
  | .iface _ d => uptoBulk d + 1
  | .map entries => uptoBulkEntries entries + 1
  | .held _ => 1
def uptoBulkAll {H : Type} : List (DataW H) → Nat
  | [] => 0
  | d :: r => uptoBulk d + uptoBulkAll r
def uptoBulkEntries {H : Type} : List (Lit × DataW H) → Nat
  | [] => 0
  | x :: r => uptoBulkEntry x + uptoBulkEntries r
def uptoBulkEntry {H : Type} : Lit × DataW H → Nat
  | (.string bytes, d) => bytes.length + uptoBulk d + 1
  | (_, d) => uptoBulk d + 1
 end
def uptoSmall : (H : Type) → List (DataW H) → Bool := fun _ ds => decide (uptoBulkAll ds ≤ 1048576)
def OpenSpec.upto (s : _root_.Go.ChangeSpec) : _root_.Go.OpenSpec := { _root_.Go.OpenSpec.ofChange s with cond := some uptoSmall }

/-- 'laws.FnFormulaOk', WHERE WHAT IT READS IS OF BULK AT MOST 1048576: true; the input reads as it did. -/
def fnFormulaOkUptoRow : OpenClaim := { program := "ytdoomkcgdcfmlaa", sum := "c23619ddcc36738297ebba0975b0a158982621812fb0afbfd17218d10532c405", func := "loop.example/orthologics/laws.FnFormulaOk", spec := "fnFormulaOk", recurses := true, apart := false, narrowed := true }
def FnFormulaOkUptoSaid : Prop := fnFormulaOkUptoRow.holds Try.pinned (OpenSpec.upto fnFormulaOkSpec)

/-- 'laws.FnProjectOf', WHERE WHAT IT READS IS OF BULK AT MOST 1048576: true; the input reads as it did. -/
def fnProjectOfUptoRow : OpenClaim := { program := "ytdoomkcgdcfmlaa", sum := "c23619ddcc36738297ebba0975b0a158982621812fb0afbfd17218d10532c405", func := "loop.example/orthologics/laws.FnProjectOf", spec := "fnProjectOf", apart := false, narrowed := true }
def FnProjectOfUptoSaid : Prop := fnProjectOfUptoRow.holds Try.pinned (OpenSpec.upto fnProjectOfSpec)

/-- 'laws.FnBehindOf', WHERE WHAT IT READS IS OF BULK AT MOST 1048576: true; the input reads as it did. -/
def fnBehindOfUptoRow : OpenClaim := { program := "ytdoomkcgdcfmlaa", sum := "c23619ddcc36738297ebba0975b0a158982621812fb0afbfd17218d10532c405", func := "loop.example/orthologics/laws.FnBehindOf", spec := "fnBehindOf", apart := false, narrowed := true }
def FnBehindOfUptoSaid : Prop := fnBehindOfUptoRow.holds Try.pinned (OpenSpec.upto fnBehindOfSpec)

/-- 'laws.FnHookOf', WHERE WHAT IT READS IS OF BULK AT MOST 1048576: true; the input reads as it did. -/
def fnHookOfUptoRow : OpenClaim := { program := "ytdoomkcgdcfmlaa", sum := "c23619ddcc36738297ebba0975b0a158982621812fb0afbfd17218d10532c405", func := "loop.example/orthologics/laws.FnHookOf", spec := "fnHookOf", apart := false, narrowed := true }
def FnHookOfUptoSaid : Prop := fnHookOfUptoRow.holds Try.pinned (OpenSpec.upto fnHookOfSpec)

/-- 'laws.FnAddsUpOk', WHERE WHAT IT READS IS OF BULK AT MOST 1048576: true; the input reads as it did. -/
def fnAddsUpOkUptoRow : OpenClaim := { program := "ytdoomkcgdcfmlaa", sum := "c23619ddcc36738297ebba0975b0a158982621812fb0afbfd17218d10532c405", func := "loop.example/orthologics/laws.FnAddsUpOk", spec := "fnAddsUpOk", unfollowed := true, recurses := true, apart := false, narrowed := true }
def FnAddsUpOkUptoSaid : Prop := fnAddsUpOkUptoRow.holds Try.pinned (OpenSpec.upto fnAddsUpOkSpec)

/-- 'laws.FnPentagonOf', WHERE WHAT IT READS IS OF BULK AT MOST 1048576: true; the input reads as it did. -/
def fnPentagonOfUptoRow : OpenClaim := { program := "ytdoomkcgdcfmlaa", sum := "c23619ddcc36738297ebba0975b0a158982621812fb0afbfd17218d10532c405", func := "loop.example/orthologics/laws.FnPentagonOf", spec := "fnPentagonOf", unfollowed := true, recurses := true, apart := false, narrowed := true }
def FnPentagonOfUptoSaid : Prop := fnPentagonOfUptoRow.holds Try.pinned (OpenSpec.upto fnPentagonOfSpec)

/-- 'laws.FnHighOf', WHERE WHAT IT READS IS OF BULK AT MOST 1048576: true; the input reads as it did. -/
def fnHighOfUptoRow : OpenClaim := { program := "ytdoomkcgdcfmlaa", sum := "c23619ddcc36738297ebba0975b0a158982621812fb0afbfd17218d10532c405", func := "loop.example/orthologics/laws.FnHighOf", spec := "fnHighOf", recurses := true, apart := false, narrowed := true }
def FnHighOfUptoSaid : Prop := fnHighOfUptoRow.holds Try.pinned (OpenSpec.upto fnHighOfSpec)

/-- 'laws.FnUpToOf', WHERE WHAT IT READS IS OF BULK AT MOST 1048576: true; the input reads as it did. -/
def fnUpToOfUptoRow : OpenClaim := { program := "ytdoomkcgdcfmlaa", sum := "c23619ddcc36738297ebba0975b0a158982621812fb0afbfd17218d10532c405", func := "loop.example/orthologics/laws.FnUpToOf", spec := "fnUpToOf", unfollowed := true, recurses := true, apart := false, narrowed := true }
def FnUpToOfUptoSaid : Prop := fnUpToOfUptoRow.holds Try.pinned (OpenSpec.upto fnUpToOfSpec)

/-- 'laws.FnClearOf', WHERE WHAT IT READS IS OF BULK AT MOST 1048576: true; the input reads as it did. -/
def fnClearOfUptoRow : OpenClaim := { program := "ytdoomkcgdcfmlaa", sum := "c23619ddcc36738297ebba0975b0a158982621812fb0afbfd17218d10532c405", func := "loop.example/orthologics/laws.FnClearOf", spec := "fnClearOf", unfollowed := true, recurses := true, apart := false, narrowed := true }
def FnClearOfUptoSaid : Prop := fnClearOfUptoRow.holds Try.pinned (OpenSpec.upto fnClearOfSpec)

/-- 'laws.FnStateOk', WHERE WHAT IT READS IS OF BULK AT MOST 1048576: true; the input reads as it did. -/
def fnStateOkUptoRow : OpenClaim := { program := "ytdoomkcgdcfmlaa", sum := "c23619ddcc36738297ebba0975b0a158982621812fb0afbfd17218d10532c405", func := "loop.example/orthologics/laws.FnStateOk", spec := "fnStateOk", unfollowed := true, recurses := true, apart := false, narrowed := true }
def FnStateOkUptoSaid : Prop := fnStateOkUptoRow.holds Try.pinned (OpenSpec.upto fnStateOkSpec)

/-- 'laws.FnToldBy', WHERE WHAT IT READS IS OF BULK AT MOST 1048576: true; the input reads as it did. -/
def fnToldByUptoRow : OpenClaim := { program := "ytdoomkcgdcfmlaa", sum := "c23619ddcc36738297ebba0975b0a158982621812fb0afbfd17218d10532c405", func := "loop.example/orthologics/laws.FnToldBy", spec := "fnToldBy", unfollowed := true, recurses := true, apart := false, narrowed := true }
def FnToldByUptoSaid : Prop := fnToldByUptoRow.holds Try.pinned (OpenSpec.upto fnToldBySpec)

/-- 'laws.FnModularOk', WHERE WHAT IT READS IS OF BULK AT MOST 1048576: true; the input reads as it did. -/
def fnModularOkUptoRow : OpenClaim := { program := "ytdoomkcgdcfmlaa", sum := "c23619ddcc36738297ebba0975b0a158982621812fb0afbfd17218d10532c405", func := "loop.example/orthologics/laws.FnModularOk", spec := "fnModularOk", unfollowed := true, recurses := true, apart := false, narrowed := true }
def FnModularOkUptoSaid : Prop := fnModularOkUptoRow.holds Try.pinned (OpenSpec.upto fnModularOkSpec)

end Rows
end Go.Proofs.Ytdoomkcgdcfmlaa
