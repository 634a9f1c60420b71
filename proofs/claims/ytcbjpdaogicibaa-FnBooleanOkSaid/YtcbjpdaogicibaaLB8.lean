/- Part 8 of what is common to several claims of this seat: BlocksWithL, BooleanOkL, SameOkL, AlwaysOkL, ValueOfL. -/
import Derived.Test.YtcbjpdaogicibaaLB7
import Derived.Below
import Derived.Deep.Draws
import Derived.Deep.AppendLies
import Derived.Maps.AppendAt
import Derived.OwnWalk
import Derived.Laws.BytesArg
import Derived.Laws.MakeOwn
import Derived.Laws.OwnMore
import Derived.Deep.OwnRows
import Derived.Tactics
import Derived.Lib.ConvBytes
import Derived.Laws.Slices
import Derived.WalkKit
import Derived.KernelRfl
import Derived.RowKit3
import Derived.Deep.LoopGhost
import Derived.Deep.QuietTactic
import Derived.BigQuiet
import Derived.WideLaws
import Derived.Deep.DeepCutAuto
import Derived.Deep.CutBlock
import Derived.Deep.RegionHeld3
import Derived.Laws.Rows
import Derived.Lib.AppendStr
import Derived.ArgAppend
import Derived.Laws.IdiomCopy
import Derived.RowKit
import Derived.OrdersHeld
import Derived.Laws.BitsLemmas
import Derived.Test.YtcbjpdaogicibaaProg
import Derived.Laws.Bits64b
import Derived.SizedLaws
import Derived.ChangeSlices
set_option linter.all false
section
namespace Go.Proofs.YtcbjpdaogicibaaW.PrintWords
open Go.ChangeShapes Go.WideShapes
theorem sized_ints {H : Type} {enc : TypeId × Value → H} {P : Program} {W : World} {base : Nat} {spare : Nat → Bool} {held : Bool} {t e : TypeId} {k : IntKind} {a : Option Addr} {len cap : Nat} {d : DataW H} {ps : List MemPlace} {ts : List TypeId} {ds : List (DataW H)} {j : Nat}
    (hsz:(DataW.weightsEach P ts ds).all (· ≤reachBytes)=true) (ht:ts[j]? =some t) (hd:ds[j]? =some d) (hu:P.underlying t=some (.slice e)) (he:P.underlying e=some (.int k)) (hc:P.cellsOf e=1) {B:Nat} (hB:P.bytesOf e=B)
    (h:DataW.Trod enc P W base spare held t (.slice a len cap) d ps):len*B≤140737488351232:=by
  obtain⟨fuel,hf⟩:=h
  rcases open_ints hu he hc hf with ⟨hcs,_⟩|⟨x,l,c,zs,hcs,_,hl,_,hz,hx,_,_⟩
  · simp [Value.cells] at hcs
    obtain⟨rfl,rfl,rfl⟩:=hcs
    simp
  · simp [Value.cells] at hcs
    obtain⟨rfl,rfl,rfl⟩:=hcs
    obtain⟨hx,_⟩:=Prod.mk.inj hx
    subst hx
    have z:=sized_slice hsz ht hd hu
    rw [hB] at z
    have hl2 : len ≤ zs.length := by
      rw [hz]
      split
      · exact hl
      · exact Nat.le_refl _
    have h1 : (lits (H := H) k (zs.take len)).length + (lits (H := H) k (zs.drop len)).length = zs.length := by
      simp [lits]
      omega
    rw [h1] at z
    exact Nat.le_trans (Nat.mul_le_mul_right _ hl2) z
end Go.Proofs.YtcbjpdaogicibaaW.PrintWords
end
section
namespace Go.Proofs.Ytcbjpdaogicibaa.Print
open Go.RowKit Go.Proofs.YtcbjpdaogicibaaW.PrintWords Go.Proofs.YtcbjpdaogicibaaW.PrintLast Go.Proofs.YtcbjpdaogicibaaW.PrintMore
open Oml
def hiP (U : List (List Int)) (f : Nat → Nat) (a : Nat) : Nat → Nat
  | 0 => 0
  | i + 1 => if i ≠ a ∧ leB U i a = true then (if hiP U f a i < f i + 1 then f i + 1 else hiP U f a i) else hiP U f a i
def hiF (U : List (List Int)) : Nat → Nat → Nat
  | 0, _ => 0
  | k + 1, a => hiP U (hiF U k) a U.length
def hi (U : List (List Int)) (x : Fin U.length) : Nat := hiF U U.length x.1
def cN (p : Nat → Bool) : Nat → Nat
  | 0 => 0
  | m + 1 => cN p m + if p m = true then 1 else 0
inductive Fm where
  | leaf (c : Int)
  | neg (f : Fm)
  | bin (o : Int) (f g : Fm)
def isLeaf (c : Int) : Prop := c = 97 ∨ c = 98 ∨ c = 99 ∨ c = 48 ∨ c = 49
instance (c : Int) : Decidable (isLeaf c) := by unfold isLeaf; infer_instance
def FAt (W : World) : Nat → Fm → Prop
  |p,.leaf c=>W.heap[p]? =some (.cells #[.int .u8 c,.slice none 0 0] 118 (0,0))
  |p,.neg f=> ∃q a c,W.heap[p]? =some (.cells #[.int .u8 33,.slice (some ⟨a,0,none⟩) 1 c] 118 (0,0))∧W.cell? ⟨a,0,none⟩=some (.pointer (some ⟨q,0,none⟩))∧FAt W q f
  |p,.bin o f g=> ∃q r a c,W.heap[p]? =some (.cells #[.int .u8 o,.slice (some ⟨a,0,none⟩) 2 c] 118 (0,0))∧W.cell? ⟨a,0,none⟩=some (.pointer (some ⟨q,0,none⟩))∧W.cell? ⟨a,1,none⟩=some (.pointer (some ⟨r,0,none⟩))∧FAt W q f∧FAt W r g
theorem FAt.below {W W1 : World} (hb : Below W.heap.size W W1) : ∀ (f : Fm) (p : Nat), FAt W p f → FAt W1 p f
  | .leaf c,p,h=>blk_below h hb
  | .neg f,p,⟨q,a,c,h1,h2,h3⟩=>⟨q,a,c,blk_below h1 hb,cell_up h2 hb rfl,FAt.below hb f q h3⟩
  | .bin o f g,p,⟨q,r,a,c,h1,h2,h3,h4,h5⟩=>⟨q,r,a,c,blk_below h1 hb,cell_up h2 hb rfl,cell_up h3 hb rfl,FAt.below hb f q h4,FAt.below hb g r h5⟩
structure SameI (w : World) (g : Nat) (U : List (List Int)) (N : List Int) (v : Adr) (gG gF gH pf ph : Nat) (f h : Fm) : Prop where
  view:View w g U N v
  bG:w.heap[gG]? =some (.cells #[.pointer (some ⟨g,0,none⟩)] 67 (0,0))
  bF:w.heap[gF]? =some (.cells #[.pointer (some ⟨pf,0,none⟩)] 94 (0,0))
  bH:w.heap[gH]? =some (.cells #[.pointer (some ⟨ph,0,none⟩)] 94 (0,0))
  tf:FAt w pf f
  th:FAt w ph h
theorem SameI.below {w w1 : World} {g : Nat} {U : List (List Int)} {N : List Int} {v : Adr} {gG gF gH pf ph : Nat} {f h : Fm} (H : SameI w g U N v gG gF gH pf ph f h) (hb : Below w.heap.size w w1) : SameI w1 g U N v gG gF gH pf ph f h where
  view:=H.view.below hb
  bG:=blk_below H.bG hb
  bF:=blk_below H.bF hb
  bH:=blk_below H.bH hb
  tf:=FAt.below hb _ _ H.tf
  th:=FAt.below hb _ _ H.th
end Go.Proofs.Ytcbjpdaogicibaa.Print
end
