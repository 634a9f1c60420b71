/- Part 8 of what is common to several claims of this seat: SameOkL, ValueOfL, AlwaysOkL. -/
import Derived.Test.YtcbjpdaogicibaaLC7
import Derived.Below
import Derived.Deep.Draws
import Derived.Deep.AppendLies
import Derived.Maps.AppendAt
import Derived.OwnWalk
import Derived.Laws.BytesArg
import Derived.Laws.MakeOwn
import Derived.Laws.OwnMore
import Derived.Deep.OwnRows
import Derived.Tactics
import Derived.Lib.ConvBytes
import Derived.Laws.Slices
import Derived.WalkKit
import Derived.KernelRfl
import Derived.RowKit3
import Derived.Deep.LoopGhost
import Derived.Deep.QuietTactic
import Derived.BigQuiet
import Derived.WideLaws
import Derived.Deep.DeepCutAuto
import Derived.Deep.CutBlock
import Derived.Deep.RegionHeld3
import Derived.Laws.Rows
import Derived.Lib.AppendStr
import Derived.ArgAppend
import Derived.Laws.IdiomCopy
import Derived.RowKit
import Derived.OrdersHeld
import Derived.Laws.BitsLemmas
import Derived.Test.YtcbjpdaogicibaaProg
import Derived.Laws.Bits64b
import Derived.SizedLaws
import Derived.ChangeSlices
set_option linter.all false
section
namespace Go.Proofs.YtcbjpdaogicibaaW.PrintWords
open Go.ChangeShapes Go.WideShapes
theorem sized_ints {H : Type} {enc : TypeId × Value → H} {P : Program} {W : World} {base : Nat} {spare : Nat → Bool} {held : Bool} {t e : TypeId} {k : IntKind} {a : Option Addr} {len cap : Nat} {d : DataW H} {ps : List MemPlace} {ts : List TypeId} {ds : List (DataW H)} {j : Nat}
 (hsz:(DataW.weightsEach P ts ds).all (· ≤reachBytes)=true) (ht:ts[j]? =some t) (hd:ds[j]? =some d) (hu:P.underlying t=some (.slice e)) (he:P.underlying e=some (.int k)) (hc:P.cellsOf e=1) {B:Nat} (hB:P.bytesOf e=B)
 (h:DataW.Trod enc P W base spare held t (.slice a len cap) d ps):len*B≤140737488351232:=by
 obtain⟨fuel,hf⟩:=h
 rcases open_ints hu he hc hf with ⟨hcs,_⟩|⟨x,l,c,zs,hcs,_,hl,_,hz,hx,_,_⟩
 ·simp [Value.cells] at hcs
  obtain⟨rfl,rfl,rfl⟩:=hcs
  simp
 ·simp [Value.cells] at hcs
  obtain⟨rfl,rfl,rfl⟩:=hcs
  obtain⟨hx,_⟩:=Prod.mk.inj hx
  subst hx
  have z:=sized_slice hsz ht hd hu
  rw [hB] at z
  have hl2 : len ≤ zs.length := by
   rw [hz]
   split
   ·exact hl
   ·exact Nat.le_refl _
  have h1 : (lits (H := H) k (zs.take len)).length + (lits (H := H) k (zs.drop len)).length = zs.length := by
   simp [lits]
   omega
  rw [h1] at z
  exact Nat.le_trans (Nat.mul_le_mul_right _ hl2) z
end Go.Proofs.YtcbjpdaogicibaaW.PrintWords
end
section
namespace Go.Proofs.Ytcbjpdaogicibaa.Print
open Go.RowKit Go.Proofs.YtcbjpdaogicibaaW.PrintWords Go.Proofs.YtcbjpdaogicibaaW.PrintLast Go.Proofs.YtcbjpdaogicibaaW.PrintMore
open Oml
def agN (U : List (List Int)) (N : List Int) (s a : Nat) : Nat := setB U.length fun b => decide (a * U.length + b < s) && bothB U N a b
def agL (U : List (List Int)) (N : List Int) (s : Nat) : List Int := (List.range U.length).map fun (a : Nat) => ((agN U N s a : Nat) : Int)
structure AgJ (w : World) (gG g gO gr c : Nat) (U : List (List Int)) (N : List Int) (s : Nat) (W : World) : Prop where
 hb:Below w.heap.size w W
 hG:W.heap[gG]? =some (.cells #[.pointer (some ⟨g,0,none⟩)] 67 (0,0))
 hO:W.heap[gO]? =some (.cells #[.slice (some ⟨gr,0,none⟩) U.length c] 24 (0,0))
 hR:Kd.R (Kd.int .i64) 3 W w.heap.size (fun k=>k=gr) (.slice (some ⟨gr,0,none⟩) U.length c) (agL U N s)
 hg:w.heap.size≤gG
 ho:w.heap.size≤gO
theorem AgJ.below {w : World} {gG g gO gr c : Nat} {U : List (List Int)} {N : List Int} {s : Nat} {W W1 : World} (h : AgJ w gG g gO gr c U N s W) (hb : Below W.heap.size W W1) : AgJ w gG g gO gr c U N s W1 :=
 ⟨below_step h.hb hb,blk_below h.hG hb,blk_below h.hO hb,Kd.R_below h.hR hb,h.hg,h.ho⟩
theorem AgJ.drewN {w : World} {gG g gO gr c : Nat} {U : List (List Int)} {N : List Int} {s : Nat} {W : World} (h : AgJ w gG g gO gr c U N s W) (n : Nat) : AgJ w gG g gO gr c U N s (W.drewN n) := h.below (pw_below_drewN (Below.refl _ _) n)
end Go.Proofs.Ytcbjpdaogicibaa.Print
end
