/- Part 5 of what is common to several claims of this seat: DeskNewL. -/
import Derived.Test.YtcbjpdaogicibaaLE4
import Derived.Below
import Derived.Deep.Draws
import Derived.Deep.AppendLies
import Derived.Maps.AppendAt
import Derived.OwnWalk
import Derived.Laws.BytesArg
import Derived.Laws.MakeOwn
import Derived.Laws.OwnMore
import Derived.Deep.OwnRows
import Derived.Tactics
import Derived.Lib.ConvBytes
import Derived.Laws.Slices
import Derived.WalkKit
import Derived.KernelRfl
import Derived.RowKit3
import Derived.Deep.LoopGhost
import Derived.Deep.QuietTactic
import Derived.BigQuiet
import Derived.WideLaws
import Derived.Deep.DeepCutAuto
import Derived.Deep.CutBlock
import Derived.Deep.RegionHeld3
import Derived.Laws.Rows
import Derived.Lib.AppendStr
import Derived.ArgAppend
import Derived.Laws.IdiomCopy
import Derived.RowKit
import Derived.OrdersHeld
import Derived.Laws.BitsLemmas
import Derived.Test.YtcbjpdaogicibaaProg
import Derived.ProofKit
import Derived.OpenShut
import Derived.SizedLaws
import Derived.ChangeSlices
set_option linter.all false
section
namespace Go.Proofs.Ytcbjpdaogicibaa.Print
open Go.RowKit Go.Proofs.YtcbjpdaogicibaaW.PrintWords Go.Proofs.YtcbjpdaogicibaaW.PrintLast Go.Proofs.YtcbjpdaogicibaaW.PrintMore
open Oml
theorem drawDeskNew_ev {l : List Int} (h : Bytes l) : ∃ t : Int, Ev (fun k => spec_DrawDeskNew.f k l) t ∧ -1 ≤ t ∧ t ≤ 4 := by
 obtain⟨b,hb,hbl,ho⟩:=open_ev h
 obtain⟨v,e,v0,v1⟩:=pick_ev hb hbl (p:=0) (by omega) (by omega) 6
 have v2:=v1 (by omega)
 have hw:wrap64 (v - 1)=v - 1:=by unfold wrap64;omega
 refine⟨v - 1,?_,by omega,by omega⟩
 unfold spec_DrawDeskNew.f
 exact Ev.pbind ho (Ev.bind e (Ev.eq (Ev.now _) hw))
def dnI (t : Int) : List (List Int) × List Int × List S26 × Bool := (impl_DeskNew.f t).getD ([], [], [], false)
def dnS (t : Int) : List (List Int) × List Int × List S26 × Bool := (spec_DeskNew.f 400 t).getD ([], [], [], false)
theorem laws_FnDeskNew.ev (l : List Int) (h : Bytes l) : Ev (fun k => laws_FnDeskNew.f k l) true := by
 unfold laws_FnDeskNew.f
 by_cases hl:(l.length:Int)>1048576
 ·exact Ev.ite_pos hl (Ev.now _)
 refine Ev.ite_neg hl ?_
 obtain⟨t,hd,t0,t1⟩:=drawDeskNew_ev h
 have ht:t= -1∨t=0∨t=1∨t=2∨t=3∨t=4:=by omega
 refine Ev.bind hd ?_
 clear hd
 rcases ht with rfl|rfl|rfl|rfl|rfl|rfl
 ·refine Ev.pbind (show impl_DeskNew.f (-1)=some (dnI (-1)) from by kernel_rfl) (Ev.bind (Ev.of (spec_DeskNew.mono _) (show spec_DeskNew.f 400 (-1)=some (dnS (-1)) from by kernel_rfl)) (Ev.bind (Ev.of (laws_sameDesk.mono _ _ _ _ _ _) (show laws_sameDesk.f 400 _ _ _ _ _ _=some true from by kernel_rfl)) (Ev.ite_pos rfl (Ev.of (fun k=>(laws_FnDeskNew.mono_l k) _ _ _ _ _ _) (show laws_FnDeskNew.j0 400 _ _ _ _ _ _=some true from by kernel_rfl)))))
 ·refine Ev.pbind (show impl_DeskNew.f (0)=some (dnI (0)) from by kernel_rfl) (Ev.bind (Ev.of (spec_DeskNew.mono _) (show spec_DeskNew.f 400 (0)=some (dnS (0)) from by kernel_rfl)) (Ev.bind (Ev.of (laws_sameDesk.mono _ _ _ _ _ _) (show laws_sameDesk.f 400 _ _ _ _ _ _=some true from by kernel_rfl)) (Ev.ite_pos rfl (Ev.of (fun k=>(laws_FnDeskNew.mono_l k) _ _ _ _ _ _) (show laws_FnDeskNew.j0 400 _ _ _ _ _ _=some true from by kernel_rfl)))))
 ·refine Ev.pbind (show impl_DeskNew.f (1)=some (dnI (1)) from by kernel_rfl) (Ev.bind (Ev.of (spec_DeskNew.mono _) (show spec_DeskNew.f 400 (1)=some (dnS (1)) from by kernel_rfl)) (Ev.bind (Ev.of (laws_sameDesk.mono _ _ _ _ _ _) (show laws_sameDesk.f 400 _ _ _ _ _ _=some true from by kernel_rfl)) (Ev.ite_pos rfl (Ev.of (fun k=>(laws_FnDeskNew.mono_l k) _ _ _ _ _ _) (show laws_FnDeskNew.j0 400 _ _ _ _ _ _=some true from by kernel_rfl)))))
 ·refine Ev.pbind (show impl_DeskNew.f (2)=some (dnI (2)) from by kernel_rfl) (Ev.bind (Ev.of (spec_DeskNew.mono _) (show spec_DeskNew.f 400 (2)=some (dnS (2)) from by kernel_rfl)) (Ev.bind (Ev.of (laws_sameDesk.mono _ _ _ _ _ _) (show laws_sameDesk.f 400 _ _ _ _ _ _=some true from by kernel_rfl)) (Ev.ite_pos rfl (Ev.of (fun k=>(laws_FnDeskNew.mono_l k) _ _ _ _ _ _) (show laws_FnDeskNew.j0 400 _ _ _ _ _ _=some true from by kernel_rfl)))))
 ·refine Ev.pbind (show impl_DeskNew.f (3)=some (dnI (3)) from by kernel_rfl) (Ev.bind (Ev.of (spec_DeskNew.mono _) (show spec_DeskNew.f 400 (3)=some (dnS (3)) from by kernel_rfl)) (Ev.bind (Ev.of (laws_sameDesk.mono _ _ _ _ _ _) (show laws_sameDesk.f 400 _ _ _ _ _ _=some true from by kernel_rfl)) (Ev.ite_pos rfl (Ev.of (fun k=>(laws_FnDeskNew.mono_l k) _ _ _ _ _ _) (show laws_FnDeskNew.j0 400 _ _ _ _ _ _=some true from by kernel_rfl)))))
 ·refine Ev.pbind (show impl_DeskNew.f (4)=some (dnI (4)) from by kernel_rfl) (Ev.bind (Ev.of (spec_DeskNew.mono _) (show spec_DeskNew.f 400 (4)=some (dnS (4)) from by kernel_rfl)) (Ev.bind (Ev.of (laws_sameDesk.mono _ _ _ _ _ _) (show laws_sameDesk.f 400 _ _ _ _ _ _=some true from by kernel_rfl)) (Ev.ite_pos rfl (Ev.of (fun k=>(laws_FnDeskNew.mono_l k) _ _ _ _ _ _) (show laws_FnDeskNew.j0 400 _ _ _ _ _ _=some true from by kernel_rfl)))))
end Go.Proofs.Ytcbjpdaogicibaa.Print
namespace Go.Proofs.Ytcbjpdaogicibaa.Pure
open Go.RowKit Go.Proofs.Ytcbjpdaogicibaa.Print Go.Proofs.YtcbjpdaogicibaaW.PrintWords Go.Proofs.YtcbjpdaogicibaaW.PrintLast Go.Proofs.YtcbjpdaogicibaaW.PrintMore
theorem FnDeskNew : laws_FnDeskNew.Pure := fun l _ _ hw => (laws_FnDeskNew.ev l fun x hx => by
 have:=hw x hx
 first|exact Go.RowKit.bounds_u8 this|exact Go.ChangeShapes.bounds_u8 this|exact bounds_u8 this|(simp [Lit.wf,IntKind.wf] at this;omega)|(simp [Lit.wf] at this;omega)).rounds
end Go.Proofs.Ytcbjpdaogicibaa.Pure
end
section
namespace Go.Proofs.YtcbjpdaogicibaaW.PrintWords
open Go.ChangeShapes Go.WideShapes
theorem sized_ints {H : Type} {enc : TypeId × Value → H} {P : Program} {W : World} {base : Nat} {spare : Nat → Bool} {held : Bool} {t e : TypeId} {k : IntKind} {a : Option Addr} {len cap : Nat} {d : DataW H} {ps : List MemPlace} {ts : List TypeId} {ds : List (DataW H)} {j : Nat}
 (hsz:(DataW.weightsEach P ts ds).all (· ≤reachBytes)=true) (ht:ts[j]? =some t) (hd:ds[j]? =some d) (hu:P.underlying t=some (.slice e)) (he:P.underlying e=some (.int k)) (hc:P.cellsOf e=1) {B:Nat} (hB:P.bytesOf e=B)
 (h:DataW.Trod enc P W base spare held t (.slice a len cap) d ps):len*B≤140737488351232:=by
 obtain⟨fuel,hf⟩:=h
 rcases open_ints hu he hc hf with ⟨hcs,_⟩|⟨x,l,c,zs,hcs,_,hl,_,hz,hx,_,_⟩
 ·simp [Value.cells] at hcs
  obtain⟨rfl,rfl,rfl⟩:=hcs
  simp
 ·simp [Value.cells] at hcs
  obtain⟨rfl,rfl,rfl⟩:=hcs
  obtain⟨hx,_⟩:=Prod.mk.inj hx
  subst hx
  have z:=sized_slice hsz ht hd hu
  rw [hB] at z
  have hl2 : len ≤ zs.length := by
   rw [hz]
   split
   ·exact hl
   ·exact Nat.le_refl _
  have h1 : (lits (H := H) k (zs.take len)).length + (lits (H := H) k (zs.drop len)).length = zs.length := by
   simp [lits]
   omega
  rw [h1] at z
  exact Nat.le_trans (Nat.mul_le_mul_right _ hl2) z
end Go.Proofs.YtcbjpdaogicibaaW.PrintWords
end
