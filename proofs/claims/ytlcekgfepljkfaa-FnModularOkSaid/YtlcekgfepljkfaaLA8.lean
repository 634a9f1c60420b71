/- Part 8 of what is common to several claims of this seat: ModularOkL. -/
import Derived.Test.YtlcekgfepljkfaaLA7
import Derived.Below
import Derived.Deep.Draws
import Derived.Deep.AppendLies
import Derived.Maps.AppendAt
import Derived.OwnWalk
import Derived.Laws.BytesArg
import Derived.Laws.MakeOwn
import Derived.Laws.OwnMore
import Derived.Deep.OwnRows
import Derived.Tactics
import Derived.Lib.ConvBytes
import Derived.Laws.Slices
import Derived.WalkKit
import Derived.KernelRfl
import Derived.RowKit3
import Derived.Deep.LoopGhost
import Derived.Deep.QuietTactic
import Derived.BigQuiet
import Derived.WideLaws
import Derived.Deep.DeepCutAuto
import Derived.Deep.CutBlock
import Derived.Deep.RegionHeld3
import Derived.Laws.Rows
import Derived.Lib.AppendStr
import Derived.ArgAppend
import Derived.Laws.IdiomCopy
import Derived.RowKit
import Derived.OrdersHeld
import Derived.Laws.BitsLemmas
import Derived.Test.YtlcekgfepljkfaaProg
import Derived.LaidEqlPtr
import Derived.ProofKit
import Derived.OpenShut
import Derived.SizedLaws
import Derived.ChangeSlices
set_option linter.all false
section
namespace Go.Proofs.Ytlcekgfepljkfaa.Print
open Go.RowKit Go.Proofs.YtlcekgfepljkfaaW.PrintWords Go.Proofs.YtlcekgfepljkfaaW.PrintLast Go.Proofs.YtlcekgfepljkfaaW.PrintMore
open Oml
theorem drawModularOk_ev {l : List Int} (h : Bytes l) : ∃ V M, Ev (fun k => spec_DrawModularOk.f k l) (V, M) := by
 obtain⟨b,hb,hbl,ho⟩:=open_ev h
 obtain⟨V,M,q,hd,_,_⟩:=logic_ev hb hbl (p:=0) (by omega) (by omega) 9
 exact⟨V,M,by unfold spec_DrawModularOk.f;exact Ev.pbind ho (Ev.bind hd (Ev.now _))⟩
theorem laws_FnModularOk.ev (l : List Int) (h : Bytes l) : Ev (fun k => laws_FnModularOk.f k l) true := by
 unfold laws_FnModularOk.f
 by_cases hl:(l.length:Int)>1048576
 ·exact Ev.ite_pos hl (Ev.now _)
 refine Ev.ite_neg hl ?_
 obtain⟨V,M,hd⟩:=drawModularOk_ev h
 have hg:impl_ModularOk.f glued4.1 glued4.2=some true:=by unfold impl_ModularOk.f;rw [glued_logic,if_pos rfl,glued_mod]
 have hg2:impl_BooleanOk.f glued4.1 glued4.2=some false:=by unfold impl_BooleanOk.f;rw [glued_logic,if_pos rfl,glued_boo]
 have htail: ∀ {c:Prop} [Decidable c] {c2:Prop} [Decidable c2],c→c2→Ev (fun k=>if c then(if c2 then((impl_ModularOk.f glued4.1 glued4.2).bind fun t=>if t=true then((impl_BooleanOk.f glued4.1 glued4.2).bind fun u=>some (!u)) else some false) else some false) else some false) true:=fun hc hc2=>Ev.ite_pos hc (Ev.ite_pos hc2 (Ev.pbind hg (Ev.ite_pos rfl (Ev.pbind hg2 (Ev.now _)))))
 refine Ev.bind hd (Ev.pbind rfl (Ev.bind (spec_ModularOk.ev V M) ?_))
 dsimp only
 refine Ev.ite_neg (by simp) (Ev.pbind four_eq (Ev.pbind glued_eq ?_))
 cases hl:logicB V M with
 |false=>
  have e2:impl_BooleanOk.f V M=some false:=by unfold impl_BooleanOk.f;rw [hl,if_neg (by simp)]
  exact Ev.pbind e2 (Ev.ite_neg (by simp) (Ev.ite_neg (by simp) (htail rfl rfl)))
 |true=>
 have L:=logicB_iff.1 hl
 have e1:impl_KeepsOk.f V M=some (keepB V M):=by unfold impl_KeepsOk.f;rw [hl,if_pos rfl]
 have e2:impl_BooleanOk.f V M=some (booB V):=by unfold impl_BooleanOk.f;rw [hl,if_pos rfl]
 rw [if_pos rfl]
 refine Ev.pbind e2 ?_
 cases hm:modB V with
 |true=>
  rw [(keepB_iff L).2 ((modB_iff L).1 hm).keeps] at e1
  cases booB V with
  |true=>exact Ev.ite_pos rfl (Ev.ite_pos rfl (Ev.pbind e1 (Ev.ite_pos rfl (htail rfl rfl))))
  |false=>exact Ev.ite_neg (by simp) (Ev.ite_pos rfl (Ev.pbind e1 (Ev.ite_pos rfl (htail rfl rfl))))
 |false=>
  have hb:booB V=false:=by
   cases hb:booB V with
   |false=>rfl
   |true=>rw [(modB_iff L).2 ((booB_iff L).1 hb).modular] at hm;exact absurd hm (by simp)
  rw [hb]
  exact Ev.ite_neg (by simp) (Ev.ite_neg (by simp) (htail rfl rfl))
end Go.Proofs.Ytlcekgfepljkfaa.Print
namespace Go.Proofs.Ytlcekgfepljkfaa.Pure
open Go.RowKit Go.Proofs.Ytlcekgfepljkfaa.Print Go.Proofs.YtlcekgfepljkfaaW.PrintWords Go.Proofs.YtlcekgfepljkfaaW.PrintLast Go.Proofs.YtlcekgfepljkfaaW.PrintMore
theorem FnModularOk : laws_FnModularOk.Pure := fun l _ _ hw => (laws_FnModularOk.ev l fun x hx => by
 have:=hw x hx
 first|exact Go.RowKit.bounds_u8 this|exact Go.ChangeShapes.bounds_u8 this|exact bounds_u8 this|(simp [Lit.wf,IntKind.wf] at this;omega)|(simp [Lit.wf] at this;omega)).rounds
end Go.Proofs.Ytlcekgfepljkfaa.Pure
end
section
namespace Go.Proofs.YtlcekgfepljkfaaW.PrintWords
open Go.ChangeShapes Go.WideShapes
theorem sized_ints {H : Type} {enc : TypeId × Value → H} {P : Program} {W : World} {base : Nat} {spare : Nat → Bool} {held : Bool} {t e : TypeId} {k : IntKind} {a : Option Addr} {len cap : Nat} {d : DataW H} {ps : List MemPlace} {ts : List TypeId} {ds : List (DataW H)} {j : Nat}
 (hsz:(DataW.weightsEach P ts ds).all (· ≤reachBytes)=true) (ht:ts[j]? =some t) (hd:ds[j]? =some d) (hu:P.underlying t=some (.slice e)) (he:P.underlying e=some (.int k)) (hc:P.cellsOf e=1) {B:Nat} (hB:P.bytesOf e=B)
 (h:DataW.Trod enc P W base spare held t (.slice a len cap) d ps):len*B≤140737488351232:=by
 obtain⟨fuel,hf⟩:=h
 rcases open_ints hu he hc hf with ⟨hcs,_⟩|⟨x,l,c,zs,hcs,_,hl,_,hz,hx,_,_⟩
 ·simp [Value.cells] at hcs
  obtain⟨rfl,rfl,rfl⟩:=hcs
  simp
 ·simp [Value.cells] at hcs
  obtain⟨rfl,rfl,rfl⟩:=hcs
  obtain⟨hx,_⟩:=Prod.mk.inj hx
  subst hx
  have z:=sized_slice hsz ht hd hu
  rw [hB] at z
  have hl2 : len ≤ zs.length := by
   rw [hz]
   split
   ·exact hl
   ·exact Nat.le_refl _
  have h1 : (lits (H := H) k (zs.take len)).length + (lits (H := H) k (zs.drop len)).length = zs.length := by
   simp [lits]
   omega
  rw [h1] at z
  exact Nat.le_trans (Nat.mul_le_mul_right _ hl2) z
end Go.Proofs.YtlcekgfepljkfaaW.PrintWords
end
