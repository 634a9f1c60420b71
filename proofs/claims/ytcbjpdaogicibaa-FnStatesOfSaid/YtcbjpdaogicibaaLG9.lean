/- Part 9 of what is common to several claims of this seat: StatesOfL. -/
import Derived.Test.YtcbjpdaogicibaaLG8
import Derived.Below
import Derived.Deep.Draws
import Derived.Deep.AppendLies
import Derived.Maps.AppendAt
import Derived.OwnWalk
import Derived.Laws.BytesArg
import Derived.Laws.MakeOwn
import Derived.Laws.OwnMore
import Derived.Deep.OwnRows
import Derived.Tactics
import Derived.Lib.ConvBytes
import Derived.Laws.Slices
import Derived.WalkKit
import Derived.KernelRfl
import Derived.RowKit3
import Derived.Deep.LoopGhost
import Derived.Deep.QuietTactic
import Derived.BigQuiet
import Derived.WideLaws
import Derived.Deep.DeepCutAuto
import Derived.Deep.CutBlock
import Derived.Deep.RegionHeld3
import Derived.Laws.Rows
import Derived.Lib.AppendStr
import Derived.ArgAppend
import Derived.Laws.IdiomCopy
import Derived.RowKit
import Derived.OrdersHeld
import Derived.Laws.BitsLemmas
import Derived.Test.YtcbjpdaogicibaaProg
import Derived.LaidEqlPtr
import Derived.Laws.Bits64b
import Derived.ProofKit
import Derived.OpenShut
import Derived.SizedLaws
import Derived.ChangeSlices
set_option linter.all false
section
namespace Go.Proofs.Ytcbjpdaogicibaa.Print
open Go.RowKit Go.Proofs.YtcbjpdaogicibaaW.PrintWords Go.Proofs.YtcbjpdaogicibaaW.PrintLast Go.Proofs.YtcbjpdaogicibaaW.PrintMore
open Oml
theorem drawStatesOf_ev {l : List Int} (h : Bytes l) : ∃ V M, Ev (fun k => spec_DrawStatesOf.f k l) (V, M) := by
 obtain⟨b,hb,hbl,ho⟩:=open_ev h
 obtain⟨V,M,q,hd,_,_⟩:=logic_ev hb hbl (p:=0) (by omega) (by omega) 9
 exact⟨V,M,by unfold spec_DrawStatesOf.f;exact Ev.pbind ho (Ev.bind hd (Ev.now _))⟩
theorem laws_FnStatesOf.ev (l : List Int) (h : Bytes l) : Ev (fun k => laws_FnStatesOf.f k l) true := by
 unfold laws_FnStatesOf.f
 by_cases hl:(l.length:Int)>1048576
 ·exact Ev.ite_pos hl (Ev.now _)
 refine Ev.ite_neg hl ?_
 obtain⟨V,M,hd⟩:=drawStatesOf_ev h
 have hg:impl_StatesOf.f glued4.1 glued4.2=some (stL glued4.1 glued4.2):=by unfold impl_StatesOf.f;rw [glued_logic,if_pos rfl]
 have h4:(((stL glued4.1 glued4.2).length:Int)==4)=true:=by rw [glued_states];rfl
 have htail: ∀ {c:Prop} [Decidable c] {c2:Prop} [Decidable c2],c→c2→Ev (fun k=>if c then(if c2 then((impl_StatesOf.f glued4.1 glued4.2).bind fun t=>some ((t.length:Int)==4)) else some false) else some false) true:=fun hc hc2=>Ev.ite_pos hc (Ev.ite_pos hc2 (Ev.pbind hg (by rw [h4];exact Ev.now _)))
 have e1:impl_StatesOf.f V M=some (if logicB V M=true then stL V M else []):=rfl
 have e2:impl_BooleanOk.f V M=some (if logicB V M=true then booB V else false):=rfl
 refine Ev.bind hd (Ev.pbind e1 (Ev.bind (spec_StatesOf.ev V M) ?_))
 dsimp only
 cases hl:logicB V M with
 |false=>
  rw [hl,if_neg (by simp)] at e2
  simp only [Bool.false_eq_true,if_false]
  refine Ev.bind (sameInts_ev [] (by simp)) (Ev.ite_pos rfl ?_)
  refine Ev.succ ?_
  simp only [laws_FnStatesOf.l0]
  refine Ev.ite_neg (by simp) (Ev.pbind four_eq (Ev.pbind glued_eq ?_))
  refine Ev.bind (ascend_ev (n:=0) (fun _=>false) (by omega)) (Ev.ite_pos rfl (Ev.pbind e2 ?_))
  exact Ev.ite_neg (by simp) (htail rfl rfl)
 |true=>
 have L:=logicB_iff.1 hl
 have hs:=L.small
 rw [hl,if_pos rfl] at e2
 have hpow:2 ^ V.length≤4096:=Nat.pow_le_pow_right (by omega) hs
 have hlen:(stL V M).length=(stN V M).length:=filI_len _ _
 have hle:(stL V M).length≤4096:=Nat.le_trans (filI_length _ _) hpow
 rw [if_pos rfl]
 refine Ev.bind (sameInts_ev (stL V M) (by omega)) (Ev.ite_pos rfl ?_)
 refine Ev.eq (Ev.all (n:=(stL V M).length) (g:=fun k i=>laws_FnStatesOf.l0 k (stL V M) i V M) (fun i=>isSt V M (rd (stL V M) (i:Int))) (go:=true) (stop:=false) (by omega) (fun _=>?_) fun i hi _ R hR=>?_) ?_
 ·refine Ev.succ ?_
  simp only [laws_FnStatesOf.l0]
  refine Ev.ite_neg (by omega) (Ev.pbind four_eq (Ev.pbind glued_eq ?_))
  refine Ev.bind (ascend_ev (n:=2 ^ V.length) (fun(s:Nat)=>isSt V M (s:Int)) (by omega)) (Ev.ite_pos rfl (Ev.pbind e2 ?_))
  cases hb:booB V with
  |false=>exact Ev.ite_neg (by simp) (htail rfl rfl)
  |true=>
   refine Ev.ite_pos rfl (Ev.bind (impl_AtomsOf.ev L) (Ev.ite_pos ?_ (htail rfl rfl)))
   rw [hlen,states_atoms L hb]
   have h2:(filI V.length (atomB V)).length=(atNs V).length:=filI_len _ _
   rw [h2]
 ·have e3:impl_StateOk.f V M (rd (stL V M) (i:Int))=some (isSt V M (rd (stL V M) (i:Int))):=by unfold impl_StateOk.f;rw [hl,if_pos rfl]
  refine Ev.succ ?_
  simp only [laws_FnStatesOf.l0]
  refine Ev.ite_pos (by omega) (Ev.ite_pos (by omega) (Ev.pbind e3 ?_))
  cases e:isSt V M (rd (stL V M) (i:Int)) with
  |true=>rw [e] at hR;exact Ev.ite_pos rfl (Ev.eq (hR rfl) (by simp))
  |false=>exact Ev.ite_neg (by simp) (Ev.eq (Ev.now _) (by simp))
 ·have hall:allN (stL V M).length (fun i=>isSt V M (rd (stL V M) (i:Int)))=true:=allN_iff.2 fun i hi=>by
   rw [rd_nat,show at1 (stL V M) i=(((stN V M).getD i 0:Nat):Int) from filI_at _ _ i]
   exact(filN_at (p:=fun(s:Nat)=>isSt V M (s:Int)) (n:=2 ^ V.length) (show i<(filN (2 ^ V.length) _).length from hlen ▸ hi)).2
  rw [hall];rfl
end Go.Proofs.Ytcbjpdaogicibaa.Print
namespace Go.Proofs.Ytcbjpdaogicibaa.Pure
open Go.RowKit Go.Proofs.Ytcbjpdaogicibaa.Print Go.Proofs.YtcbjpdaogicibaaW.PrintWords Go.Proofs.YtcbjpdaogicibaaW.PrintLast Go.Proofs.YtcbjpdaogicibaaW.PrintMore
theorem FnStatesOf : laws_FnStatesOf.Pure := fun l _ _ hw => (laws_FnStatesOf.ev l fun x hx => by
 have:=hw x hx
 first|exact Go.RowKit.bounds_u8 this|exact Go.ChangeShapes.bounds_u8 this|exact bounds_u8 this|(simp [Lit.wf,IntKind.wf] at this;omega)|(simp [Lit.wf] at this;omega)).rounds
end Go.Proofs.Ytcbjpdaogicibaa.Pure
end
section
namespace Go.Proofs.YtcbjpdaogicibaaW.PrintWords
open Go.ChangeShapes Go.WideShapes
theorem sized_ints {H : Type} {enc : TypeId × Value → H} {P : Program} {W : World} {base : Nat} {spare : Nat → Bool} {held : Bool} {t e : TypeId} {k : IntKind} {a : Option Addr} {len cap : Nat} {d : DataW H} {ps : List MemPlace} {ts : List TypeId} {ds : List (DataW H)} {j : Nat}
 (hsz:(DataW.weightsEach P ts ds).all (· ≤reachBytes)=true) (ht:ts[j]? =some t) (hd:ds[j]? =some d) (hu:P.underlying t=some (.slice e)) (he:P.underlying e=some (.int k)) (hc:P.cellsOf e=1) {B:Nat} (hB:P.bytesOf e=B)
 (h:DataW.Trod enc P W base spare held t (.slice a len cap) d ps):len*B≤140737488351232:=by
 obtain⟨fuel,hf⟩:=h
 rcases open_ints hu he hc hf with ⟨hcs,_⟩|⟨x,l,c,zs,hcs,_,hl,_,hz,hx,_,_⟩
 ·simp [Value.cells] at hcs
  obtain⟨rfl,rfl,rfl⟩:=hcs
  simp
 ·simp [Value.cells] at hcs
  obtain⟨rfl,rfl,rfl⟩:=hcs
  obtain⟨hx,_⟩:=Prod.mk.inj hx
  subst hx
  have z:=sized_slice hsz ht hd hu
  rw [hB] at z
  have hl2 : len ≤ zs.length := by
   rw [hz]
   split
   ·exact hl
   ·exact Nat.le_refl _
  have h1 : (lits (H := H) k (zs.take len)).length + (lits (H := H) k (zs.drop len)).length = zs.length := by
   simp [lits]
   omega
  rw [h1] at z
  exact Nat.le_trans (Nat.mul_le_mul_right _ hl2) z
end Go.Proofs.YtcbjpdaogicibaaW.PrintWords
end
