/- Part 9 of what is common to several claims of this seat: DualL. -/
import Derived.Test.YtbomiegcbimgoaaGreatLA8
import Derived.Below
import Derived.Deep.Draws
import Derived.Deep.AppendLies
import Derived.Maps.AppendAt
import Derived.OwnWalk
import Derived.Laws.BytesArg
import Derived.Laws.MakeOwn
import Derived.Laws.OwnMore
import Derived.Deep.OwnRows
import Derived.Tactics
import Derived.Lib.ConvBytes
import Derived.Laws.Slices
import Derived.WalkKit
import Derived.KernelRfl
import Derived.RowKit3
import Derived.Deep.LoopGhost
import Derived.Deep.QuietTactic
import Derived.BigQuiet
import Derived.WideLaws
import Derived.Deep.DeepCutAuto
import Derived.Deep.CutBlock
import Derived.Deep.RegionHeld3
import Derived.Laws.Rows
import Derived.Lib.AppendStr
import Derived.ArgAppend
import Derived.Laws.IdiomCopy
import Derived.RowKit
import Derived.OrdersHeld
import Derived.Laws.BitsLemmas
import Derived.Test.YtbomiegcbimgoaaGreatProg
import Derived.Tactics2
import Derived.Defers
import Derived.Laws.Pointers
import Derived.Laws.LoneSync
import Derived.RegionTactic
import Derived.RegionCalls
import Derived.ChangeAlike
import Derived.Lib.LazyBuf
import Derived.ProofKit
import Derived.OpenShut
import Derived.SizedLaws
import Derived.ChangeSlices
set_option linter.all false
section
namespace Go.Proofs.YtbomiegcbimgoaaGreat.Print
open Go.RowKit Go.Proofs.YtbomiegcbimgoaaGreatW.PrintWords Go.Proofs.YtbomiegcbimgoaaGreatW.PrintLast Go.Proofs.YtbomiegcbimgoaaGreatW.PrintMore
open Oml
theorem drawDualOf_ev {l : List Int} (h : Bytes l) : ∃ s, Ev (fun k => spec_DrawDualOf.f k l) s ∧ s.size ≤ 200 := by
 obtain⟨b,hb,hbl,ho⟩:=open_ev h
 obtain⟨s,r,hs,r0,r1,s1⟩:=formed_ev hb hbl (p:=0) (by omega) (by omega) 9
 unfold spec_DrawDualOf.f
 exact⟨s,Ev.pbind ho (Ev.bind hs (Ev.now _)),s1⟩
theorem drawValueOf_ev {l : List Int} (h : Bytes l) : ∃ V M s x y z, Ev (fun k => spec_DrawValueOf.f k l) (V, M, s, x, y, z) := by
 obtain⟨b,hb,hbl,ho⟩:=open_ev h
 obtain⟨V,M,x,y,z,q,hd,q0,q1⟩:=three_ev' hb hbl (p:=0) (by omega) (by omega) 14
 obtain⟨s,r,hs,r0,r1,s1⟩:=formed_ev hb hbl (p:=q) (by omega) (by omega) 14
 unfold spec_DrawValueOf.f
 exact⟨V,M,s,x,y,z,Ev.pbind ho (Ev.bind hd (Ev.bind hs (Ev.now _)))⟩
section
variable {U : List (List Int)} {N : List Int} (L : Logic U N)
include L
theorem val_dual (x y z : Fin U.length) : ∀ f : Fm, WF f → valO L (L.ol.neg x) (L.ol.neg y) (L.ol.neg z) (dualF f) = L.ol.neg (valO L x y z f)
 | .leaf c,h=>by
  have hc:c=97∨c=98∨c=99∨c=48∨c=49:=by
   have h':isLeaf c:=h
   unfold isLeaf at h'
   omega
  rcases hc with rfl|rfl|rfl|rfl|rfl
  ·rfl
  ·rfl
  ·rfl
  ·rfl
  ·exact L.ol.neg_top.symm
 | .neg f,h=>congrArg L.ol.neg (val_dual x y z f h)
 | .bin o f g,h=>by
  have e1:=val_dual x y z f h.2.1
  have e2:=val_dual x y z g h.2.2
  rcases h.1 with rfl|rfl
  ·show L.ol.join (valO L _ _ _ (dualF f)) (valO L _ _ _ (dualF g))=L.ol.neg (L.ol.meet (valO L x y z f) (valO L x y z g))
   rw [e1,e2,L.ol.neg_meet]
  ·show L.ol.meet (valO L _ _ _ (dualF f)) (valO L _ _ _ (dualF g))=L.ol.neg (L.ol.join (valO L x y z f) (valO L x y z g))
   rw [e1,e2,L.ol.neg_join]
end
theorem fm_pos {s : ByteArray} {f : Fm} (h : fmOf s = some f) : 0 < s.size := by
 apply Nat.pos_of_ne_zero
 intro e
 unfold fmOf at h
 rw [if_neg (by omega), e] at h
 simp [rdF] at h
theorem laws_FnDualOf.ev (l m : List Int) (h : Bytes l) (hm : Bytes m) : Ev (fun k => laws_FnDualOf.f k l m) true := by
 unfold laws_FnDualOf.f
 have jt:Ev (fun k=>laws_FnDualOf.j0 k l m true) true:=by
  refine Ev.succ ?_
  simp only [laws_FnDualOf.j0]
  exact Ev.ite_pos (by simp) (Ev.now _)
 by_cases hl:(l.length:Int)>1048576
 ·exact Ev.ite_pos hl jt
 refine Ev.ite_neg hl ?_
 by_cases hl2:(m.length:Int)>1048576
 ·rw [decide_eq_true hl2];exact jt
 rw [decide_eq_false hl2]
 obtain⟨s,hd,hsz⟩:=drawDualOf_ev h
 obtain⟨V,M,s2,a,b,c,hv⟩:=drawValueOf_ev hm
 have hi:impl_DualOf.f s=some (if(fmOf s).isSome=true then dualS s else⟨#[]⟩):=by
  unfold impl_DualOf.f
  rw [if_pos (by omega)]
  show (if(fmOf s).isSome=true then some (dualS s) else some ⟨#[]⟩)=_
  cases (fmOf s).isSome <;> rfl
 have hj1: ∀f,fmOf s=some f→Ev (fun k=>laws_FnDualOf.j1 k s (dualS s) false) true:=fun f hf=>by
  have e1:impl_DualOf.f (dualS s)=some s:=by
   unfold impl_DualOf.f
   rw [dualS_size,if_pos (by omega)]
   show (if(fmOf (dualS s)).isSome=true then some (dualS (dualS s)) else some ⟨#[]⟩)=_
   rw [fm_dual,hf,dualS_dualS]
   rfl
  have e2:impl_FormulaOk.f (dualS s)=some true:=by
   unfold impl_FormulaOk.f
   rw [fm_dual,hf]
   rfl
  refine Ev.succ ?_
  simp only [laws_FnDualOf.j1]
  exact Ev.ite_neg (by simp) (Ev.pbind e1 (Ev.ite_pos rfl (Ev.pbind e2 (Ev.ite_pos rfl (Ev.bind alive_ok (Ev.now _))))))
 refine Ev.succ ?_
 simp only [laws_FnDualOf.j0]
 refine Ev.ite_neg (by simp) (Ev.bind hd (Ev.pbind hi (Ev.bind (spec_DualOf.ev s) (Ev.ite_pos rfl ?_))))
 cases hf:fmOf s with
 |none=>
  have e2:impl_FormulaOk.f s=some false:=by unfold impl_FormulaOk.f;rw [hf];rfl
  exact Ev.ite_pos (by rw [if_neg (by simp),ByteArray.toList_eq]) (Ev.pbind e2 (Ev.ite_neg (by simp) (Ev.bind alive_ok (Ev.now _))))
 |some f=>
 have hw:=fm_wf hf
 have hpos:=fm_pos hf
 simp only [Option.isSome_some,if_true]
 have hne: ¬(dualS s).toList=([]:List UInt8):=fun e=>by
  rw [ByteArray.toList_eq] at e
  have h1:=congrArg List.length e
  rw [data_length,dualS_size] at h1
  have h2:s.size=0:=h1
  omega
 refine Ev.ite_neg hne (Ev.bind hv ?_)
 dsimp only
 have hv0: ∀(t:ByteArray) (g:Fm) (x y z:Int),fmOf t=some g→impl_ValueOf.f V M t x y z=some (if logicB V M=true then(if [x,y,z].all (inR V.length)=true then valF V M x y z g else -1) else -1):=fun t g x y z ht=>by
  unfold impl_ValueOf.f
  rw [ht]
 cases hg:logicB V M with
 |false=>
  refine Ev.pbind (hv0 s f a b c hf) ?_
  rw [hg,if_neg (by simp)]
  exact Ev.ite_neg (by omega) (hj1 f hf)
 |true=>
 have L:=logicB_iff.1 hg
 cases hin: [a,b,c].all (inR V.length) with
 |false=>
  refine Ev.pbind (hv0 s f a b c hf) ?_
  rw [hg,if_pos rfl,hin,if_neg (by simp)]
  exact Ev.ite_neg (by omega) (hj1 f hf)
 |true=>
 refine Ev.pbind (hv0 s f a b c hf) ?_
 rw [hg,if_pos rfl,hin,if_pos rfl]
 simp only [List.all_cons,List.all_nil,Bool.and_true,Bool.and_eq_true,inR_iff] at hin
 obtain⟨x,rfl⟩:=fin_of hin.1
 obtain⟨y,rfl⟩:=fin_of hin.2.1
 obtain⟨z,rfl⟩:=fin_of hin.2.2
 have e2: ∀u:Fin V.length,impl_NotOf.f V M ((u.1:Nat):Int)=some (((L.ol.neg u).1:Nat):Int):=fun u=>by unfold impl_NotOf.f;rw [hg,if_pos rfl,inR_one u,if_pos rfl,not_fin L]
 have hin2: [(((L.ol.neg x).1:Nat):Int),(((L.ol.neg y).1:Nat):Int),(((L.ol.neg z).1:Nat):Int)].all (inR V.length)=true:=by
  simp only [List.all_cons,List.all_nil,Bool.and_true,Bool.and_eq_true,inR_iff]
  exact⟨⟨by omega,by have:=(L.ol.neg x).2;omega⟩,⟨by omega,by have:=(L.ol.neg y).2;omega⟩,⟨by omega,by have:=(L.ol.neg z).2;omega⟩⟩
 have e5:=hv0 (dualS s) (dualF f) (((L.ol.neg x).1:Nat):Int) (((L.ol.neg y).1:Nat):Int) (((L.ol.neg z).1:Nat):Int) (by rw [fm_dual,hf];rfl)
 rw [hg,if_pos rfl,hin2,if_pos rfl,val_fin L,val_dual L x y z f hw] at e5
 rw [val_fin L]
 refine Ev.ite_pos (by omega) (Ev.pbind (e2 x) (Ev.pbind (e2 y) (Ev.pbind (e2 z) (Ev.pbind e5 (Ev.pbind (e2 _) ?_)))))
 exact Ev.eq (by simpa using hj1 f hf) rfl
end Go.Proofs.YtbomiegcbimgoaaGreat.Print
namespace Go.Proofs.YtbomiegcbimgoaaGreat.Pure
open Go.RowKit Go.Proofs.YtbomiegcbimgoaaGreat.Print Go.Proofs.YtbomiegcbimgoaaGreatW.PrintWords Go.Proofs.YtbomiegcbimgoaaGreatW.PrintLast Go.Proofs.YtbomiegcbimgoaaGreatW.PrintMore
theorem u8_bytes {l : List Int} (hw : ∀ x ∈ l, (Lit.int .u8 x).wf = true) : Bytes l := fun x hx => by
 have:=hw x hx
 first|exact Go.RowKit.bounds_u8 this|exact Go.ChangeShapes.bounds_u8 this|exact bounds_u8 this|(simp [Lit.wf,IntKind.wf] at this;omega)|(simp [Lit.wf] at this;omega)
theorem FnDualOf : laws_FnDualOf.Pure := fun l m _ _ hw _ _ hw2 => (laws_FnDualOf.ev l m (u8_bytes hw) (u8_bytes hw2)).rounds
end Go.Proofs.YtbomiegcbimgoaaGreat.Pure
end
section
namespace Go.Proofs.YtbomiegcbimgoaaGreatW.PrintWords
open Go.ChangeShapes Go.WideShapes
theorem sized_ints {H : Type} {enc : TypeId × Value → H} {P : Program} {W : World} {base : Nat} {spare : Nat → Bool} {held : Bool} {t e : TypeId} {k : IntKind} {a : Option Addr} {len cap : Nat} {d : DataW H} {ps : List MemPlace} {ts : List TypeId} {ds : List (DataW H)} {j : Nat}
 (hsz:(DataW.weightsEach P ts ds).all (· ≤reachBytes)=true) (ht:ts[j]? =some t) (hd:ds[j]? =some d) (hu:P.underlying t=some (.slice e)) (he:P.underlying e=some (.int k)) (hc:P.cellsOf e=1) {B:Nat} (hB:P.bytesOf e=B)
 (h:DataW.Trod enc P W base spare held t (.slice a len cap) d ps):len*B≤140737488351232:=by
 obtain⟨fuel,hf⟩:=h
 rcases open_ints hu he hc hf with ⟨hcs,_⟩|⟨x,l,c,zs,hcs,_,hl,_,hz,hx,_,_⟩
 ·simp [Value.cells] at hcs
  obtain⟨rfl,rfl,rfl⟩:=hcs
  simp
 ·simp [Value.cells] at hcs
  obtain⟨rfl,rfl,rfl⟩:=hcs
  obtain⟨hx,_⟩:=Prod.mk.inj hx
  subst hx
  have z:=sized_slice hsz ht hd hu
  rw [hB] at z
  have hl2 : len ≤ zs.length := by
   rw [hz]
   split
   ·exact hl
   ·exact Nat.le_refl _
  have h1 : (lits (H := H) k (zs.take len)).length + (lits (H := H) k (zs.drop len)).length = zs.length := by
   simp [lits]
   omega
  rw [h1] at z
  exact Nat.le_trans (Nat.mul_le_mul_right _ hl2) z
end Go.Proofs.YtbomiegcbimgoaaGreatW.PrintWords
end
