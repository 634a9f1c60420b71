/- Part 8 of what is common to several claims of this seat: BlocksOfL. -/
import Derived.Test.YtmbapglhkbpokaaLB7
import Derived.Below
import Derived.Deep.Draws
import Derived.Deep.AppendLies
import Derived.Maps.AppendAt
import Derived.OwnWalk
import Derived.Laws.BytesArg
import Derived.Laws.MakeOwn
import Derived.Laws.OwnMore
import Derived.Deep.OwnRows
import Derived.Tactics
import Derived.Lib.ConvBytes
import Derived.Laws.Slices
import Derived.WalkKit
import Derived.KernelRfl
import Derived.RowKit3
import Derived.Deep.LoopGhost
import Derived.Deep.QuietTactic
import Derived.BigQuiet
import Derived.WideLaws
import Derived.Deep.DeepCutAuto
import Derived.Deep.CutBlock
import Derived.Deep.RegionHeld3
import Derived.Laws.Rows
import Derived.Lib.AppendStr
import Derived.ArgAppend
import Derived.Laws.IdiomCopy
import Derived.RowKit
import Derived.OrdersHeld
import Derived.Laws.BitsLemmas
import Derived.Test.YtmbapglhkbpokaaProg
import Derived.Laws.Bits64b
import Derived.Maps.OwnOps
import Derived.Maps.Views
import Derived.ProofKit
import Derived.OpenShut
import Derived.SizedLaws
import Derived.ChangeSlices
set_option linter.all false
section
namespace Go.Proofs.Ytmbapglhkbpokaa.Print
open Go.RowKit Go.Proofs.YtmbapglhkbpokaaW.PrintWords Go.Proofs.YtmbapglhkbpokaaW.PrintLast Go.Proofs.YtmbapglhkbpokaaW.PrintMore
open Oml
theorem drawBlocksOf_ev {l : List Int} (h : Bytes l) : ∃ V M, Ev (fun k => spec_DrawBlocksOf.f k l) (V, M) := by
 obtain⟨b,hb,hbl,ho⟩:=open_ev h
 obtain⟨V,M,q,hd,_,_⟩:=logic_ev hb hbl (p:=0) (by omega) (by omega) 9
 exact⟨V,M,by unfold spec_DrawBlocksOf.f;exact Ev.pbind ho (Ev.bind hd (Ev.now _))⟩
theorem take_fold {f : Nat → Nat → Nat} (l : List Nat) (z : Nat) {i : Nat} (hi : i < l.length) : (l.take (i + 1)).foldl f z = f ((l.take i).foldl f z) (l.getD i 0) := by
 rw [List.take_add_one,List.foldl_append,List.getElem?_eq_getElem hi,List.getD_eq_getElem?_getD,List.getElem?_eq_getElem hi]
 rfl
theorem blkL_len (V : List (List Int)) (M : List Int) : (blkL V M).length = (blkN V M).length := filI_len _ _
theorem blkL_rd (V : List (List Int)) (M : List Int) (i : Nat) : rd (blkL V M) (i : Int) = (((blkN V M).getD i 0 : Nat) : Int) := by rw [rd_nat]; exact filI_at _ _ i
theorem blk_mem {V : List (List Int)} {M : List Int} {i : Nat} (hi : i < (blkN V M).length) : (blkN V M).getD i 0 ∈ blkS V M ∧ (blkN V M).getD i 0 < 2 ^ V.length := by
 have h:(blkN V M).getD i 0 ∈ blkN V M:=by
  rw [List.getD_eq_getElem?_getD,List.getElem?_eq_getElem hi]
  exact List.getElem_mem hi
 exact⟨h,by have:=(List.mem_filter.1 h).1;simpa using this⟩
def cenS (n : Nat) (p : Nat → Bool) (i : Nat) : Nat := ((filN n p).take i).foldl (fun a b => a + 2 ^ b) 0
theorem cenS_all (n : Nat) (p : Nat → Bool) : (filN n p).foldl (fun a b => a + 2 ^ b) 0 = setB n p := by
 induction n with
 |zero=>rfl
 |succ n ih=>
  rw [setB_sum,← ih]
  unfold filN
  rw [List.range_succ,List.filter_append,List.foldl_append]
  cases h:p n <;> simp [h]
theorem fold_le (l : List Nat) (z : Nat) : z ≤ l.foldl (fun a b => a + 2 ^ b) z := by
 induction l generalizing z with
 |nil=>exact Nat.le_refl _
 |cons a l ih=>exact Nat.le_trans (Nat.le_add_right _ _) (ih (z+2 ^ a))
theorem cenS_le (n : Nat) (p : Nat → Bool) (i : Nat) : cenS n p i ≤ setB n p := by
 rw [← cenS_all]
 conv => rhs; rw [← List.take_append_drop i (filN n p), List.foldl_append]
 exact fold_le _ _
theorem laws_FnBlocksOf.ev (l : List Int) (h : Bytes l) : Ev (fun k => laws_FnBlocksOf.f k l) true := by
 unfold laws_FnBlocksOf.f
 by_cases hl:(l.length:Int)>1048576
 ·exact Ev.ite_pos hl (Ev.now _)
 refine Ev.ite_neg hl ?_
 obtain⟨V,M,hd⟩:=drawBlocksOf_ev h
 have hbl:impl_BlocksOf.f V M=some (if logicB V M=true then blkL V M else []):=rfl
 refine Ev.bind hd (Ev.pbind hbl (Ev.bind (spec_BlocksOf.ev V M) ?_))
 dsimp only
 cases hg:logicB V M with
 |false=>
  rw [if_neg (by simp)]
  refine Ev.bind (sameInts_ev [] (by simp)) (Ev.ite_pos rfl (Ev.ite_pos rfl ?_))
  exact Ev.pbind (show impl_LogicOk.f V M=some false by unfold impl_LogicOk.f;rw [hg]) (Ev.ite_neg (by simp) (Ev.bind alive_ok (Ev.now _)))
 |true=>
 have L:=logicB_iff.1 hg
 have hs:=L.small
 have hM2:2 ^ V.length≤4096:=Nat.pow_le_pow_right (by omega) hs
 have hln:=blkL_len V M
 have hle:(blkN V M).length≤4096:=by
  unfold blkN
  exact Nat.le_trans (List.length_filter_le _ _) (by rw [List.length_range];exact hM2)
 have hpos:0<(blkN V M).length:=by
  obtain⟨t,ht,_⟩:=block_some L L.ol.bot
  exact List.length_pos_iff.2 (List.ne_nil_of_mem (show t ∈ blkN V M from ht))
 rw [if_pos rfl]
 refine Ev.bind (sameInts_ev _ (by omega)) (Ev.ite_pos rfl (Ev.ite_neg (by omega) ?_))
 have hw:wrap64 (shl .i64 1 (M.length:Int) - 1)=((2 ^ V.length - 1:Nat):Int):=by
  rw [L.len,shl_nat (by omega)]
  have:=Nat.one_le_two_pow (n:=V.length)
  generalize 2 ^ V.length=y at this hM2 ⊢
  unfold wrap64;omega
 rw [hw]
 have hke:=spec_KeepsOk.ev V M
 rw [hg,if_pos rfl] at hke
 have hcen:=spec_CentreOf.ev V M
 rw [hg,if_pos rfl] at hcen
 refine Ev.loop (σ:=Nat × Nat) (g:=fun k s i=>laws_FnBlocksOf.l0 k (blkL V M) (s.1:Int) (s.2:Int) i V M) (blkN V M).length (fun i s=>s.1=((blkN V M).take i).foldl (fun a b=>a|||b) 0∧s.2=((blkN V M).take i).foldl (fun a b=>a &&& b) (2 ^ V.length - 1)∧s.1<2 ^ V.length∧s.2<2 ^ V.length) (by omega) (fun s h=>?_) (fun i s hi h=>?_) (0,2 ^ V.length - 1) ⟨rfl,rfl,Nat.two_pow_pos _,by have:=Nat.two_pow_pos V.length;omega⟩
 ·obtain⟨o,c⟩:=s
  obtain⟨rfl,rfl,_,_⟩:=h
  refine Ev.succ ?_
  simp only [laws_FnBlocksOf.l0]
  refine Ev.ite_neg (by omega) (Ev.bind hcen ?_)
  have hbs:blkN V M=blkS V M:=rfl
  rw [List.take_length,hbs,blocks_all L (fun t ht=>by have:=(List.mem_filter.1 ht).1;simpa using this),blocks_common L]
  have hfl:=filI_len V.length (cenP V M)
  have hfl2:=filN_len V.length (cenP V M)
  have hsm:=setB_lt V.length (cenP V M)
  refine Ev.loop (σ:=Nat) (g:=fun k s i=>laws_FnBlocksOf.l1 k (blkL V M) ((2 ^ V.length - 1:Nat):Int) ((setB V.length (cenP V M):Nat):Int) (s:Int) (filI V.length (cenP V M)) i V M) (filN V.length (cenP V M)).length (fun i s=>s=cenS V.length (cenP V M) i) (by omega) (fun s h=>?_) (fun i s hi h=>?_) 0 rfl
  ·subst h
   refine Ev.succ ?_
   simp only [laws_FnBlocksOf.l1]
   rw [hw]
   have e:cenS V.length (cenP V M) (filN V.length (cenP V M)).length=setB V.length (cenP V M):=by unfold cenS;rw [List.take_length,cenS_all]
   rw [e]
   exact Ev.ite_neg (by omega) (Ev.ite_pos rfl (Ev.ite_pos rfl (Ev.bind (ascend_ev (blkP V M) (by omega)) (Ev.now _))))
  ·subst h
   have ha:=filN_at (n:=V.length) (p:=cenP V M) hi
   refine⟨cenS V.length (cenP V M) (i+1),rfl,fun K=>Ev.succ ?_⟩
   simp only [laws_FnBlocksOf.l1]
   have e1:rd (filI V.length (cenP V M)) (i:Int)=(((filN V.length (cenP V M)).getD i 0:Nat):Int):=by rw [rd_nat];exact filI_at _ _ i
   have e2:cenS V.length (cenP V M) (i+1)=cenS V.length (cenP V M) i+2 ^ ((filN V.length (cenP V M)).getD i 0):=take_fold _ _ hi
   have e3:=cenS_le V.length (cenP V M) (i+1)
   rw [e1,shl_nat (by omega)]
   have e4:wrap64 (((cenS V.length (cenP V M) i:Nat):Int)+((2 ^ ((filN V.length (cenP V M)).getD i 0):Nat):Int))=((cenS V.length (cenP V M) (i+1):Nat):Int):=by
    rw [e2]
    generalize 2 ^ ((filN V.length (cenP V M)).getD i 0)=z at e2 ⊢
    generalize 2 ^ V.length=y at hM2 hsm
    unfold wrap64;omega
   rw [e4]
   exact Ev.ite_pos (by omega) (Ev.ite_pos (by omega) (Ev.ite_pos (by omega) K))
 ·obtain⟨o,c⟩:=s
  obtain⟨h1,h2,h3,h4⟩:=h
  simp only at h1 h2 h3 h4
  obtain⟨hm,hlt⟩:=blk_mem hi
  obtain⟨t,ht⟩: ∃t,t=(blkN V M).getD i 0:=⟨_,rfl⟩
  rw [← ht] at hm hlt
  refine⟨(o|||t,c &&& t),⟨by simp only;rw [take_fold _ _ hi,← h1,ht],by simp only;rw [take_fold _ _ hi,← h2,ht],Nat.or_lt_two_pow h3 hlt,Nat.lt_of_le_of_lt Nat.and_le_left h4⟩,fun K=>Ev.succ ?_⟩
  simp only [laws_FnBlocksOf.l0]
  rw [blkL_rd,← ht]
  have hb1:o<4611686018427387904:=by omega
  have hb2:c<4611686018427387904:=by omega
  have hb3:t<4611686018427387904:=by omega
  rw [bor_nat o t hb1 hb3,band_nat c t hb2 hb3]
  refine Ev.ite_pos (by omega) (Ev.ite_pos (by omega) (Ev.bind hke ?_))
  cases hk:keepB V M with
  |false=>exact Ev.ite_neg (by simp) K
  |true=>
   have Kp:=(keepB_iff L).1 hk
   have hcl:=block_clo L Kp hm
   have hset:=block_set L hm hlt
   have hP:=part_logic L hcl (block_bot L hm)
   have q1:impl_SubOk.f V M (t:Int)=some true:=by unfold impl_SubOk.f;rw [hg,hset,Int.toNat_natCast,hcl];rfl
   have q2:impl_PartOf.f V M (t:Int)=some (partU V t,partN V M t):=by unfold impl_PartOf.f;rw [hg,hset,Int.toNat_natCast,hcl];rfl
   have q3:impl_BooleanOk.f (partU V t) (partN V M t)=some true:=by unfold impl_BooleanOk.f;rw [logicB_iff.2 hP,if_pos rfl,part_boole L Kp hm]
   exact Ev.ite_pos rfl (Ev.pbind q1 (Ev.ite_pos rfl (Ev.pbind q2 (Ev.pbind q3 (Ev.ite_pos rfl K)))))
end Go.Proofs.Ytmbapglhkbpokaa.Print
namespace Go.Proofs.Ytmbapglhkbpokaa.Pure
open Go.RowKit Go.Proofs.Ytmbapglhkbpokaa.Print Go.Proofs.YtmbapglhkbpokaaW.PrintWords Go.Proofs.YtmbapglhkbpokaaW.PrintLast Go.Proofs.YtmbapglhkbpokaaW.PrintMore
theorem FnBlocksOf : laws_FnBlocksOf.Pure := fun l _ _ hw => (laws_FnBlocksOf.ev l fun x hx => by
 have:=hw x hx
 first|exact Go.RowKit.bounds_u8 this|exact Go.ChangeShapes.bounds_u8 this|exact bounds_u8 this|(simp [Lit.wf,IntKind.wf] at this;omega)|(simp [Lit.wf] at this;omega)).rounds
end Go.Proofs.Ytmbapglhkbpokaa.Pure
end
section
namespace Go.Proofs.YtmbapglhkbpokaaW.PrintWords
open Go.ChangeShapes Go.WideShapes
theorem sized_ints {H : Type} {enc : TypeId × Value → H} {P : Program} {W : World} {base : Nat} {spare : Nat → Bool} {held : Bool} {t e : TypeId} {k : IntKind} {a : Option Addr} {len cap : Nat} {d : DataW H} {ps : List MemPlace} {ts : List TypeId} {ds : List (DataW H)} {j : Nat}
 (hsz:(DataW.weightsEach P ts ds).all (· ≤reachBytes)=true) (ht:ts[j]? =some t) (hd:ds[j]? =some d) (hu:P.underlying t=some (.slice e)) (he:P.underlying e=some (.int k)) (hc:P.cellsOf e=1) {B:Nat} (hB:P.bytesOf e=B)
 (h:DataW.Trod enc P W base spare held t (.slice a len cap) d ps):len*B≤140737488351232:=by
 obtain⟨fuel,hf⟩:=h
 rcases open_ints hu he hc hf with ⟨hcs,_⟩|⟨x,l,c,zs,hcs,_,hl,_,hz,hx,_,_⟩
 ·simp [Value.cells] at hcs
  obtain⟨rfl,rfl,rfl⟩:=hcs
  simp
 ·simp [Value.cells] at hcs
  obtain⟨rfl,rfl,rfl⟩:=hcs
  obtain⟨hx,_⟩:=Prod.mk.inj hx
  subst hx
  have z:=sized_slice hsz ht hd hu
  rw [hB] at z
  have hl2 : len ≤ zs.length := by
   rw [hz]
   split
   ·exact hl
   ·exact Nat.le_refl _
  have h1 : (lits (H := H) k (zs.take len)).length + (lits (H := H) k (zs.drop len)).length = zs.length := by
   simp [lits]
   omega
  rw [h1] at z
  exact Nat.le_trans (Nat.mul_le_mul_right _ hl2) z
end Go.Proofs.YtmbapglhkbpokaaW.PrintWords
end
