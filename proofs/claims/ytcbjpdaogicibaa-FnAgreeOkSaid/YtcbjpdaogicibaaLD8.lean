/- Part 8 of what is common to several claims of this seat: AgreeOkL. -/
import Derived.Test.YtcbjpdaogicibaaLD7
import Derived.Below
import Derived.Deep.Draws
import Derived.Deep.AppendLies
import Derived.Maps.AppendAt
import Derived.OwnWalk
import Derived.Laws.BytesArg
import Derived.Laws.MakeOwn
import Derived.Laws.OwnMore
import Derived.Deep.OwnRows
import Derived.Tactics
import Derived.Lib.ConvBytes
import Derived.Laws.Slices
import Derived.WalkKit
import Derived.KernelRfl
import Derived.RowKit3
import Derived.Deep.LoopGhost
import Derived.Deep.QuietTactic
import Derived.BigQuiet
import Derived.WideLaws
import Derived.Deep.DeepCutAuto
import Derived.Deep.CutBlock
import Derived.Deep.RegionHeld3
import Derived.Laws.Rows
import Derived.Lib.AppendStr
import Derived.ArgAppend
import Derived.Laws.IdiomCopy
import Derived.RowKit
import Derived.OrdersHeld
import Derived.Laws.BitsLemmas
import Derived.Test.YtcbjpdaogicibaaProg
import Derived.Laws.Bits64b
import Derived.ProofKit
import Derived.OpenShut
import Derived.SizedLaws
import Derived.ChangeSlices
set_option linter.all false
section
namespace Go.Proofs.Ytcbjpdaogicibaa.Print
open Go.RowKit Go.Proofs.YtcbjpdaogicibaaW.PrintWords Go.Proofs.YtcbjpdaogicibaaW.PrintLast Go.Proofs.YtcbjpdaogicibaaW.PrintMore
open Oml
theorem drawAgreeOk_ev {l : List Int} (h : Bytes l) : ∃ V M x, Ev (fun k => spec_DrawAgreeOk.f k l) (V, M, x) := by
 obtain⟨b,hb,hbl,ho⟩:=open_ev h
 obtain⟨V,M,x,q,hd,q0,q1⟩:=some_ev hb hbl (p:=0) (by omega) (by omega) 12
 obtain⟨T,hT⟩: ∃T,Ev (fun k=>spec_BlocksOf.f k V M) T:=⟨_,spec_BlocksOf.ev V M⟩
 unfold spec_DrawAgreeOk.f
 by_cases hT0:(T.length:Int)>0
 ·obtain⟨v,e,_,_⟩:=pick_ev hb hbl (p:=q) (by omega) (by omega) 2
  by_cases hv:v=0
  ·obtain⟨y,ey,y0,y1⟩:=pick_ev hb hbl (p:=q+1) (by omega) (by omega) (T.length:Int)
   exact⟨V,M,rd T y,Ev.pbind ho (Ev.bind hd (Ev.bind hT (Ev.ite_pos hT0 (Ev.bind e (Ev.ite_pos hv (Ev.bind ey (Ev.ite_pos y0 (Ev.ite_pos (y1 (by omega)) (Ev.now _)))))))))⟩
  ·exact⟨V,M,x,Ev.pbind ho (Ev.bind hd (Ev.bind hT (Ev.ite_pos hT0 (Ev.bind e (Ev.ite_neg hv (Ev.now _))))))⟩
 ·exact⟨V,M,x,Ev.pbind ho (Ev.bind hd (Ev.bind hT (Ev.ite_neg hT0 (Ev.now _))))⟩
theorem andNot_nat (a b : Nat) (ha : a < 4611686018427387904) (hb : b < 4611686018427387904) : (Go.bits .andNot .i64 (a : Int) (b : Int) == 0) = true ↔ ∀ i, a.testBit i = true → b.testBit i = true := by
 have hx:a &&& (2 ^ 64 - 1 - b)<2 ^ 62:=Nat.lt_of_le_of_lt Nat.and_le_left (by omega)
 have e:Go.bits .andNot .i64 (a:Int) (b:Int)=((a &&& (2 ^ 64 - 1 - b):Nat):Int):=by
  show IntKind.i64.wrap ((BitVec.ofInt 64 (a:Int) &&& ~~~ BitVec.ofInt 64 (b:Int)).toNat:Int)=_
  rw [BitVec.toNat_and,BitVec.toNat_not,ofInt_nat a (by omega),ofInt_nat b (by omega),i64_w]
  unfold wrap64;omega
 have hbit: ∀i,(2 ^ 64 - 1 - b).testBit i=(decide (i<64) && !(b.testBit i)):=fun i=>by
  have:=Nat.testBit_two_pow_sub_succ (n:=64) (x:=b) (by omega) i
  rw [show 2 ^ 64 - 1 - b=2 ^ 64 - (b+1) by omega]
  exact this
 rw [e,beq_iff_eq]
 constructor
 ·intro h i hi
  have h2:a &&& (2 ^ 64 - 1 - b)=0:=by omega
  have h3:(a &&& (2 ^ 64 - 1 - b)).testBit i=false:=by rw [h2,Nat.zero_testBit]
  rw [Nat.testBit_and,hi,hbit,Bool.true_and,Bool.and_eq_false_iff] at h3
  rcases h3 with h3|h3
  ·rw [decide_eq_false_iff_not] at h3
   have:a<2 ^ i:=Nat.lt_of_lt_of_le (show a<2 ^ 64 by omega) (Nat.pow_le_pow_right (by omega) (by omega))
   rw [Nat.testBit_lt_two_pow this] at hi
   exact absurd hi (by simp)
  ·simpa using h3
 ·intro h
  have h2:a &&& (2 ^ 64 - 1 - b)=0:=by
   apply Nat.eq_of_testBit_eq
   intro i
   rw [Nat.testBit_and,hbit,Nat.zero_testBit]
   cases hi:a.testBit i with
   |false=>rfl
   |true=>rw [h i hi];simp
  omega
theorem laws_FnAgreeOk.ev (l : List Int) (h : Bytes l) : Ev (fun k => laws_FnAgreeOk.f k l) true := by
 unfold laws_FnAgreeOk.f
 by_cases hl:(l.length:Int)>1048576
 ·exact Ev.ite_pos hl (Ev.now _)
 refine Ev.ite_neg hl ?_
 obtain⟨V,M,x,hd⟩:=drawAgreeOk_ev h
 refine Ev.bind hd (Ev.pbind rfl (Ev.bind (spec_AgreeOk.ev V M x) ?_))
 dsimp only
 have hno:Ev (fun k=>laws_FnAgreeOk.j0 k x false true V M) true:=by
  refine Ev.succ ?_
  simp only [laws_FnAgreeOk.j0]
  exact Ev.ite_pos (by simp) (Ev.ite_neg (by simp) (Ev.bind alive_ok (Ev.now _)))
 cases hg:logicB V M with
 |false=>
  refine Ev.ite_neg (by simp) (Ev.bind (spec_LogicOk.ev V M) ?_)
  rw [hg]
  exact Ev.ite_neg (by simp) hno
 |true=>
 have L:=logicB_iff.1 hg
 have hs:=L.small
 have hM2:2 ^ V.length≤4096:=Nat.pow_le_pow_right (by omega) hs
 have hsI:setOk V x=inS V x:=by
  unfold setOk inS
  rw [Bool.eq_iff_iff,Bool.and_eq_true,Bool.and_eq_true,decide_eq_true_eq,decide_eq_true_eq,decide_eq_true_eq,decide_eq_true_eq]
  omega
 rw [if_pos rfl,if_pos rfl,hsI]
 cases hi:inS V x with
 |false=>
  refine Ev.ite_neg (by simp) (Ev.bind (spec_LogicOk.ev V M) ?_)
  rw [hg]
  refine Ev.ite_pos rfl ?_
  by_cases hx:x<1
  ·exact Ev.ite_pos hx hno
  ·refine Ev.ite_neg hx ?_
   have:decide (x≥shl .i64 1 (M.length:Int))=true:=by
    rw [L.len,shl_nat (by omega),decide_eq_true_eq]
    unfold inS at hi
    rw [Bool.and_eq_false_iff,decide_eq_false_iff_not,decide_eq_false_iff_not] at hi
    omega
   rw [this]
   exact hno
 |true=>
 have hi2:=hi
 unfold inS at hi2
 simp only [Bool.and_eq_true,decide_eq_true_eq] at hi2
 obtain⟨s,rfl⟩: ∃s:Nat,x=(s:Int):=⟨x.toNat,by omega⟩
 have hlt:s<2 ^ V.length:=by omega
 have h1:1≤s:=by omega
 have hcs:comS V M s<1099511627776:=setB_small (by omega) _
 have hA:(Go.bits .andNot .i64 (s:Int) ((comS V M s:Nat):Int)==0)=agrB V M s:=by
  rw [Bool.eq_iff_iff,andNot_nat s _ (by omega) (by omega),agrB_iff L,rel_iff hlt]
  exact Iff.rfl
 rw [Int.toNat_natCast,Bool.true_and,Bool.true_and,hA]
 refine Ev.ite_neg (by simp) (Ev.bind (spec_LogicOk.ev V M) ?_)
 rw [hg]
 refine Ev.ite_pos rfl (Ev.ite_neg (by omega) ?_)
 have hd2:decide ((s:Int)≥shl .i64 1 (M.length:Int))=false:=by
  rw [L.len,shl_nat (by omega),decide_eq_false_iff_not]
  omega
 rw [hd2]
 refine Ev.succ ?_
 simp only [laws_FnAgreeOk.j0]
 have hbl:impl_BlocksOf.f V M=some (blkL V M):=by unfold impl_BlocksOf.f;rw [hg,if_pos rfl]
 refine Ev.ite_neg (by simp) (Ev.pbind hbl ?_)
 have hlen:=blkL_length V M
 have hlen2:=blkN_len M hs
 refine Ev.loop (g:=fun k o i=>laws_FnAgreeOk.l0 k (s:Int) (agrB V M s) (blkL V M) o i) (blkL V M).length (fun i o=>o=anyN i fun j=>(blkN V M).getD j 0 &&& s==s) (by omega) (fun o ho=>?_) (fun i o hi ho=>?_) _ rfl
 ·subst ho
  refine Ev.succ ?_
  simp only [laws_FnAgreeOk.l0]
  refine Ev.ite_neg (by omega) (Ev.ite_pos ?_ (Ev.bind alive_ok (Ev.now _)))
  rw [beq_iff_eq,Bool.eq_iff_iff,agrB_iff L,anyN_iff,← agree_block (both_refl L) (both_symm L) hlt h1]
  constructor
  ·rintro ⟨t,ht,hts⟩
   have ht':t ∈ blkN V M:=ht
   obtain⟨j,hj,e⟩:=List.getElem_of_mem ht'
   refine⟨j,by omega,?_⟩
   rw [List.getD_eq_getElem?_getD,List.getElem?_eq_getElem hj,e,beq_iff_eq]
   exact hts
  ·rintro ⟨j,hj,e⟩
   have hj':j<(blkN V M).length:=by omega
   rw [List.getD_eq_getElem?_getD,List.getElem?_eq_getElem hj',beq_iff_eq] at e
   exact⟨_,(List.getElem_mem hj':_ ∈ blkN V M),e⟩
 ·subst ho
  refine⟨_,rfl,fun hnext=>Ev.succ ?_⟩
  rw [anyN_succ] at hnext
  simp only [laws_FnAgreeOk.l0,rd_nat,blkL_at]
  refine Ev.ite_pos (by omega) ?_
  cases ho:anyN i fun j=>(blkN V M).getD j 0 &&& s==s with
  |true=>
   rw [ho,Bool.true_or] at hnext
   exact Ev.ite_pos rfl hnext
  |false=>
   rw [ho,Bool.false_or] at hnext
   refine Ev.ite_neg (by simp) (Ev.ite_pos (by omega) ?_)
   have hb:=blkN_lt (N:=M) hs i
   rw [band_nat _ _ hb (by omega)]
   have:((((blkN V M).getD i 0 &&& s:Nat):Int)==(s:Int))=((blkN V M).getD i 0 &&& s==s):=by
    rw [Bool.eq_iff_iff,beq_iff_eq,beq_iff_eq];omega
   rw [this]
   exact hnext
end Go.Proofs.Ytcbjpdaogicibaa.Print
namespace Go.Proofs.Ytcbjpdaogicibaa.Pure
open Go.RowKit Go.Proofs.Ytcbjpdaogicibaa.Print Go.Proofs.YtcbjpdaogicibaaW.PrintWords Go.Proofs.YtcbjpdaogicibaaW.PrintLast Go.Proofs.YtcbjpdaogicibaaW.PrintMore
theorem FnAgreeOk : laws_FnAgreeOk.Pure := fun l _ _ hw => (laws_FnAgreeOk.ev l fun x hx => by
 have:=hw x hx
 first|exact Go.RowKit.bounds_u8 this|exact Go.ChangeShapes.bounds_u8 this|exact bounds_u8 this|(simp [Lit.wf,IntKind.wf] at this;omega)|(simp [Lit.wf] at this;omega)).rounds
end Go.Proofs.Ytcbjpdaogicibaa.Pure
end
section
namespace Go.Proofs.YtcbjpdaogicibaaW.PrintWords
open Go.ChangeShapes Go.WideShapes
theorem sized_ints {H : Type} {enc : TypeId × Value → H} {P : Program} {W : World} {base : Nat} {spare : Nat → Bool} {held : Bool} {t e : TypeId} {k : IntKind} {a : Option Addr} {len cap : Nat} {d : DataW H} {ps : List MemPlace} {ts : List TypeId} {ds : List (DataW H)} {j : Nat}
 (hsz:(DataW.weightsEach P ts ds).all (· ≤reachBytes)=true) (ht:ts[j]? =some t) (hd:ds[j]? =some d) (hu:P.underlying t=some (.slice e)) (he:P.underlying e=some (.int k)) (hc:P.cellsOf e=1) {B:Nat} (hB:P.bytesOf e=B)
 (h:DataW.Trod enc P W base spare held t (.slice a len cap) d ps):len*B≤140737488351232:=by
 obtain⟨fuel,hf⟩:=h
 rcases open_ints hu he hc hf with ⟨hcs,_⟩|⟨x,l,c,zs,hcs,_,hl,_,hz,hx,_,_⟩
 ·simp [Value.cells] at hcs
  obtain⟨rfl,rfl,rfl⟩:=hcs
  simp
 ·simp [Value.cells] at hcs
  obtain⟨rfl,rfl,rfl⟩:=hcs
  obtain⟨hx,_⟩:=Prod.mk.inj hx
  subst hx
  have z:=sized_slice hsz ht hd hu
  rw [hB] at z
  have hl2 : len ≤ zs.length := by
   rw [hz]
   split
   ·exact hl
   ·exact Nat.le_refl _
  have h1 : (lits (H := H) k (zs.take len)).length + (lits (H := H) k (zs.drop len)).length = zs.length := by
   simp [lits]
   omega
  rw [h1] at z
  exact Nat.le_trans (Nat.mul_le_mul_right _ hl2) z
end Go.Proofs.YtcbjpdaogicibaaW.PrintWords
end
