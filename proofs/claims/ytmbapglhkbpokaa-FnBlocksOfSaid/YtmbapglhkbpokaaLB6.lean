/- Part 6 of what is common to several claims of this seat: BlocksOfL. -/
import Derived.Test.YtmbapglhkbpokaaLB5
import Derived.Below
import Derived.Deep.Draws
import Derived.Deep.AppendLies
import Derived.Maps.AppendAt
import Derived.OwnWalk
import Derived.Laws.BytesArg
import Derived.Laws.MakeOwn
import Derived.Laws.OwnMore
import Derived.Deep.OwnRows
import Derived.Tactics
import Derived.Lib.ConvBytes
import Derived.Laws.Slices
import Derived.WalkKit
import Derived.KernelRfl
import Derived.RowKit3
import Derived.Deep.LoopGhost
import Derived.Deep.QuietTactic
import Derived.BigQuiet
import Derived.WideLaws
import Derived.Deep.DeepCutAuto
import Derived.Deep.CutBlock
import Derived.Deep.RegionHeld3
import Derived.Laws.Rows
import Derived.Lib.AppendStr
import Derived.ArgAppend
import Derived.Laws.IdiomCopy
import Derived.RowKit
import Derived.OrdersHeld
import Derived.Laws.BitsLemmas
import Derived.Test.YtmbapglhkbpokaaProg
import Derived.Laws.Bits64b
set_option linter.all false
section
namespace Go.Proofs.Ytmbapglhkbpokaa.Print
open Go.RowKit Go.Proofs.YtmbapglhkbpokaaW.PrintWords Go.Proofs.YtmbapglhkbpokaaW.PrintLast Go.Proofs.YtmbapglhkbpokaaW.PrintMore
open Oml
def rowOk (U : List (List Int)) (i : Nat) : Bool :=
 ((U.getD i []).length==U.length) && (leB U i i && allN U.length fun j=>(at2 U i j==0||at2 U i j==1) && ((U.getD j []).length==U.length && !(leB U i j && (!(i==j) && leB U j i))))
def transOk (U : List (List Int)) : Bool := allN U.length fun a => allN U.length fun b => allN U.length fun c => !(leB U a b && leB U b c) || leB U a c
theorem orderB_eq (U : List (List Int)) : orderB U = (decide (1 ≤ U.length) && (decide (U.length ≤ 12) && (allN U.length (rowOk U) && transOk U))) := by
 rw [Bool.eq_iff_iff,orderB_iff]
 unfold rowOk transOk
 simp only [Bool.and_eq_true,decide_eq_true_eq,allN_iff,Bool.or_eq_true,beq_iff_eq,Bool.not_eq_true',Bool.and_eq_false_iff]
 constructor
 ·intro O
  refine⟨O.pos,O.small,fun i hi=>⟨O.row i hi,O.refl i hi,fun j hj=>⟨O.bit i j hi hj,O.row j hj,?_⟩⟩,fun a ha b hb c hc=>?_⟩
  ·by_cases e:i=j
   ·right;left;simp [e]
   ·cases k1:leB U i j <;> cases k2:leB U j i <;> simp
    exact O.anti i j hi hj k1 k2
  ·cases k1:leB U a b <;> cases k2:leB U b c <;> simp
   exact O.trans a b c ha hb hc k1 k2
 ·rintro ⟨h1,h2,h3,h4⟩
  refine⟨h1,h2,fun a ha=>(h3 a ha).1,fun a b ha hb=>((h3 a ha).2.2 b hb).1,fun a ha=>(h3 a ha).2.1,fun a b ha hb k1 k2=>?_,fun a b c ha hb hc k1 k2=>?_⟩
  ·rcases ((h3 a ha).2.2 b hb).2.2 with e|e|e
   ·rw [k1] at e;exact absurd e (by simp)
   ·simpa using e
   ·rw [k2] at e;exact absurd e (by simp)
  ·rcases h4 a ha b hb c hc with (e|e)|e
   ·rw [k1] at e;exact absurd e (by simp)
   ·rw [k2] at e;exact absurd e (by simp)
   ·exact e
theorem impl_OrderOk.ev (U : List (List Int)) : Ev (fun k => impl_OrderOk.f k U) (orderB U) := by
 rw [orderB_eq]
 by_cases h1:1≤U.length
 ·by_cases h2:U.length≤12
  ·simp only [h1,h2,decide_true,Bool.true_and]
   unfold impl_OrderOk.f
   repeat(with_reducible first|refine Ev.ip ?_|refine Ev.iq ?_)
   rw [show decide ((U.length:Int)>12)=false from decide_eq_false (by omega)]
   refine Ev.succ ?_
   simp only [impl_OrderOk.j0]
   repeat(with_reducible first|refine Ev.ip ?_|refine Ev.iq ?_)
   refine Ev.eq (Ev.all (n:=U.length) (g:=fun k i=>impl_OrderOk.l0 k U U.length U U.length i) (rowOk U) (go:=transOk U) (stop:=false) (by omega) (fun hr=>?_) fun i hi hj R hR=>?_) (by cases allN U.length (rowOk U) <;> rfl)
   ·refine Ev.succ ?_
    simp only [impl_OrderOk.l0]
    repeat(with_reducible first|refine Ev.ip ?_|refine Ev.iq ?_)
    refine Ev.eq (Ev.all (n:=U.length) (g:=fun k i=>impl_OrderOk.l2 k U U.length U.length i) (fun a=>allN U.length fun b=>allN U.length fun c=>!(leB U a b && leB U b c)||leB U a c) (go:=true) (stop:=false) (by omega) (fun _=>?_) fun a ha _ R hR=>?_) (by unfold transOk;cases allN U.length _ <;> rfl)
    ·refine Ev.succ ?_
     simp only [impl_OrderOk.l2]
     repeat(with_reducible first|refine Ev.ip ?_|refine Ev.iq ?_)
     exact Ev.now _
    ·refine Ev.succ ?_
     simp only [impl_OrderOk.l2]
     repeat(with_reducible first|refine Ev.ip ?_|refine Ev.iq ?_)
     refine Ev.all (n:=U.length) (g:=fun k i=>impl_OrderOk.l3 k U U.length a U.length a U.length i) _ (by omega) (fun h=>?_) fun b hb _ R2 hR2=>?_
     ·refine Ev.succ ?_
      simp only [impl_OrderOk.l3]
      repeat(with_reducible first|refine Ev.ip ?_|refine Ev.iq ?_)
      exact hR (allN_iff.2 h)
     ·refine Ev.succ ?_
      simp only [impl_OrderOk.l3]
      repeat(with_reducible first|refine Ev.ip ?_|refine Ev.iq ?_)
      refine Ev.all (n:=U.length) (g:=fun k i=>impl_OrderOk.l4 k U U.length a b U.length a U.length b U.length i) _ (by omega) (fun h=>?_) fun c hc _ R3 hR3=>?_
      ·refine Ev.succ ?_
       simp only [impl_OrderOk.l4]
       repeat(with_reducible first|refine Ev.ip ?_|refine Ev.iq ?_)
       exact hR2 (allN_iff.2 h)
      ·refine Ev.succ ?_
       have ra:((U.getD a []).length:Int)=U.length:=by have:=hr a ha;unfold rowOk at this;simp only [Bool.and_eq_true,beq_iff_eq] at this;omega
       have rb:((U.getD b []).length:Int)=U.length:=by have:=hr b hb;unfold rowOk at this;simp only [Bool.and_eq_true,beq_iff_eq] at this;omega
       simp only [impl_OrderOk.l4,rdL_nat,rd_nat,rd_row,ra,rb]
       repeat(with_reducible first|refine Ev.ip ?_|refine Ev.iq ?_)
       by_cases e1:at2 U a b=1
       ·have f1:leB U a b=true:=by simp [leB,e1]
        by_cases e2:at2 U b c=1
        ·have f2:leB U b c=true:=by simp [leB,e2]
         by_cases e3:at2 U a c=1
         ·have f3:leB U a c=true:=by simp [leB,e3]
          repeat(with_reducible first|refine Ev.ip ?_|refine Ev.iq ?_)
          refine Ev.eq (hR3 (by simp [f3])) (by simp [f3])
         ·have f3:leB U a c=false:=by simp [leB,e3]
          repeat(with_reducible first|refine Ev.ip ?_|refine Ev.iq ?_)
          refine Ev.eq (Ev.now _) (by simp [f1,f2,f3])
        ·have f2:leB U b c=false:=by simp [leB,e2]
         repeat(with_reducible first|refine Ev.ip ?_|refine Ev.iq ?_)
         refine Ev.eq (hR3 (by simp [f2])) (by simp [f2])
       ·have f1:leB U a b=false:=by simp [leB,e1]
        repeat(with_reducible first|refine Ev.ip ?_|refine Ev.iq ?_)
        refine Ev.eq (hR3 (by simp [f1])) (by simp [f1])
   ·refine Ev.succ ?_
    simp only [impl_OrderOk.l0,rdL_nat,rd_nat,rd_row]
    repeat(with_reducible first|refine Ev.ip ?_|refine Ev.iq ?_)
    by_cases e1:(U.getD i []).length=U.length
    ·repeat(with_reducible first|refine Ev.ip ?_|refine Ev.iq ?_)
     by_cases e2:at2 U i i=1
     ·have f2:leB U i i=true:=by simp [leB,e2]
      rw [show (at2 U i i !=1)=false by simp [e2]]
      refine Ev.succ ?_
      simp only [impl_OrderOk.j2,rdL_nat,rd_nat,rd_row]
      repeat(with_reducible first|refine Ev.ip ?_|refine Ev.iq ?_)
      rw [e1]
      refine Ev.eq (Ev.all (n:=U.length) (g:=fun k j=>impl_OrderOk.l1 k U U.length i U U.length i (U.getD i []) U.length j) (fun j=>(at2 U i j==0||at2 U i j==1) && ((U.getD j []).length==U.length && !(leB U i j && (!(i==j) && leB U j i)))) (go:=R) (stop:=false) (by omega) (fun h=>?_) fun j hj _ R2 hR2=>?_) (by unfold rowOk;simp [-List.getD_eq_getElem?_getD,e1,f2])
      ·refine Ev.succ ?_
       simp only [impl_OrderOk.l1]
       repeat(with_reducible first|refine Ev.ip ?_|refine Ev.iq ?_)
       exact hR (by unfold rowOk;simp only [e1,f2,BEq.rfl,Bool.true_and];exact allN_iff.2 h)
      ·refine Ev.succ ?_
       simp only [impl_OrderOk.l1,rd_nat,rd_row]
       repeat(with_reducible first|refine Ev.ip ?_|refine Ev.iq ?_)
       have j4: ∀R3:Bool,(((U.getD j []).length=U.length→(leB U i j=true→i≠j→leB U j i=false)→Ev (fun k=>impl_OrderOk.l1 k U U.length i U U.length i (U.getD i []) U.length (wrap64 ((j:Int)+1))) R3))→
        Ev (fun k=>impl_OrderOk.j4 k U U.length i j (at2 U i j) U U.length i (U.getD i []) U.length j false) (if((U.getD j []).length==U.length && !(leB U i j && (!(i==j) && leB U j i)))=true then R3 else false):=by
        intro R3 hR3
        refine Ev.succ ?_
        simp only [impl_OrderOk.j4,rdL_nat,rd_nat,rd_row]
        repeat(with_reducible first|refine Ev.ip ?_|refine Ev.iq ?_)
        by_cases l1:(U.getD j []).length=U.length
        ·repeat(with_reducible first|refine Ev.ip ?_|refine Ev.iq ?_)
         rw [l1]
         by_cases x1:at2 U i j=1
         ·have y1:leB U i j=true:=by simp [leB,x1]
          repeat(with_reducible first|refine Ev.ip ?_|refine Ev.iq ?_)
          by_cases x2:i=j
          ·repeat(with_reducible first|refine Ev.ip ?_|refine Ev.iq ?_)
           exact Ev.eq (hR3 l1 (fun _ h=>absurd x2 h)) (by simp [x2])
          ·repeat(with_reducible first|refine Ev.ip ?_|refine Ev.iq ?_)
           by_cases x3:at2 U j i=1
           ·have y3:leB U j i=true:=by simp [leB,x3]
            repeat(with_reducible first|refine Ev.ip ?_|refine Ev.iq ?_)
            exact Ev.eq (Ev.now _) (by simp [x2,y1,y3])
           ·have y3:leB U j i=false:=by simp [leB,x3]
            repeat(with_reducible first|refine Ev.ip ?_|refine Ev.iq ?_)
            exact Ev.eq (hR3 l1 (fun _ _=>y3)) (by simp [y3])
         ·have y1:leB U i j=false:=by simp [leB,x1]
          repeat(with_reducible first|refine Ev.ip ?_|refine Ev.iq ?_)
          exact Ev.eq (hR3 l1 (fun h=>by rw [y1] at h;exact absurd h (by simp))) (by simp [y1])
        ·repeat(with_reducible first|refine Ev.ip ?_|refine Ev.iq ?_)
         exact Ev.eq (Ev.now _) (by simp [-List.getD_eq_getElem?_getD,l1])
       have hgo:at2 U i j=0∨at2 U i j=1→Ev (fun k=>impl_OrderOk.j4 k U U.length i j (at2 U i j) U U.length i (U.getD i []) U.length j false) (if((at2 U i j==0||at2 U i j==1) && ((U.getD j []).length==U.length && !(leB U i j && (!(i==j) && leB U j i))))=true then R2 else false):=by
        intro hb
        have hb1:(at2 U i j==0||at2 U i j==1)=true:=by rcases hb with h|h <;> simp [h]
        rw [hb1,Bool.true_and]
        refine j4 R2 fun l1 h=>hR2 ?_
        rw [hb1,Bool.true_and]
        simp only [l1,BEq.rfl,Bool.true_and,Bool.not_eq_true']
        cases y1:leB U i j
        ·rfl
        ·by_cases x2:i=j
         ·simp [x2]
         ·simp [h y1 x2]
       by_cases x0:at2 U i j=0
       ·repeat(with_reducible first|refine Ev.ip ?_|refine Ev.iq ?_)
        exact hgo (.inl x0)
       ·repeat(with_reducible first|refine Ev.ip ?_|refine Ev.iq ?_)
        by_cases x1:at2 U i j=1
        ·rw [show (at2 U i j !=1)=false by simp [x1]]
         exact hgo (.inr x1)
        ·rw [show (at2 U i j !=1)=true by simp [x1]]
         refine Ev.succ ?_
         simp only [impl_OrderOk.j4]
         repeat(with_reducible first|refine Ev.ip ?_|refine Ev.iq ?_)
         exact Ev.eq (Ev.now _) (by simp [x0,x1])
     ·have f2:leB U i i=false:=by simp [leB,e2]
      rw [show (at2 U i i !=1)=true by simp [e2]]
      refine Ev.succ ?_
      simp only [impl_OrderOk.j2]
      repeat(with_reducible first|refine Ev.ip ?_|refine Ev.iq ?_)
      exact Ev.eq (Ev.now _) (by unfold rowOk;simp [f2])
    ·repeat(with_reducible first|refine Ev.ip ?_|refine Ev.iq ?_)
     refine Ev.succ ?_
     simp only [impl_OrderOk.j2]
     repeat(with_reducible first|refine Ev.ip ?_|refine Ev.iq ?_)
     exact Ev.eq (Ev.now _) (by unfold rowOk;simp [-List.getD_eq_getElem?_getD,e1])
  ·simp only [h1,h2,decide_true,decide_false,Bool.true_and,Bool.false_and]
   unfold impl_OrderOk.f
   repeat(with_reducible first|refine Ev.ip ?_|refine Ev.iq ?_)
   rw [show decide ((U.length:Int)>12)=true from decide_eq_true (by omega)]
   refine Ev.succ ?_
   simp only [impl_OrderOk.j0]
   repeat(with_reducible first|refine Ev.ip ?_|refine Ev.iq ?_)
   exact Ev.now _
 ·simp only [h1,decide_false,Bool.false_and]
  unfold impl_OrderOk.f
  repeat(with_reducible first|refine Ev.ip ?_|refine Ev.iq ?_)
  refine Ev.succ ?_
  simp only [impl_OrderOk.j0]
  repeat(with_reducible first|refine Ev.ip ?_|refine Ev.iq ?_)
  exact Ev.now _
theorem turnL_len (U : List (List Int)) : (turnL U).length = U.length := by simp [turnL]
theorem turnL_at (U : List (List Int)) {a b : Nat} (ha : a < U.length) (hb : b < U.length) : at2 (turnL U) a b = at2 U b a := by simp [at2, turnL, ha, hb]
theorem turnL_le (U : List (List Int)) {a b : Nat} (ha : a < U.length) (hb : b < U.length) : leB (turnL U) a b = leB U b a := by unfold leB; rw [turnL_at U ha hb]
theorem _root_.Oml.Order.turn {U : List (List Int)} (O : Order U) : Order (turnL U) where
 pos:=by rw [turnL_len];exact O.pos
 small:=by rw [turnL_len];exact O.small
 row a ha:=by rw [turnL_len] at*;simp [turnL,ha]
 bit a b ha hb:=by rw [turnL_len] at*;rw [turnL_at U ha hb];exact O.bit b a hb ha
 refl a ha:=by rw [turnL_len] at*;rw [turnL_le U ha ha];exact O.refl a ha
 anti a b ha hb h k:=by rw [turnL_len] at*;rw [turnL_le U ha hb] at h;rw [turnL_le U hb ha] at k;exact O.anti a b ha hb k h
 trans a b c ha hb hc h k:=by rw [turnL_len] at*;rw [turnL_le U ha hb] at h;rw [turnL_le U hb hc] at k;rw [turnL_le U ha hc];exact O.trans c b a hc hb ha k h
theorem allN_congr {n : Nat} {p q : Nat → Bool} (h : ∀ i, i < n → p i = q i) : allN n p = allN n q := by
 rw [Bool.eq_iff_iff,allN_iff,allN_iff]
 exact⟨fun k i hi=>h i hi ▸ k i hi,fun k i hi=>(h i hi).symm ▸ k i hi⟩
theorem findN_congr {n : Nat} {p q : Nat → Bool} (h : ∀ i, i < n → p i = q i) : findN n p = findN n q := by
 cases e:findN n p with
 |some i=>exact(findN_of (findN_some e).1 (by rw [← h i (findN_some e).1];exact(findN_some e).2) fun j hj=>by rw [← h j (by have:=(findN_some e).1;omega)];exact findN_first e j hj).symm
 |none=>exact(findN_none.2 fun i hi=>by rw [← h i hi];exact findN_none.1 e i hi).symm
theorem meet_turn (U : List (List Int)) {a b : Nat} (ha : a < U.length) (hb : b < U.length) : mI (turnL U) a b = jI U a b := by
 unfold mI jI meetO joinO
 rw [turnL_len]
 congr 1
 refine findN_congr fun c hc=>?_
 unfold meetP joinP
 rw [turnL_le U hc ha,turnL_le U hc hb,turnL_len]
 congr 2
 refine allN_congr fun d hd=>?_
 rw [turnL_le U hd ha,turnL_le U hd hb,turnL_le U hd hc]
theorem impl_meet.ev_turn {U : List (List Int)} (O : Order U) {a b : Nat} (ha : a < U.length) (hb : b < U.length) : Ev (fun k => impl_meet.f k (turnL U) a b) (jI U a b) := by
 rw [← meet_turn U ha hb]
 exact impl_meet.ev O.turn (by rw [turnL_len];exact ha) (by rw [turnL_len];exact hb)
theorem getD_set {α : Type} (l : List α) (i j : Nat) (x d : α) (hi : i < l.length) : (l.set i x).getD j d = if j = i then x else l.getD j d := by
 by_cases e:j=i
 ·subst e;simp [hi]
 ·simp [List.getElem?_set,e,show¬(i=j) by omega]
theorem impl_turned.ev {U : List (List Int)} (O : Order U) : Ev (fun k => impl_turned.f k U) (turnL U) := by
 have hs:=O.small
 unfold impl_turned.f
 repeat(with_reducible first|refine Ev.ip ?_|refine Ev.iq ?_)
 rw [Int.toNat_natCast]
 repeat(with_reducible first|refine Ev.ip ?_|refine Ev.iq ?_)
 refine Ev.loop (g:=fun k s i=>impl_turned.l0 k U s U.length i) U.length (fun i s=>s.length=U.length∧ ∀a,a<i→s.getD a []=(List.range U.length).map fun b=>at2 U b a) (by omega) (fun s h=>?_) (fun i s hi h=>?_) _ ⟨by simp,fun a h=>absurd h (Nat.not_lt_zero _)⟩
 ·refine Ev.succ ?_
  simp only [impl_turned.l0]
  repeat(with_reducible first|refine Ev.ip ?_|refine Ev.iq ?_)
  refine Ev.eq (Ev.now s) (List.ext_getElem (by rw [h.1,turnL_len]) fun a h1 h2=>?_)
  have:=h.2 a (by omega)
  simpa [turnL,h1] using this
 ·obtain⟨h1,h2⟩:=h
  refine⟨s.set i ((List.range U.length).map fun b=>at2 U b i),⟨by simp [h1],fun a ha=>?_⟩,fun K=>Ev.succ ?_⟩
  ·rw [getD_set _ _ _ _ _ (by omega)]
   by_cases e:a=i
   ·rw [if_pos e,e]
   ·rw [if_neg e];exact h2 a (by omega)
  ·simp only [impl_turned.l0,Int.toNat_natCast]
   repeat(with_reducible first|refine Ev.ip ?_|refine Ev.iq ?_)
   refine Ev.loop (g:=fun k s j=>impl_turned.l1 k U s i U.length i U.length j) U.length (fun j t=>t.length=U.length∧(t.getD i []).length=U.length∧t.set i []=s.set i []∧ ∀b,b<j→at1 (t.getD i []) b=at2 U b i) (by omega) (fun t h=>?_) (fun j t hj h=>?_) _ ⟨by simp [h1],by rw [getD_set _ _ _ _ _ (by omega)];simp,by simp,fun b h=>absurd h (Nat.not_lt_zero _)⟩
   ·refine Ev.succ ?_
    simp only [impl_turned.l1]
    repeat(with_reducible first|refine Ev.ip ?_|refine Ev.iq ?_)
    have e:t=s.set i ((List.range U.length).map fun b=>at2 U b i):=by
     obtain⟨t1,t2,t3,t4⟩:=h
     have er:t.getD i []=(List.range U.length).map fun b=>at2 U b i:=by
      refine List.ext_getElem (by rw [t2];simp) fun b k1 k2=>?_
      have:=t4 b (by omega)
      simp only [at1] at this
      rw [List.getD_eq_getElem?_getD,List.getElem?_eq_getElem k1] at this
      simpa using this
     refine List.ext_getElem (by simp [t1,h1]) fun a k1 k2=>?_
     by_cases ea:a=i
     ·subst ea
      have:t.getD a []=t[a]:=by simp [k1]
      rw [← this,er];simp
     ·have:=congrArg (fun l=>l.getD a []) t3
      rw [getD_set _ _ _ _ _ (by omega),getD_set _ _ _ _ _ (by omega),if_neg ea,if_neg ea] at this
      have k3:a<s.length:=by omega
      simpa [k1,k3,List.getElem_set,show¬(i=a) by omega] using this
    rw [e]
    exact K
   ·obtain⟨t1,t2,t3,t4⟩:=h
    have hrow:=O.row j hj
    refine⟨t.set i ((t.getD i []).set j (at2 U j i)),⟨by simp [t1],?_,?_,fun b hb=>?_⟩,fun K=>Ev.succ ?_⟩
    ·rw [getD_set _ _ _ _ _ (by omega),if_pos rfl];simpa using t2
    ·rw [← t3];simp
    ·rw [getD_set _ _ _ _ _ (by omega),if_pos rfl]
     unfold at1
     rw [getD_set _ _ _ _ _ (by omega)]
     by_cases eb:b=j
     ·rw [if_pos eb,eb]
     ·rw [if_neg eb];exact t4 b (by omega)
    ·simp only [impl_turned.l1,rdL_nat,rd_nat,rd_row,hrow,t1,t2,Int.toNat_natCast]
     repeat(with_reducible first|refine Ev.ip ?_|refine Ev.iq ?_)
     exact K
theorem optI_neg (o : Option Nat) : (optI o < 0) ↔ o.isSome = false := by cases o <;> simp [optI] <;> omega
theorem impl_LatticeOk.ev (U : List (List Int)) : Ev (fun k => impl_LatticeOk.f k U) (latticeB U) := by
 unfold impl_LatticeOk.f latticeB
 refine Ev.bind (impl_OrderOk.ev U) ?_
 cases ho:orderB U with
 |false=>
  repeat(with_reducible first|refine Ev.ip ?_|refine Ev.iq ?_)
  exact Ev.now _
 |true=>
  have O:=orderB_iff.1 ho
  have hs:=O.small
  repeat(with_reducible first|refine Ev.ip ?_|refine Ev.iq ?_)
  refine Ev.bind (impl_turned.ev O) ?_
  refine Ev.eq (Ev.all (n:=U.length) (g:=fun k i=>impl_LatticeOk.l0 k U (turnL U) U.length i) (fun a=>allN U.length fun b=>(meetO U a b).isSome && (joinO U a b).isSome) (go:=true) (stop:=false) (by omega) (fun _=>?_) fun a ha _ R hR=>?_) (by rw [Bool.true_and];cases allN U.length _ <;> rfl)
  ·refine Ev.succ ?_
   simp only [impl_LatticeOk.l0]
   repeat(with_reducible first|refine Ev.ip ?_|refine Ev.iq ?_)
   exact Ev.now _
  ·refine Ev.succ ?_
   simp only [impl_LatticeOk.l0]
   repeat(with_reducible first|refine Ev.ip ?_|refine Ev.iq ?_)
   refine Ev.all (n:=U.length) (g:=fun k i=>impl_LatticeOk.l1 k U (turnL U) a U.length a U.length i) _ (by omega) (fun h=>?_) fun b hb _ R2 hR2=>?_
   ·refine Ev.succ ?_
    simp only [impl_LatticeOk.l1]
    repeat(with_reducible first|refine Ev.ip ?_|refine Ev.iq ?_)
    exact hR (allN_iff.2 h)
   ·refine Ev.succ ?_
    simp only [impl_LatticeOk.l1]
    repeat(with_reducible first|refine Ev.ip ?_|refine Ev.iq ?_)
    refine Ev.bind (impl_meet.ev O ha hb) ?_
    unfold mI
    cases em:meetO U a b with
    |none=>
     refine Ev.ite_pos (by simp [optI]) ?_
     exact Ev.eq (Ev.now _) (by simp)
    |some m=>
     refine Ev.ite_neg (by have:=optI_neg (some 0);simp [optI]) ?_
     refine Ev.bind (impl_meet.ev_turn O ha hb) ?_
     unfold jI
     cases ej:joinO U a b with
     |none=>
      refine Ev.ite_pos (by simp [optI]) ?_
      exact Ev.eq (Ev.now _) (by simp)
     |some j=>
      refine Ev.ite_neg (by have:=optI_neg (some 0);simp [optI]) ?_
      exact Ev.eq (hR2 (by simp [em,ej])) (by simp)
theorem impl_LeastOf.ev (U : List (List Int)) : Ev (fun k => impl_LeastOf.f k U) (if orderB U = true then (optI (leastO U), (leastO U).isSome) else (-1, false)) := by
 unfold impl_LeastOf.f
 refine Ev.bind (impl_OrderOk.ev U) ?_
 cases ho:orderB U with
 |false=>
  repeat(with_reducible first|refine Ev.ip ?_|refine Ev.iq ?_)
  exact Ev.now _
 |true=>
  have O:=orderB_iff.1 ho
  have hs:=O.small
  repeat(with_reducible first|refine Ev.ip ?_|refine Ev.iq ?_)
  refine Ev.eq (Ev.find (n:=U.length) (g:=fun k i=>impl_LeastOf.l0 k U U.length i) (fun a=>allN U.length fun b=>leB U a b) (none':=(-1,false)) (some':=fun i=>((i:Int),true)) (by omega) (fun _=>?_) fun a ha _ R hR=>?_) (by unfold leastO;cases findN U.length _ <;> rfl)
  ·refine Ev.succ ?_
   simp only [impl_LeastOf.l0]
   repeat(with_reducible first|refine Ev.ip ?_|refine Ev.iq ?_)
   exact Ev.now _
  ·refine Ev.succ ?_
   simp only [impl_LeastOf.l0,rdL_nat,O.row a ha]
   repeat(with_reducible first|refine Ev.ip ?_|refine Ev.iq ?_)
   have key: ∀d i,i+d=U.length→ ∀fl:Bool,(fl && allFrom U.length (fun b=>leB U a b) i)=allN U.length (fun b=>leB U a b)→Ev (fun k=>impl_LeastOf.l1 k a fl U U.length a (U.getD a []) U.length i) (if allN U.length (fun b=>leB U a b)=true then((a:Int),true) else R):=by
    intro d
    induction d with
    |zero=>
     intro i hi fl hfl
     refine Ev.succ ?_
     simp only [impl_LeastOf.l1]
     rw [allFrom_ge (by omega),Bool.and_true] at hfl
     rw [hfl]
     repeat(with_reducible first|refine Ev.ip ?_|refine Ev.iq ?_)
     cases ha':allN U.length (fun b=>leB U a b) with
     |true=>
      repeat(with_reducible first|refine Ev.ip ?_|refine Ev.iq ?_)
      exact Ev.now _
     |false=>
      repeat(with_reducible first|refine Ev.ip ?_|refine Ev.iq ?_)
      exact hR ha'
    |succ d ih=>
     intro i hi fl hfl
     rw [allFrom_lt (by omega)] at hfl
     refine Ev.succ ?_
     have rl:=O.row a ha
     simp only [impl_LeastOf.l1,rd_nat,rd_row,wrap_nat (show i<4611686018427387904 by omega)]
     repeat(with_reducible first|refine Ev.ip ?_|refine Ev.iq ?_)
     cases fl with
     |true=>
      repeat(with_reducible first|refine Ev.ip ?_|refine Ev.iq ?_)
      exact ih (i+1) (by omega) _ hfl
     |false=>
      repeat(with_reducible first|refine Ev.ip ?_|refine Ev.iq ?_)
      exact ih (i+1) (by omega) _ (by rw [← hfl];simp)
   exact key U.length 0 (by omega) true (by rw [allFrom_zero,Bool.true_and])
theorem told_facts (U : List (List Int)) : ∃ k, ToldFacts k U := by
 cases hl:latticeB U with
 |false=>
  obtain⟨k,hk⟩:=(impl_LatticeOk.ev U).rounds
  exact⟨k,by rw [hk,hl],fun h=>by rw [hl] at h;exact absurd h (by simp),fun h=>by rw [hl] at h;exact absurd h (by simp),fun h=>by rw [hl] at h;exact absurd h (by simp),fun h=>by rw [hl] at h;exact absurd h (by simp)⟩
 |true=>
  have O:=latticeB_order hl
  obtain⟨k1,h1⟩:=impl_LatticeOk.ev U
  obtain⟨k2,h2⟩:=impl_LeastOf.ev U
  have hm: ∃K,∀a b:Nat,a<U.length→b<U.length→ ∀k,K≤k→impl_meet.f k U a b=some (mI U a b):=Ev.all2 U.length fun a b ha hb=>impl_meet.ev O ha hb
  have hj: ∃K,∀a b:Nat,a<U.length→b<U.length→ ∀k,K≤k→impl_meet.f k (turnL U) a b=some (jI U a b):=Ev.all2 U.length fun a b ha hb=>impl_meet.ev_turn O ha hb
  obtain⟨k3,h3⟩:=hm
  obtain⟨k4,h4⟩:=hj
  obtain⟨k5,h5⟩:=impl_turned.ev O
  refine⟨k1+k2+k3+k4+k5,?_,fun _=>h5 _ (by omega),fun _ a b ha hb=>h3 a b ha hb _ (by omega),fun _ a b ha hb=>h4 a b ha hb _ (by omega),fun _=>?_⟩
  ·exact h1 _ (by omega)
  ·have:=h2 (k1+k2+k3+k4+k5) (by omega)
   rw [if_pos (orderB_iff.2 O)] at this
   exact this
def impl_LogicOk.f (l0_0 : List (List Int)) (l0_1 : List Int) : Option (Bool) := some (logicB l0_0 l0_1)
set_option maxHeartbeats 1000000 in
theorem impl_LogicOk.calls (A0_0 : Option Addr) (c0_0 : Nat) (l0_0 : List (List Int)) (A0_1 : Option Addr) (c0_1 : Nat) (l0_1 : List Int) (r : Bool) (w : World) (hr0_0 : Kd.C (Kd.slice 3 (Kd.int .i64)) w A0_0 l0_0.length l0_0) (hc0_0 : l0_0.length ≤ c0_0) (hr0_1 : Kd.C (Kd.int .i64) w A0_1 l0_1.length l0_1) (hc0_1 : l0_1.length ≤ c0_1) (h : impl_LogicOk.f l0_0 l0_1 = some r) :
 Calls Try.prog 8 #[.agg #[.slice A0_0 l0_0.length c0_0,.slice A0_1 l0_1.length c0_1]] w fun e w'=>e= .returned (.bool r)∧Below w.heap.size w w':=by
 obtain⟨k,hF⟩:=told_facts l0_0
 have hu30:=Try.underlying26
 have hu70:=Try.underlying43
 have HF:=zqm hF
 have HR0:=zqm hr0_0
 have HC0:=zqm hc0_0
 have HR1:=zqm hr0_1
 have HC1:=zqm hc0_1
 simp only [impl_LogicOk.f,Option.some.injEq] at h
 clear hr0_0 hc0_0 hr0_1 hc0_1 hF
 cases hL:logicB l0_0 l0_1 with
 |false=>
  rw [hL] at h
  have hr_:false=r:=h
  subst hr_
  have HLB:=zqm hL
  clear h hL
  go_enter Try.func8,Try.ntmps8
  go_wp2_with (first|((with_reducible refine gate_dst (N:=1) rfl ?_);refine box_event ?hg (N:=1) ?hd (cs:= #[.slice A0_0 l0_0.length c0_0,.slice A0_1 l0_1.length c0_1]) (t:=26) ?hr ?_;(case hd=>rfl);(case hg=>rfl);(case hr=>first|(go_simp;done)|(go_simp;rfl));intro gb hg_ w1 hbox hb;have HB:=zqm hb;have hx0:w1.cell? ⟨gb,0,none⟩=some (.slice A0_0 l0_0.length c0_0):=(blk_cell hbox 0).trans rfl;have hx1:w1.cell? ⟨gb,1,none⟩=some (.slice A0_1 l0_1.length c0_1):=(blk_cell hbox 1).trans rfl;have HX:=zqm hbox;clear hbox hb hg_)|(go_at_call 18;(with_reducible refine(told_n k _ _ l0_0 _ _ l0_1 _ ?s1 ?s2 ?s3 ?s4 HF.out HLB.out).mono ?_);(case s1=>exact Kd.C_below HR0.out HB.out);(case s2=>exact HC0.out);(case s3=>exact Kd.C_below HR1.out HB.out);(case s4=>exact HC1.out);rintro e w2 ⟨rfl,hb⟩;have HB2:=zqm (below_step HB.out hb);clear hb hx0 hx1 HX HB))
  go_ret
  exact⟨rfl,HB2.out⟩
 |true=>
  rw [hL] at h
  have hr_:true=r:=h
  subst hr_
  have HLB:=zqm hL
  have HLg:=zqm (logicB_iff.1 hL)
  clear h hL
  go_enter Try.func8,Try.ntmps8
  go_wp2_with (first|((with_reducible refine gate_dst (N:=1) rfl ?_);refine box_event ?hg (N:=1) ?hd (cs:= #[.slice A0_0 l0_0.length c0_0,.slice A0_1 l0_1.length c0_1]) (t:=26) ?hr ?_;(case hd=>rfl);(case hg=>rfl);(case hr=>first|(go_simp;done)|(go_simp;rfl));intro gb hg_ w1 hbox hb;have HB:=zqm hb;have hx0:w1.cell? ⟨gb,0,none⟩=some (.slice A0_0 l0_0.length c0_0):=(blk_cell hbox 0).trans rfl;have hx1:w1.cell? ⟨gb,1,none⟩=some (.slice A0_1 l0_1.length c0_1):=(blk_cell hbox 1).trans rfl;have HX:=zqm hbox;clear hbox hb hg_)|(go_at_call 18;(with_reducible refine(told_y k _ _ l0_0 _ _ l0_1 _ ?s1 ?s2 ?s3 ?s4 HF.out HLB.out).mono ?_);(case s1=>exact Kd.C_below HR0.out HB.out);(case s2=>exact HC0.out);(case s3=>exact Kd.C_below HR1.out HB.out);(case s4=>exact HC1.out);rintro e w2 ⟨g,v,rfl,hv,hge,hb⟩;have HB2:=zqm (below_step HB.out hb);have HV:=zqm hv;clear hv hge hb hx0 hx1 HX HB))
  go_ret
  exact⟨rfl,HB2.out⟩
theorem ofInt_nat (a : Nat) (ha : a < 18446744073709551616) : (BitVec.ofInt 64 (a : Int)).toNat = a := by
 rw [BitVec.ofInt_natCast, BitVec.toNat_ofNat]; exact Nat.mod_eq_of_lt (by omega)
theorem band_nat (a b : Nat) (ha : a < 4611686018427387904) (hb : b < 4611686018427387904) : Go.bits .and .i64 (a : Int) (b : Int) = ((a &&& b : Nat) : Int) := by
 have hx:a &&& b<2 ^ 62:=Nat.and_lt_two_pow _ (by omega)
 show IntKind.i64.wrap ((BitVec.ofInt 64 (a:Int) &&& BitVec.ofInt 64 (b:Int)).toNat:Int)=_
 rw [BitVec.toNat_and,ofInt_nat a (by omega),ofInt_nat b (by omega),i64_w]
 unfold wrap64;omega
theorem bor_nat (a b : Nat) (ha : a < 4611686018427387904) (hb : b < 4611686018427387904) : Go.bits .or .i64 (a : Int) (b : Int) = ((a ||| b : Nat) : Int) := by
 have hx:a|||b<2 ^ 62:=Nat.or_lt_two_pow (by omega) (by omega)
 show IntKind.i64.wrap ((BitVec.ofInt 64 (a:Int)|||BitVec.ofInt 64 (b:Int)).toNat:Int)=_
 rw [BitVec.toNat_or,ofInt_nat a (by omega),ofInt_nat b (by omega),i64_w]
 unfold wrap64;omega
theorem two_pow_le {i : Nat} (h : i ≤ 40) : (2 : Nat) ^ i ≤ 1099511627776 := Nat.pow_le_pow_right (by omega) h
theorem cast_pow (i : Nat) : (2 : Int) ^ i = ((2 ^ i : Nat) : Int) := by rw [Int.natCast_pow]; rfl
theorem shl_nat {i : Nat} (h : i ≤ 40) : shl .i64 1 (i : Int) = ((2 ^ i : Nat) : Int) := by
 unfold shl
 have h2:=two_pow_le h
 rw [Int.toNat_natCast,Nat.min_eq_left (by show i≤64;omega),Int.one_mul,cast_pow,i64_w]
 generalize 2 ^ i=x at h2 ⊢
 unfold wrap64;omega
theorem wshl_nat {i : Nat} (h : i ≤ 40) : IntKind.i64.wrap (2 ^ i) = ((2 ^ i : Nat) : Int) := by
 have:=shl_nat h
 unfold shl at this
 rwa [Int.toNat_natCast,Nat.min_eq_left (by show i≤64;omega),Int.one_mul] at this
theorem shr_nat (s : Nat) {i : Nat} (h : i ≤ 64) : shr .i64 (s : Int) (i : Int) = ((s / 2 ^ i : Nat) : Int) := by
 unfold shr
 rw [Int.toNat_natCast,Nat.min_eq_left (by show i≤64;omega),cast_pow]
 rfl
theorem testBit_div (s i : Nat) : s.testBit i = decide (s / 2 ^ i % 2 = 1) := Nat.testBit_eq_decide_div_mod_eq
theorem smod_nat (s : Nat) {i : Nat} (h : i ≤ 64) : Int.tmod (shr .i64 (s : Int) (i : Int)) 2 = if s.testBit i = true then 1 else 0 := by
 rw [shr_nat s h,testBit_div]
 have h1:Int.tmod ((s / 2 ^ i:Nat):Int) ((2:Nat):Int)=((s / 2 ^ i % 2:Nat):Int):=by first|exact(Int.ofNat_tmod _ 2).symm|rfl
 rw [show ((2:Nat):Int)=2 from rfl] at h1
 rw [h1]
 by_cases e:s / 2 ^ i % 2=1
 ·rw [e];simp
 ·have:s / 2 ^ i % 2=0:=by omega
  rw [this];simp
def setB (n : Nat) (p : Nat → Bool) : Nat :=
 match n with
 | 0 => 0
 | n + 1 => setB n p ||| (if p n = true then 2 ^ n else 0)
theorem setB_bit (n : Nat) (p : Nat → Bool) (i : Nat) : (setB n p).testBit i = (decide (i < n) && p i) := by
 induction n with
 |zero=>simp [setB]
 |succ n ih=>
  simp only [setB,Nat.testBit_or,ih]
  by_cases e:i=n
  ·subst e
   cases h:p i <;> simp [h,Nat.testBit_two_pow]
  ·have:(if p n=true then 2 ^ n else 0).testBit i=false:=by
    split
    ·rw [Nat.testBit_two_pow];simp;omega
    ·simp
   rw [this,Bool.or_false]
   congr 1
   rw [Bool.eq_iff_iff];simp;omega
theorem setB_lt (n : Nat) (p : Nat → Bool) : setB n p < 2 ^ n := by
 refine Nat.lt_pow_two_of_testBit _ fun i hi => ?_
 rw [setB_bit]; simp; omega
theorem setB_small {n : Nat} (h : n ≤ 40) (p : Nat → Bool) : setB n p < 1099511627776 := by have := setB_lt n p; have := two_pow_le h; omega
theorem setB_congr {n : Nat} {p q : Nat → Bool} (h : ∀ i, i < n → p i = q i) : setB n p = setB n q := by
 refine Nat.eq_of_testBit_eq fun i=>?_
 rw [setB_bit,setB_bit]
 by_cases hi:i<n
 ·rw [h i hi]
 ·simp [hi]
theorem setB_or (n : Nat) (p q : Nat → Bool) : setB n p ||| setB n q = setB n fun i => p i || q i := by
 refine Nat.eq_of_testBit_eq fun i=>?_
 rw [Nat.testBit_or,setB_bit,setB_bit,setB_bit]
 cases decide (i<n) <;> simp
theorem setB_and (n : Nat) (p q : Nat → Bool) : setB n p &&& setB n q = setB n fun i => p i && q i := by
 refine Nat.eq_of_testBit_eq fun i=>?_
 rw [Nat.testBit_and,setB_bit,setB_bit,setB_bit]
 cases decide (i<n) <;> simp
theorem setB_one {n k : Nat} (h : k < n) : 2 ^ k = setB n fun i => i == k := by
 refine Nat.eq_of_testBit_eq fun i => ?_
 rw [setB_bit, Nat.testBit_two_pow]
 rw [Bool.eq_iff_iff]; simp; omega
theorem setB_all (n : Nat) : 2 ^ n - 1 = setB n fun _ => true := by
 refine Nat.eq_of_testBit_eq fun i => ?_
 rw [setB_bit, Nat.testBit_two_pow_sub_one]; simp
theorem setB_none (n : Nat) : setB n (fun _ => false) = 0 := by
 refine Nat.eq_of_testBit_eq fun i => ?_
 rw [setB_bit]; simp
end Go.Proofs.Ytmbapglhkbpokaa.Print
end
section
namespace Go.Proofs.Ytmbapglhkbpokaa.Print
open Go.RowKit Go.Proofs.YtmbapglhkbpokaaW.PrintWords Go.Proofs.YtmbapglhkbpokaaW.PrintLast Go.Proofs.YtmbapglhkbpokaaW.PrintMore
section
attribute [local go_sem] max2_int min2_int max_two min_two max_three min_three max_four min_four
def impl_has.f (a0 : Int) (a1 : Int) : Option (Bool) := if 0 ≤ a1 then (some ((Go.bits .and .i64 (shr .i64 a0 a1) 1) == 1)) else (none)
set_option maxHeartbeats 8000000 in
set_option maxRecDepth 100000 in
theorem impl_has.calls (a0 : Int) (a1 : Int) (r : Bool) (w : World) (h : impl_has.f a0 a1 = some r) :
  Calls Try.prog 34 #[.int .i64 a0, .int .i64 a1] w fun e w' => e = .returned (.bool r) ∧ Drawn0 w w' := by
 have H : (if 0 ≤ a1 then (some ((Go.bits .and .i64 (shr .i64 a0 a1) 1) == 1)) else (none)) = some r := h
 clear h
 by_cases c3 : 0 ≤ a1
 ·rw [if_pos c3] at H
  have c3b0 := eq_true c3
  have c3b1 : decide (0 ≤ a1) = true := decide_eq_true c3
  clear c3
  obtain ⟨ji4, hji4⟩ : ∃ j_ : Int, (shr .i64 a0 a1) = j_ := ⟨_, rfl⟩
  replace H : (some ((Go.bits .and .i64 (ji4) 1) == 1)) = some r := by first | (rw [hji4] at H; exact H) | (simp only [hji4] at H ⊢; exact H)
  have hji4_ : (a0 / 2 ^ min a1.toNat 64) = ji4 := hji4
  have hji4z : a1 ≤ 64 → (a0 / 2 ^ a1.toNat) = ji4 := shr_small hji4
  obtain rfl := Option.some.inj H
  go_enter Try.func34, Try.ntmps34
  go_wp2
  go_ret
  exact ⟨by first | rfl | (simp; done) | (simp only [← hji4] <;> (first | rfl | simp)) | (simp [*]; done), by repeat (first | exact Drawn0.refl _ | apply Drawn0.step)⟩
 ·rw [if_neg c3] at H
  exact absurd H (by simp)
end
end Go.Proofs.Ytmbapglhkbpokaa.Print
end
section
namespace Go.Proofs.Ytmbapglhkbpokaa.Print
open Go.RowKit Go.Proofs.YtmbapglhkbpokaaW.PrintWords Go.Proofs.YtmbapglhkbpokaaW.PrintLast Go.Proofs.YtmbapglhkbpokaaW.PrintMore
open Oml
theorem has_nat (s : Nat) (hs : s < 4611686018427387904) {i : Nat} (h : i ≤ 64) : impl_has.f (s : Int) (i : Int) = some (s.testBit i) := by
 unfold impl_has.f
 rw [if_pos (by omega),shr_nat s h,show (1:Int)=((1:Nat):Int) from rfl,band_nat _ _ (Nat.lt_of_le_of_lt (Nat.div_le_self _ _) hs) (by omega),Nat.and_one_is_mod,testBit_div]
 have h2:s / 2 ^ i % 2=0∨s / 2 ^ i % 2=1:=by omega
 rcases h2 with h2|h2 <;> rw [h2] <;> rfl
theorem has_in (s : Nat) (hs : s < 4611686018427387904) {i : Int} (h0 : 0 ≤ i) (h : i ≤ 64) : impl_has.f (s : Int) i = some (s.testBit i.toNat) := by
 obtain⟨x,rfl⟩: ∃x:Nat,i=x:=⟨i.toNat,by omega⟩
 rw [Int.toNat_natCast]
 exact has_nat s hs (by omega)
def withB (U : List (List Int)) (N : List Int) (a b : Int) : Bool := orI U (andI U a b) (andI U a (notI N b)) == a
def splitB (U : List (List Int)) (a b c : Int) : Bool := andI U a (orI U b c) == orI U (andI U a b) (andI U a c)
def bothB (U : List (List Int)) (N : List Int) (a b : Int) : Bool := withB U N a b && withB U N b a
theorem alg_with0.reads (g : Nat) (U : List (List Int)) (N : List Int) (v : Adr) (a : Int) (b : Int) (w : World) (L : Logic U N) (hV : View w g U N v) (ia : In U a) (ib : In U b) :
 Calls Try.prog 58 #[.pointer (some ⟨g,0,none⟩),.int .i64 a,.int .i64 b] w fun e w'=>e= .returned (.bool ((orI U (andI U a b) (andI U a (notI N b)))==a))∧Drawn0 w w':=by
 have hu70:=Try.underlying43
 have HV:=zqm hV
 have HLg:=zqm L
 have Ia:=zqm ia
 have Ib:=zqm ib
 clear hV L ia ib
 have b0_:=eq_true Ia.out.1;have c0_:=eq_true Ia.out.2
 have b1_:=eq_true Ib.out.1;have c1_:=eq_true Ib.out.2
 have hf1_:=HV.out.f1
 have r3_:=HV.out.m a Ia.out
 have s4_:=HV.out.m2 a b Ia.out Ib.out
 have hf3_:=HV.out.f3
 have n6_:=HV.out.n b Ib.out
 have IN1_:=zqm (HLg.out.in_not Ib.out)
 have b7_:=eq_true IN1_.out.1;have c7_:=eq_true IN1_.out.2
 have s8_:=HV.out.m2 a (notI N b) Ia.out IN1_.out
 have IN2_:=zqm (HLg.out.in_and Ia.out Ib.out)
 have b9_:=eq_true IN2_.out.1;have c9_:=eq_true IN2_.out.2
 have IN3_:=zqm (HLg.out.in_and Ia.out IN1_.out)
 have b10_:=eq_true IN3_.out.1;have c10_:=eq_true IN3_.out.2
 have hf2_:=HV.out.f2
 have r12_:=HV.out.j (andI U a b) IN2_.out
 have s13_:=HV.out.j2 (andI U a b) (andI U a (notI N b)) IN2_.out IN3_.out
 go_enter Try.func58,Try.ntmps58
 go_wp2_with fail
 go_quiet (fail)
 go_wp2
 go_ret
 exact⟨rfl,⟨⟨_,rfl⟩⟩⟩
theorem alg_with.reads (g : Nat) (U : List (List Int)) (N : List Int) (v : Adr) (a b : Int) (w : World) (L : Logic U N) (hV : View w g U N v) (ia : In U a) (ib : In U b) :
 Calls Try.prog 58 #[.pointer (some ⟨g,0,none⟩),.int .i64 a,.int .i64 b] w fun e w'=>e= .returned (.bool (withB U N a b))∧Drawn0 w w':=alg_with0.reads g U N v a b w L hV ia ib
theorem alg_both.reads (g : Nat) (U : List (List Int)) (N : List Int) (v : Adr) (a b : Int) (w : World) (L : Logic U N) (hV : View w g U N v) (ia : In U a) (ib : In U b) :
 Calls Try.prog 52 #[.pointer (some ⟨g,0,none⟩),.int .i64 a,.int .i64 b] w fun e w'=>e= .returned (.bool (bothB U N a b))∧Drawn0 w w':=by
 have HV:=zqm hV
 have HLg:=zqm L
 have Ia:=zqm ia
 have Ib:=zqm ib
 clear hV L ia ib
 unfold bothB
 obtain⟨p,hp⟩: ∃p,withB U N a b=p:=⟨_,rfl⟩
 obtain⟨q,hq⟩: ∃q,withB U N b a=q:=⟨_,rfl⟩
 have HP:=zqm hp
 have HQ:=zqm hq
 rw [hp,hq]
 clear hp hq
 cases p with
 |false=>
  go_enter Try.func52,Try.ntmps52
  go_wp2_with (go_at_call 58;(with_reducible refine(alg_with.reads g U N v a b _ HLg.out ?s1 Ia.out Ib.out).mono ?_);(case s1=>repeat(first|exact HV.out|apply View.drewN));rintro e w' ⟨he,⟨⟨nd,rfl⟩⟩⟩;rw [HP.out] at he;subst he)
  go_ret
  exact⟨by first|rfl|simp,⟨⟨_,rfl⟩⟩⟩
 |true=>
  go_enter Try.func52,Try.ntmps52
  go_wp2_with (first|(go_at_call 58;(with_reducible refine(alg_with.reads g U N v a b _ HLg.out ?s1 Ia.out Ib.out).mono ?_);(case s1=>repeat(first|exact HV.out|apply View.drewN));rintro e w' ⟨he,⟨⟨nd,rfl⟩⟩⟩;rw [HP.out] at he;subst he)|(go_at_call 58;(with_reducible refine(alg_with.reads g U N v b a _ HLg.out ?s1 Ib.out Ia.out).mono ?_);(case s1=>repeat(first|exact HV.out|apply View.drewN));rintro e w' ⟨he,⟨⟨nd2,rfl⟩⟩⟩;rw [HQ.out] at he;subst he))
  go_ret
  exact⟨by first|rfl|simp,⟨⟨_,rfl⟩⟩⟩
theorem goesV_ {P : Program} {ops : Array Oper} {Q : Exit → Act → World → Prop} {rest : List Oper} {oi : Oper} {a : Act} {w : World} (N : Option Tmp) (hd : oi.dst = N) (hg : oi.guard = none) {f : FuncId} {fn : Func} {x : Operand} {xo : Array Operand} {ts : Array TypeId} {cs : Array Value}
 (hf : P.funcs[f]? = some fn) (hname : (fn.name == "runtime.NumGoroutine") = false) (hb : fn.body.isSome = true) (args : Array Value)
 (hop : oi.op = .call { callee := .value x, args := xo, argTypes := ts }) (hx : a.eval x = .func (.func f) #[] cs) (hargs : xo.map a.eval = args)
 (h : Calls P f (args ++ cs) w fun e w' => ∃ v, e = .returned v ∧ wpList P ops Q rest (a.put N v) w') : wpList P ops Q (oi :: rest) a w := by
 refine wpList_plain hg fun K hK => ?_
 have he := enters_ hf hname hb (args ++ cs) w
 have hrun : (execOp a.eval oi).run P w = .ok (.enter f (args ++ cs)) w := by
  unfold execOp
  simp [hop, resolve, Deferred.ofValue, invoke, hx, hargs, he]
 unfold Oper.wp
 rw [hrun, Oper.upon_enter]
 refine h.mono fun e w'' hh => ?_
 obtain ⟨v, rfl, hk⟩ := hh
 subst hd
 exact hK _ _ hk
set_option maxHeartbeats 1000000 in
set_option maxRecDepth 100000 in
theorem every_calls (g : Nat) (U : List (List Int)) (N : List Int) (v : Adr) (w : World) (hs : U.length ≤ 12) (fv : Nat) (fn : Func) (cs : Array Value) (hf : Try.prog.funcs[fv]? = some fn) (hname : (fn.name == "runtime.NumGoroutine") = false) (hb : fn.body.isSome = true)
 (p : Nat → Nat → Bool) (J : Nat → World → Prop) (hV : ∀ i w', J i w' → View w' g U N v) (hD : ∀ i w' n, J i w' → J i (w'.drewN n)) (h0 : J 0 w)
 (step : ∀ a b : Nat, a < U.length → b < U.length → ∀ w', J (a * U.length + b) w' → Calls Try.prog fv (#[.int .i64 a, .int .i64 b] ++ cs) w' fun e w'' => e = .returned (.bool (p a b)) ∧ J (a * U.length + b + 1) w'') :
 Calls Try.prog 28 #[.pointer (some ⟨g, 0, none⟩), .func (.func fv) #[] cs] w fun e w' =>
  e = .returned (.bool (allN U.length fun a => allN U.length fun b => p a b)) ∧ ∃ i, J i w' ∧ ((allN U.length fun a => allN U.length fun b => p a b) = true → i = U.length * U.length) := by
 obtain ⟨r, hr⟩ : ∃ r, r = allN U.length fun a => allN U.length fun b => p a b := ⟨_, rfl⟩
 rw [← hr]
 have hu70 := Try.underlying43
 have HF := Aside0.mk hf
 have HNM := Aside0.mk hname
 have HBD := Aside0.mk hb
 have HV := Aside0.mk hV
 have HD := Aside0.mk hD
 have HJ0 := Aside0.mk h0
 have HST := Aside0.mk step
 have HR := Aside0.mk hr
 have hf0 := (hV 0 w h0).f0
 clear hf hname hb hV hD h0 step hr
 go_enter Try.func28, Try.ntmps28
 go_wp2_with fail
 go_loopg [12] (U.length + 1) (fun kq v12 W => ∃ i s : Nat, v12 = .int .i64 i ∧ Aside0 (i + kq = U.length + 1) ∧ Aside0 (i ≤ U.length) ∧ Aside0 (s = i * U.length) ∧ Aside0 (∀ a, a < i → ∀ b, b < U.length → p a b = true) ∧ Aside0 (J s W))
 case atStart => exact ⟨0, 0, rfl, ⟨by omega⟩, ⟨by omega⟩, ⟨by simp⟩, ⟨fun j hj => absurd hj (by omega)⟩, ⟨by first | exact HJ0.out | exact HD.out _ _ _ HJ0.out⟩⟩
 case round =>
  clear hf0
  obtain ⟨i, s, rfl, HK, HK2, HSI, HS, HJ⟩ := hrel
  have hf0 := (HV.out _ _ HJ.out).f0
  cases gk with
  | zero => exact absurd HK.out (by have := HK2.out; omega)
  | succ kn =>
  by_cases hlt : i < U.length
  ·have hlt' : decide (i < U.length) = true := decide_eq_true hlt
   have HLT := Aside0.mk hlt
   clear hlt
   go_wp2_with fail
   go_loopg [20] (U.length + 1) (fun kq v20 W => ∃ j : Nat, v20 = .int .i64 j ∧ Aside0 (j + kq = U.length + 1) ∧ Aside0 (j ≤ U.length) ∧ Aside0 (∀ b, b < j → p i b = true) ∧ Aside0 (J (s + j) W))
   case atStart => exact ⟨0, rfl, ⟨by omega⟩, ⟨by omega⟩, ⟨fun j hj => absurd hj (by omega)⟩, ⟨by first | exact HJ.out | exact HD.out _ _ _ HJ.out⟩⟩
   case round =>
    clear hf0
    obtain ⟨j, rfl, HKj, HKj2, HSj, HJj⟩ := hrel
    cases gk with
    | zero => exact absurd HKj.out (by have := HKj2.out; omega)
    | succ kj =>
    by_cases hlj : j < U.length
    ·have hlj' : decide (j < U.length) = true := decide_eq_true hlj
     have HLJ := Aside0.mk hlj
     clear hlj
     cases hp : p i j with
     | true =>
      have HP := Aside0.mk hp
      clear hp
      go_wp2_with (refine goesV_ (some 26) rfl rfl HF.out HNM.out HBD.out #[.int .i64 i, .int .i64 j] rfl rfl zq57 ?_; refine (HST.out i j HLT.out HLJ.out _ ?sJ).mono ?_; (case sJ => exact zq145); rintro e w1 ⟨he, hj⟩; rw [HP.out] at he; subst he; refine ⟨_, rfl, ?_⟩; have HJ1 := Aside0.mk hj; clear hj)
      go_roundg kj
      case measure => omega
      case rel => exact ⟨j + 1, by first | go_num | (rw [wrap_small (by omega) (by have := HLJ.out; omega)]; go_num), ⟨by have := HKj.out; omega⟩, ⟨by have := HLJ.out; omega⟩, ⟨fun b hb => by
       rcases Nat.lt_or_ge b j with h | h
       ·exact HSj.out b h
       ·obtain rfl : b = j := by omega
        exact HP.out⟩, ⟨by have h1 := HJ1.out; rw [← HSI.out, Nat.add_assoc] at h1; first | exact h1 | exact HD.out _ _ _ h1⟩⟩
     | false =>
      have HP := Aside0.mk hp
      clear hp
      have hrf : r = false := by
       rw [HR.out]
       exact allN_false.2 ⟨i, HLT.out, allN_false.2 ⟨j, HLJ.out, HP.out⟩⟩
      subst hrf
      go_wp2_with (refine goesV_ (some 26) rfl rfl HF.out HNM.out HBD.out #[.int .i64 i, .int .i64 j] rfl rfl zq57 ?_; refine (HST.out i j HLT.out HLJ.out _ ?sJ).mono ?_; (case sJ => exact zq145); rintro e w1 ⟨he, hj⟩; rw [HP.out] at he; subst he; refine ⟨_, rfl, ?_⟩; have HJ1 := Aside0.mk hj; clear hj)
      go_ret
      exact ⟨rfl, _, by first | exact HJ1.out | exact HD.out _ _ _ HJ1.out, fun h => by cases h⟩
    ·have hlj' : decide (j < U.length) = false := decide_eq_false hlj
     obtain rfl : j = U.length := by have := HKj2.out; omega
     clear hlj
     go_wp2_with fail
     go_roundg kn
     case measure => omega
     case rel => exact ⟨i + 1, s + U.length, by first | go_num | (rw [wrap_small (by omega) (by have := HLT.out; omega)]; go_num), ⟨by have := HK.out; omega⟩, ⟨by have := HLT.out; omega⟩, ⟨by rw [Nat.succ_mul, HSI.out]⟩, ⟨fun a ha => by
      rcases Nat.lt_or_ge a i with h | h
      ·exact HS.out a h
      ·obtain rfl : a = i := by omega
       exact HSj.out⟩, ⟨by first | exact HJj.out | exact HD.out _ _ _ HJj.out⟩⟩
  ·have hlt' : decide (i < U.length) = false := decide_eq_false hlt
   obtain rfl : i = U.length := by have := HK2.out; omega
   have hrt : r = true := by
    rw [HR.out, allN_iff]
    intro a ha
    exact allN_iff.2 (HS.out a ha)
   subst hrt
   clear hlt
   go_wp2_with fail
   go_ret
   have hj := HJ.out
   rw [HSI.out] at hj
   exact ⟨rfl, by first | exact hj | exact HD.out _ _ _ hj⟩
theorem every_pure (g : Nat) (U : List (List Int)) (N : List Int) (v : Adr) (w : World) (hs : U.length ≤ 12) (hV : View w g U N v) (fv : Nat) (fn : Func) (cs : Array Value) (hf : Try.prog.funcs[fv]? = some fn) (hname : (fn.name == "runtime.NumGoroutine") = false) (hb : fn.body.isSome = true)
 (p : Nat → Nat → Bool) (step : ∀ a b : Nat, a < U.length → b < U.length → ∀ W, Below w.heap.size w W → Calls Try.prog fv (#[.int .i64 a, .int .i64 b] ++ cs) W fun e w'' => e = .returned (.bool (p a b)) ∧ Below W.heap.size W w'') :
 Calls Try.prog 28 #[.pointer (some ⟨g, 0, none⟩), .func (.func fv) #[] cs] w fun e w' => e = .returned (.bool (allN U.length fun a => allN U.length fun b => p a b)) ∧ Below w.heap.size w w' := by
 refine (every_calls g U N v w hs fv fn cs hf hname hb p (fun _ W => Below w.heap.size w W) (fun _ W h => hV.below h) (fun _ W n h => pw_below_drewN h n) (Below.refl _ _) (fun a b ha hb' W hW => ?_)).mono ?_
 ·refine (step a b ha hb' W hW).mono ?_
  rintro e w2 ⟨rfl, h2⟩
  exact ⟨rfl, below_step hW h2⟩
 ·rintro e w2 ⟨rfl, i, h2, _⟩
  exact ⟨rfl, h2⟩
def filI (n : Nat) (p : Nat → Bool) : List Int := ((List.range n).filter p).map fun (a : Nat) => (a : Int)
theorem filI_zero (p : Nat → Bool) : filI 0 p = [] := rfl
theorem filI_succ (n : Nat) (p : Nat → Bool) : filI (n + 1) p = if p n = true then filI n p ++ [(n : Int)] else filI n p := by
 unfold filI
 rw [List.range_succ,List.filter_append,List.map_append]
 cases h:p n <;> simp [h]
theorem filI_length (n : Nat) (p : Nat → Bool) : (filI n p).length ≤ n := by
 unfold filI
 rw [List.length_map]
 exact Nat.le_trans (List.length_filter_le _ _) (by simp)
set_option maxHeartbeats 1000000 in
set_option maxRecDepth 100000 in
theorem all_calls (g : Nat) (U : List (List Int)) (N : List Int) (v : Adr) (w : World) (hs : U.length ≤ 12) (hV : View w g U N v) (fv : Nat) (fn : Func) (cs : Array Value) (hf : Try.prog.funcs[fv]? = some fn) (hname : (fn.name == "runtime.NumGoroutine") = false) (hb : fn.body.isSome = true)
 (p : Nat → Bool) (step : ∀ a : Nat, a < U.length → ∀ W, Below w.heap.size w W → Calls Try.prog fv (#[.int .i64 a] ++ cs) W fun e w'' => e = .returned (.bool (p a)) ∧ Below W.heap.size W w'') :
 Calls Try.prog 30 #[.pointer (some ⟨g, 0, none⟩), .func (.func fv) #[] cs] w fun e w' => ∃ v0, e = .returned v0 ∧ Kd.R (Kd.int .i64) 3 w' w.heap.size (fun _ => True) v0 (filI U.length p) ∧ Below w.heap.size w w' := by
 have hu70 := Try.underlying43
 have HF := Aside0.mk hf
 have HNM := Aside0.mk hname
 have HBD := Aside0.mk hb
 have HV := Aside0.mk hV
 have HST := Aside0.mk step
 have HB := Aside0.mk (Below.refl w.heap.size w)
 have hf0 := hV.f0
 clear hf hname hb hV step
 go_enter Try.func30, Try.ntmps30
 go_wp2_with (first | ((with_reducible refine gate_dst (N := 7) rfl ?_); refine Kd.R_lit (Kd.int .i64) _ 3 ?hg (N := 7) ?hd (xs := ([] : List Int)) (inner := []) (ok := fun _ => True) (okp := fun _ => True) ?hr ?hp (fun _ hk => hk) trivial (Below.refl _ _) (Nat.le_refl _) (by simp) ?_; (case hd => rfl); (case hg => rfl); (case hr => exact zq151); (case hp => exact (Reps.none _ _)); intro v496 w4 ho5 hb hg_ hnew_; clear hg_ hnew_; have HO := Aside0.mk ho5; have HB2 := Aside0.mk (below_step HB.out hb); have hf0' := (HV.out.below hb).f0; clear HB hf0 ho5 hb))
 go_loopg [5, 13] (U.length + 1) (fun kq v5 v13 W => ∃ i : Nat, v13 = .int .i64 i ∧ Aside0 (i + kq = U.length + 1) ∧ Aside0 (i ≤ U.length) ∧ Aside0 (Kd.R (Kd.int .i64) 3 W w.heap.size (fun _ => True) v5 (filI i p)) ∧ Aside0 (Below w.heap.size w W))
 case atStart => exact ⟨0, rfl, ⟨by omega⟩, ⟨by omega⟩, ⟨zqfR HO.out⟩, ⟨by repeat (first | exact HB2.out | apply below_alloc | apply pw_below_drewN | apply below_drew1)⟩⟩
 case round =>
  clear hf0'
  obtain ⟨i, rfl, HK, HK2, HO1, HB1⟩ := hrel
  cases gk with
  | zero => exact absurd HK.out (by have := HK2.out; omega)
  | succ kn =>
  by_cases hlt : i < U.length
  ·have hlt' : decide (i < U.length) = true := decide_eq_true hlt
   have HLT := Aside0.mk hlt
   clear hlt
   cases hp : p i with
   | true =>
    have HP := Aside0.mk hp
    clear hp
    go_wp2_with (first | (refine goesV_ (some 18) rfl rfl HF.out HNM.out HBD.out #[.int .i64 i] rfl rfl zq57 ?_; refine (HST.out i HLT.out _ ?sJ).mono ?_; (case sJ => exact zq95); rintro e w1 ⟨he, hj⟩; rw [HP.out] at he; subst he; refine ⟨_, rfl, ?_⟩; have HB3 := Aside0.mk (below_step zq95 hj); have HO3 := Aside0.mk (Kd.R_below (zqfR HO1.out) hj); clear hj) | ((with_reducible refine gate_builtin (b := .append) (xs := #[.tmp 19, .tmp 21]) rfl ?_); at_builtin; refine Kd.R_append (Kd.int .i64) (w0 := w) w.heap.size rfl (.tmp 19) (.tmp 21) 24 3 (.int .i64 0) 8 rfl Try.underlying24 infoInt rfl (by decide) (by omega) u5 (filI i p) (i : Int) [.int .i64 i] (fun _ => True) (fun _ => False) rfl rfl ?aP (fun _ hk => hk.elim) ?aF ?aO ?aB ?aS ?aL ?_; (case aP => exact rfl); (case aB => exact zq118); (case aF => exact (fun _ _ => trivial)); (case aO => exact (zqfR HO3.out)); (case aS => exact (below_size zq118)); (case aL => have := filI_length i p; have := HLT.out; omega); intro v5n w21 ho hb hg hat; have HB4 := Aside0.mk hb; have HO4 := Aside0.mk ho; clear ho hb hg hat))
    go_roundg kn
    case measure => omega
    case rel => exact ⟨i + 1, by first | go_num | (rw [wrap_small (by omega) (by have := HLT.out; omega)]; go_num), ⟨by have := HK.out; omega⟩, ⟨by have := HLT.out; omega⟩, ⟨by rw [filI_succ, if_pos HP.out]; refine zqfR ?_; exact HO4.out⟩, ⟨by repeat (first | exact HB4.out | apply below_alloc | apply pw_below_drewN | apply below_drew1)⟩⟩
   | false =>
    have HP := Aside0.mk hp
    clear hp
    go_wp2_with (refine goesV_ (some 18) rfl rfl HF.out HNM.out HBD.out #[.int .i64 i] rfl rfl zq57 ?_; refine (HST.out i HLT.out _ ?sJ).mono ?_; (case sJ => exact zq95); rintro e w1 ⟨he, hj⟩; rw [HP.out] at he; subst he; refine ⟨_, rfl, ?_⟩; have HB3 := Aside0.mk (below_step zq95 hj); have HO3 := Aside0.mk (Kd.R_below (zqfR HO1.out) hj); clear hj)
    go_roundg kn
    case measure => omega
    case rel => exact ⟨i + 1, by first | go_num | (rw [wrap_small (by omega) (by have := HLT.out; omega)]; go_num), ⟨by have := HK.out; omega⟩, ⟨by have := HLT.out; omega⟩, ⟨by rw [filI_succ, if_neg (by rw [HP.out]; simp)]; refine zqfR ?_; exact HO3.out⟩, ⟨zq118⟩⟩
  ·have hlt' : decide (i < U.length) = false := decide_eq_false hlt
   obtain rfl : i = U.length := by have := HK2.out; omega
   clear hlt
   go_wp2_with fail
   go_ret
   exact ⟨_, rfl, zqfR HO1.out, by repeat (first | exact HB1.out | apply below_alloc | apply pw_below_drewN | apply below_drew1)⟩
end Go.Proofs.Ytmbapglhkbpokaa.Print
end
section
namespace Go.Proofs.Ytmbapglhkbpokaa.Print
open Go.RowKit Go.Proofs.YtmbapglhkbpokaaW.PrintWords Go.Proofs.YtmbapglhkbpokaaW.PrintLast Go.Proofs.YtmbapglhkbpokaaW.PrintMore
section
attribute [local go_sem] max2_int min2_int max_two min_two max_three min_three max_four min_four
def impl_common.l0 : Nat → Int → Int → List Int → Int → Int → Option (Int)
 | 0, _, _, _, _, _ => none
 | k + 1, x1, x5, x12, x13, x14 => if x14 < x13 then (if 0 ≤ x14 then (if x14 < (x12.length : Int) then ((impl_has.f x1 x14).bind fun t444 => (if t444 = true then (impl_common.l0 k x1 (Go.bits .and .i64 x5 (rd x12 x14)) x12 x13 (wrap64 (x14 + 1))) else (impl_common.l0 k x1 x5 x12 x13 (wrap64 (x14 + 1))))) else (none)) else (none)) else (some x5)
def impl_common.f (k : Nat) (l0 : List Int) (a1 : Int) : Option (Int) := impl_common.l0 k a1 (wrap64 ((shl .i64 1 (l0.length : Int)) - 1)) l0 (l0.length : Int) 0
set_option maxHeartbeats 8000000 in
set_option maxRecDepth 100000 in
theorem impl_common.calls (k : Nat) (A0 : Option Addr) (c0 : Nat) (l0 : List Int) (a1 : Int) (r : Int) (w : World) (hr0 : Kd.C (Kd.int .i64) w A0 l0.length l0) (hc0 : l0.length ≤ c0) (h : impl_common.f k l0 a1 = some r) :
  Calls Try.prog 20 #[.slice A0 l0.length c0, .int .i64 a1] w fun e w' => e = .returned (.int .i64 r) ∧ Drawn0 w w' := by
 have b3:=zqm hr0;have b9:=zqm hc0;clear hr0 hc0;have H:(impl_common.l0 k a1 (wrap64 ((shl .i64 1 (l0.length:Int)) - 1)) l0 (l0.length:Int) 0)=some r:=h;clear h;obtain⟨a2,a5⟩: ∃j_:Int,(shl .i64 1 (l0.length:Int))=j_:=⟨_,rfl⟩;(replace H:(impl_common.l0 k a1 (wrap64 ((a2) - 1)) l0 (l0.length:Int) 0)=some r:=by first|(rw [a5] at H;exact H)|(simp only [a5] at H ⊢;exact H));have a7:(IntKind.i64.wrap (1*2 ^ min (l0.length:Int).toNat 64))=a2:=a5;have hji3z:(l0.length:Int)≤64→(IntKind.i64.wrap (1*2 ^ (l0.length:Int).toNat))=a2:=shl_small a5;have hji3p:(IntKind.i64.wrap (1*2 ^ min l0.length 64))=a2:=a7;have hji3q:(l0.length:Int)≤64→(IntKind.i64.wrap (1*2 ^ l0.length))=a2:=hji3z;(have hji3r:(IntKind.i64.wrap (2 ^ min l0.length 64))=a2:=by have h_:=hji3p;rw [Int.one_mul] at h_;exact h_);(have hji3s:(l0.length:Int)≤64→(IntKind.i64.wrap (2 ^ l0.length))=a2:=fun hle_=>by have h_:=hji3q hle_;rw [Int.one_mul] at h_;exact h_);(have hji3u:(IntKind.i64.wrap (2 ^ min (l0.length:Int).toNat 64))=a2:=by have h_:=a7;rw [Int.one_mul] at h_;exact h_);(have hji3v:(l0.length:Int)≤64→(IntKind.i64.wrap (2 ^ (l0.length:Int).toNat))=a2:=fun hle_=>by have h_:=hji3z hle_;rw [Int.one_mul] at h_;exact h_);have hji3y:(wrap64 (1*2 ^ min (l0.length:Int).toNat 64))=a2:=(i64_w _).symm.trans a7;have hji3x:(l0.length:Int)≤64→(wrap64 (1*2 ^ (l0.length:Int).toNat))=a2:=fun h_=>(i64_w _).symm.trans (hji3z h_);have H':=zqm H;clear H
 go_enter Try.func20,Try.ntmps20
 go_wp2
 go_loopg [5,14] k (fun kq v5 b6 w'=> ∃(a6:Int) (a0:Int),v5= .int .i64 a6∧b6= .int .i64 a0∧Aside0 (impl_common.l0 kq a1 a6 l0 (l0.length:Int) a0=some r)∧Aside0 (kq≤k)∧Drawn0 w w')
 case atStart=>exact⟨(wrap64 ((a2) - 1)),(0),zq154,zq6,H',⟨Nat.le_refl _⟩,zq8⟩
 case round=>
  clear H';obtain⟨a6,a0,rfl,rfl,HA,a9,⟨m1,rfl⟩⟩:=hrel
  cases gk with
  |zero=>exact absurd HA.out (by simp [impl_common.l0])
  |succ k1=>
   have H:=HA.out;clear HA;simp only [impl_common.l0] at H
   by_cases c4:a0<(l0.length:Int)
   ·rw [if_pos c4] at H;have b4:decide (a0<(l0.length:Int))=true:=decide_eq_true c4;clear c4
    by_cases c5:0≤a0
    ·rw [if_pos c5] at H;have b7:decide (0≤a0)=true:=decide_eq_true c5;clear c5
     by_cases c6:a0<(l0.length:Int)
     ·rw [if_pos c6] at H;have b8:decide (a0<(l0.length:Int))=true:=decide_eq_true c6;clear c6;replace H:=Option.bind_eq_some_iff.mp H;obtain⟨b5,b2,H⟩:=H;(try dsimp only at H);have A7:=zqm b2;clear b2
      by_cases c8:b5=true
      ·subst c8;rw [if_pos rfl] at H;have H':=zqm H;clear H;have a3:0≤(a0:Int):=zqo;have a4:a0<(l0.length:Int):=zqo;obtain⟨b1,a8,b0⟩:=Kd.at_int b3.out a0 a3 a4
       cases a8
       replace a3:=eq_true a3;replace a4:=eq_true a4
       go_wp2_with (first|((with_reducible refine gate_callee (f:=34) rfl ?_);refine goesL_ (some 21) rfl rfl Try.func34 zqk rfl #[.int .i64 a1,.int .i64 a0] rfl zq5 ?_;(with_reducible refine(impl_has.calls a1 a0 true _ A7.out).mono ?_);rintro e w' ⟨rfl,⟨nd,rfl⟩⟩;refine⟨_,rfl,?_⟩))
       go_roundg k1
       (case measure=>have:=a9.out;omega);case rel=>exact⟨(Go.bits .and .i64 a6 (rd l0 a0)),(wrap64 (a0+1)),zq6,zq6,H',⟨by have:=a9.out;omega⟩,zq8⟩
      ·replace c8:=Bool.eq_false_iff.mpr c8;subst c8;rw [if_neg (show¬(false=true) by decide)] at H;have H':=zqm H;clear H;have a3:0≤(a0:Int):=zqo;have a4:a0<(l0.length:Int):=zqo;obtain⟨b1,a8,b0⟩:=Kd.at_int b3.out a0 a3 a4
       cases a8
       replace a3:=eq_true a3;replace a4:=eq_true a4
       go_wp2_with (first|((with_reducible refine gate_callee (f:=34) rfl ?_);refine goesL_ (some 21) rfl rfl Try.func34 zqk rfl #[.int .i64 a1,.int .i64 a0] rfl zq5 ?_;(with_reducible refine(impl_has.calls a1 a0 false _ A7.out).mono ?_);rintro e w' ⟨rfl,⟨nd,rfl⟩⟩;refine⟨_,rfl,?_⟩))
       go_roundg k1
       (case measure=>have:=a9.out;omega);case rel=>exact⟨(a6),(wrap64 (a0+1)),zq6,zq6,H',⟨by have:=a9.out;omega⟩,zq8⟩
     ·rw [if_neg c6] at H;exact absurd H (by simp)
    ·rw [if_neg c5] at H;exact absurd H (by simp)
   ·rw [if_neg c4] at H;have b4:decide (a0<(l0.length:Int))=false:=decide_eq_false c4;clear c4;obtain rfl:=Option.some.inj H
    go_wp2
    go_ret
    exact⟨zq154,zq8⟩
end
end Go.Proofs.Ytmbapglhkbpokaa.Print
end
section
namespace Go.Proofs.Ytmbapglhkbpokaa.Print
open Go.RowKit Go.Proofs.YtmbapglhkbpokaaW.PrintWords Go.Proofs.YtmbapglhkbpokaaW.PrintLast Go.Proofs.YtmbapglhkbpokaaW.PrintMore
open Oml
def agA (U : List (List Int)) (N : List Int) (a : Nat) : Nat := setB U.length fun b => bothB U N a b
def agN (U : List (List Int)) (N : List Int) (s a : Nat) : Nat := setB U.length fun b => decide (a * U.length + b < s) && bothB U N a b
def agL (U : List (List Int)) (N : List Int) (s : Nat) : List Int := (List.range U.length).map fun (a : Nat) => ((agN U N s a : Nat) : Int)
def agF (U : List (List Int)) (N : List Int) : List Int := (List.range U.length).map fun (a : Nat) => ((agA U N a : Nat) : Int)
theorem agF_length (U : List (List Int)) (N : List Int) : (agF U N).length = U.length := by simp [agF]
theorem agL_at (U : List (List Int)) (N : List Int) (s a : Nat) (h : a < U.length) : at1 (agL U N s) a = ((agN U N s a : Nat) : Int) := by simp [agL, at1, h]
theorem agF_at (U : List (List Int)) (N : List Int) (a : Nat) (h : a < U.length) : at1 (agF U N) a = ((agA U N a : Nat) : Int) := by simp [agF, at1, h]
theorem agL_zero (U : List (List Int)) (N : List Int) : agL U N 0 = List.replicate U.length 0 := by
 refine List.ext_getElem (by simp [agL]) fun i h1 h2 => ?_
 simp [agL, agN, setB_none]
theorem pair_lt {n a b : Nat} (ha : a < n) (hb : b < n) : a * n + b < n * n := by
 have : (a + 1) * n ≤ n * n := Nat.mul_le_mul_right _ ha
 rw [Nat.succ_mul] at this; omega
theorem agL_all (U : List (List Int)) (N : List Int) : agL U N (U.length * U.length) = agF U N := by
 unfold agL agF
 refine List.map_congr_left fun a ha=>?_
 congr 1
 unfold agN agA
 refine setB_congr fun b hb=>?_
 rw [decide_eq_true (pair_lt (by simpa using ha) hb),Bool.true_and]
theorem pair_inj {n a b c d : Nat} (hb : b < n) (hd : d < n) (h : a * n + b = c * n + d) : a = c ∧ b = d := by
 have h1:(a*n+b) / n=a:=by rw [Nat.add_comm,Nat.mul_comm,Nat.add_mul_div_left _ _ (by omega),Nat.div_eq_of_lt hb];omega
 have h2:(c*n+d) / n=c:=by rw [Nat.add_comm,Nat.mul_comm,Nat.add_mul_div_left _ _ (by omega),Nat.div_eq_of_lt hd];omega
 have h3:a=c:=by rw [← h1,h,h2]
 subst h3
 exact⟨rfl,by omega⟩
theorem agN_step (U : List (List Int)) (N : List Int) {a b c : Nat} (hb : b < U.length) : agN U N (a * U.length + b + 1) c = if c = a ∧ bothB U N a b = true then agN U N (a * U.length + b) c ||| 2 ^ b else agN U N (a * U.length + b) c := by
 unfold agN
 split
 ·rename_i h
  obtain⟨rfl,h⟩:=h
  rw [setB_one hb,setB_or]
  refine setB_congr fun d hd=>?_
  by_cases e:d=b
  ·subst e;simp [h]
  ·rw [show (d==b)=false by simpa using e,Bool.or_false]
   congr 1
   rw [decide_eq_decide];omega
 ·rename_i h
  refine setB_congr fun d hd=>?_
  by_cases e:c*U.length+d=a*U.length+b
  ·obtain⟨rfl,rfl⟩:=pair_inj hd hb e
   have:bothB U N c d=false:=by
    cases h2:bothB U N c d with
    |false=>rfl
    |true=>exact absurd ⟨rfl,h2⟩ h
   rw [this];simp
  ·congr 1
   rw [decide_eq_decide];omega
theorem agL_step (U : List (List Int)) (N : List Int) {a b : Nat} (ha : a < U.length) (hb : b < U.length) :
 agL U N (a*U.length+b+1)=if bothB U N a b=true then(agL U N (a*U.length+b)).set a (((agN U N (a*U.length+b) a|||2 ^ b:Nat)):Int) else agL U N (a*U.length+b):=by
 cases hB:bothB U N a b with
 |false=>
  rw [if_neg (by simp)]
  refine List.ext_getElem (by simp [agL]) fun i h1 h2=>?_
  simp [agL,agN_step U N hb,hB]
 |true=>
  rw [if_pos rfl]
  refine List.ext_getElem (by simp [agL]) fun i h1 h2=>?_
  by_cases e:i=a
  ·subst e;simp [agL,agN_step U N hb,hB]
  ·simp [agL,agN_step U N hb,List.getElem_set,e,show¬(a=i) from fun h=>e h.symm]
def comS (U : List (List Int)) (N : List Int) (s : Nat) : Nat := setB U.length fun b => allN U.length fun a => !(s.testBit a) || bothB U N a b
def comN (U : List (List Int)) (N : List Int) (s i : Nat) : Nat := setB U.length fun b => allN i fun a => !(s.testBit a) || bothB U N a b
theorem allN_succ (n : Nat) (p : Nat → Bool) : allN (n + 1) p = (allN n p && p n) := by simp [allN, List.range_succ]
theorem comN_succ (U : List (List Int)) (N : List Int) (s i : Nat) : comN U N s (i + 1) = if s.testBit i = true then comN U N s i &&& agA U N i else comN U N s i := by
 unfold comN agA
 cases hb:s.testBit i with
 |true=>rw [if_pos rfl,setB_and];exact setB_congr fun b _=>by rw [allN_succ,hb];simp
 |false=>rw [if_neg (by simp)];exact setB_congr fun b _=>by rw [allN_succ,hb];simp
theorem comN_small {U : List (List Int)} (N : List Int) (hn : U.length ≤ 12) (s i : Nat) : comN U N s i < 1099511627776 := setB_small (by omega) _
theorem agA_small {U : List (List Int)} (N : List Int) (hn : U.length ≤ 12) (i : Nat) : agA U N i < 1099511627776 := setB_small (by omega) _
theorem com_start {U : List (List Int)} (N : List Int) (hn : U.length ≤ 12) (s : Nat) : wrap64 (((2 ^ U.length : Nat) : Int) - 1) = ((comN U N s 0 : Nat) : Int) := by
 have h1:=two_pow_le (show U.length≤40 by omega)
 have h1':=Nat.one_le_two_pow (n:=U.length)
 have h3:comN U N s 0=2 ^ U.length - 1:=by rw [setB_all];exact setB_congr fun i _=>rfl
 rw [h3]
 generalize 2 ^ U.length=x at h1 h1' ⊢
 unfold wrap64;omega
theorem impl_common.ev {U : List (List Int)} (N : List Int) (hn : U.length ≤ 12) {s : Nat} (hs : s < 4611686018427387904) : Ev (fun k => impl_common.f k (agF U N) (s : Int)) ((comS U N s : Nat) : Int) := by
 unfold impl_common.f
 rw [agF_length,shl_nat (by omega)]
 rw [com_start N hn s]
 refine Ev.loop (g:=fun k x i=>impl_common.l0 k (s:Int) x (agF U N) (U.length:Int) i) U.length (fun i x=>x=((comN U N s i:Nat):Int)) (by omega) (fun x h=>?_) (fun i x hi h=>?_) _ rfl
 ·subst h
  refine Ev.succ ?_
  simp only [impl_common.l0]
  repeat(with_reducible first|refine Ev.ip ?_|refine Ev.iq ?_)
  exact Ev.now _
 ·subst h
  refine⟨_,rfl,fun K=>Ev.succ ?_⟩
  simp only [impl_common.l0,agF_length,rd_nat,agF_at U N i hi]
  repeat(with_reducible first|refine Ev.ip ?_|refine Ev.iq ?_)
  refine Ev.pbind (has_nat s hs (by omega)) ?_
  rw [comN_succ] at K
  cases hb:s.testBit i with
  |true=>
   rw [hb,if_pos rfl] at K
   repeat(with_reducible first|refine Ev.ip ?_|refine Ev.iq ?_)
   rw [band_nat (comN U N s i) (agA U N i) (by have:=comN_small N hn s i;omega) (by have:=agA_small N hn i;omega)]
   exact K
  |false=>
   rw [hb,if_neg (by simp)] at K
   repeat(with_reducible first|refine Ev.ip ?_|refine Ev.iq ?_)
   exact K
theorem com_calls {U : List (List Int)} (N : List Int) (hn : U.length ≤ 12) (s : Nat) (hs : s < 4611686018427387904) (A : Option Addr) (c : Nat) (w : World) (hr : Kd.C (Kd.int .i64) w A U.length (agF U N)) (hc : U.length ≤ c) :
 Calls Try.prog 20 #[.slice A U.length c,.int .i64 (s:Int)] w fun e w'=>e= .returned (.int .i64 ((comS U N s:Nat):Int))∧Drawn0 w w':=by
 obtain⟨K,hK⟩:=(impl_common.ev N hn hs).rounds
 have:=impl_common.calls K A c (agF U N) (s:Int) _ w (by rw [agF_length];exact hr) (by rw [agF_length];exact hc) hK
 rwa [agF_length] at this
structure AgJ (w : World) (gG g gO gr c : Nat) (U : List (List Int)) (N : List Int) (s : Nat) (W : World) : Prop where
 hb:Below w.heap.size w W
 hG:W.heap[gG]? =some (.cells #[.pointer (some ⟨g,0,none⟩)] 39 (0,0))
 hO:W.heap[gO]? =some (.cells #[.slice (some ⟨gr,0,none⟩) U.length c] 24 (0,0))
 hR:Kd.R (Kd.int .i64) 3 W w.heap.size (fun k=>k=gr) (.slice (some ⟨gr,0,none⟩) U.length c) (agL U N s)
 hg:w.heap.size≤gG
 ho:w.heap.size≤gO
theorem AgJ.below {w : World} {gG g gO gr c : Nat} {U : List (List Int)} {N : List Int} {s : Nat} {W W1 : World} (h : AgJ w gG g gO gr c U N s W) (hb : Below W.heap.size W W1) : AgJ w gG g gO gr c U N s W1 :=
 ⟨below_step h.hb hb,blk_below h.hG hb,blk_below h.hO hb,Kd.R_below h.hR hb,h.hg,h.ho⟩
theorem AgJ.drewN {w : World} {gG g gO gr c : Nat} {U : List (List Int)} {N : List Int} {s : Nat} {W : World} (h : AgJ w gG g gO gr c U N s W) (n : Nat) : AgJ w gG g gO gr c U N s (W.drewN n) := h.below (pw_below_drewN (Below.refl _ _) n)
def alg_agreeing_1.T2 : Bool × List (List Nat × List Nat) := (true, [([], []), ([], []), ([0, 1], [0, 1]), ([2], [2]), ([], []), ([4], [4]), ([3, 5], [3, 5]), ([0, 1, 0, 1, 2, 3, 4, 5, 6], [0, 1]), ([7, 6, 0, 1, 2, 3, 4, 5, 6], [6, 7])])
def alg_agreeing_1.B2 : List Nat := [0, 0, 3, 7, 0, 16, 63, 127, 255]
theorem alg_agreeing_1.tab2 : rtab .any (opsOf Try.f51 2) = alg_agreeing_1.T2 := by kernel_rfl
theorem alg_agreeing_1.bits2 : waitsOk alg_agreeing_1.T2.2 alg_agreeing_1.B2 = true := by kernel_rfl
set_option maxHeartbeats 1000000 in
set_option maxRecDepth 100000 in
theorem agr_c1 (g : Nat) (U : List (List Int)) (N : List Int) (v : Adr) (w1 w : World) (L : Logic U N) (hV : View w1 g U N v) (gG gO gr c a b : Nat) (ha : a < U.length) (hb : b < U.length) (hJ : AgJ w1 gG g gO gr c U N (a * U.length + b) w) :
 Calls Try.prog 51 #[.int .i64 a,.int .i64 b,.pointer (some ⟨gG,0,none⟩),.pointer (some ⟨gO,0,none⟩)] w fun e w'=>e= .returned (.bool true)∧AgJ w1 gG g gO gr c U N (a*U.length+b+1) w':=by
 have HV:=zqm hV
 have HLg:=zqm L
 have HSM:=zqm L.small
 have HA:=zqm ha
 have HB:=zqm hb
 have HJ:=zqm hJ
 have HIA:=zqm (show In U (a:Int) from ⟨by omega,by omega⟩)
 have HIB:=zqm (show In U (b:Int) from ⟨by omega,by omega⟩)
 have HST:=zqm (agL_step U N ha hb)
 have x0:w.cell? ⟨gG,0,none⟩=some (.pointer (some ⟨g,0,none⟩)):=(blk_cell hJ.hG 0).trans rfl
 cases hB:bothB U N a b with
 |false=>
  have HBB:=zqm hB
  have HEQ:=zqm (show agL U N (a*U.length+b+1)=agL U N (a*U.length+b) by rw [HST.out,if_neg (by rw [hB];simp)])
  clear hV L ha hb hJ hB HST
  go_enter Try.func51,Try.ntmps51
  go_wp2_with (go_at_call 52;(with_reducible refine(alg_both.reads g U N v a b _ HLg.out ?s1 HIA.out HIB.out).mono ?_);(case s1=>exact HV.out.below HJ.out.hb);rintro e w' ⟨he,⟨⟨nd,rfl⟩⟩⟩;rw [HBB.out] at he;subst he;have HJ2:=zqm (HJ.out.drewN nd);clear HJ)
  go_ret
  have h:=HJ2.out
  exact⟨rfl,h.hb,h.hG,h.hO,by rw [HEQ.out];exact h.hR,h.hg,h.ho⟩
 |true=>
  have HBB:=zqm hB
  obtain⟨sv,hsv⟩: ∃sv:Int,sv=((agN U N (a*U.length+b) a:Nat):Int):=⟨_,rfl⟩
  obtain⟨tv,htv⟩: ∃tv:Int,tv=((agN U N (a*U.length+b) a|||2 ^ b:Nat):Int):=⟨_,rfl⟩
  obtain⟨pv,hpv⟩: ∃pv:Int,wrap64 (2 ^ min b 64)=pv:=⟨_,rfl⟩
  have e2_:Go.bits .or .i64 sv pv=tv:=by
   have h1:=setB_small (show U.length≤40 by have:=L.small;omega) (fun d=>decide (a*U.length+d<a*U.length+b) && bothB U N a d)
   have h2:=two_pow_le (show b≤40 by have:=L.small;omega)
   rw [hsv,htv,← hpv,Nat.min_eq_left (show b≤64 by have:=L.small;omega),← i64_w,wshl_nat (by have:=L.small;omega)]
   exact bor_nat _ _ (by unfold agN;omega) (by omega)
  have e1_:=hpv
  have HSET:=zqm (show agL U N (a*U.length+b+1)=(agL U N (a*U.length+b)).set a tv by rw [HST.out,if_pos hB,htv])
  have HCELL:=zqm (show∀W,AgJ w1 gG g gO gr c U N (a*U.length+b) W→W.cell? ⟨gr,a,none⟩=some (.int .i64 sv) from fun W h=>by
   have h2:=(Kd.R_celln 0 h.hR (a:Int) (by omega) (by omega)).1
   rw [Int.toNat_natCast] at h2
   rw [h2,hsv,← agL_at U N _ a ha]
   rfl)
  have HFREE:=zqm (show∀W,AgJ w1 gG g gO gr c U N (a*U.length+b) W→W.frozen? ⟨gr,a,none⟩=false from fun W h=>by
   have h2:=(Kd.R_celln 0 h.hR (a:Int) (by omega) (by omega)).2
   rwa [Int.toNat_natCast] at h2)
  have HNE1:=zqm (show∀W,AgJ w1 gG g gO gr c U N (a*U.length+b) W→some gG≠some gr from fun W h=>Kd.R_ne h.hR h.hG (by decide))
  have HNE2:=zqm (show∀W,AgJ w1 gG g gO gr c U N (a*U.length+b) W→some gO≠some gr from fun W h=>Kd.R_ne h.hR h.hO (by decide))
  have p1:(a<U.length)=True:=eq_true ha
  have p2:(0≤(a:Int))=True:=eq_true (by omega)
  have p3:((a:Int)<(U.length:Int))=True:=eq_true (by omega)
  clear hV L ha hb hJ hB HST hsv htv hpv
  go_enter Try.func51,Try.ntmps51
  go_wp2_with (go_at_call 52;(with_reducible refine(alg_both.reads g U N v a b _ HLg.out ?s1 HIA.out HIB.out).mono ?_);(case s1=>exact HV.out.below HJ.out.hb);rintro e w' ⟨he,⟨⟨nd,rfl⟩⟩⟩;rw [HBB.out] at he;subst he;have HJ2:=zqm (HJ.out.drewN nd);clear HJ x0)
  refine start_ (n:=9) (S:=(fun w'=>w'.cell? ⟨gO,0,none⟩=some (.slice (some ⟨gr,0,none⟩) U.length c)∧w'.cell? ⟨gr,a,none⟩=some (.int .i64 sv))) (ds:= [8]) (zqb 9 0) zqk rfl rfl ⟨(blk_cell (HJ2.out.below (below_drew1 (Below.refl _ _))).hO 0).trans rfl,HCELL.out _ (HJ2.out.below (below_drew1 (Below.refl _ _)))⟩ (fun hHeld=>?_)
  refine with_tabW alg_agreeing_1.tab2 alg_agreeing_1.bits2 (fun HT_ HW_=>?_)
  have HJ3:=zqm (HJ2.out.below (below_drew1 (Below.refl _ _)))
  clear HJ2
  generalize (World.drewN w nd).drew=wd at HJ3 hHeld ⊢
  refine zqw 0 11 (zqb 9 1) HT_ HW_ hHeld ?_
  refine zqp 1 12 (zqb 9 3) HT_ ?_
  refine zqp 2 13 (zqb 9 7) HT_ ?_
  refine zqw 3 14 (zqb 9 15) HT_ HW_ hHeld ?_
  refine zqp 4 15 (zqb 9 31) HT_ ?_
  refine zqp 5 16 (zqb 9 63) HT_ ?_
  refine zqp 6 17 (zqb 9 127) HT_ ?_
  refine zqp 7 18 (zqb 9 255) HT_ ?_
  have hs_:=HCELL.out _ HJ3.out
  have hf_:=HFREE.out _ HJ3.out
  refine last_ (i:=8) (N:=none) (zqb 9 511) rfl rfl (one_of HT_.out zqk) (by decide) (fun K hK=>?_)
  refine skip_ (w1:=wd.setCell ⟨gr,a,none⟩ (.int .i64 tv)) (by rfl) rfl ?_ ?_
  ·go_simp
  refine hK.out _ _ ?_
  clear hK K
  have HP:=Kd.R_putg HJ3.out.hR (a:Int) tv
  rw [Int.toNat_natCast] at HP
  have HJ7:=zqm (show AgJ w1 gG g gO gr c U N (a*U.length+b+1) (wd.setCell ⟨gr,a,none⟩ (.int .i64 tv)) from ⟨below_set HJ3.out.hb (Kd.R_base HJ3.out.hR gr rfl),blk_grown HJ3.out.hG HP.2 (HNE1.out _ HJ3.out),blk_grown HJ3.out.hO HP.2 (HNE2.out _ HJ3.out),by rw [HSET.out];exact HP.1,HJ3.out.hg,HJ3.out.ho⟩)
  generalize wd.setCell ⟨gr,a,none⟩ (.int .i64 tv)=w7 at HJ7 ⊢
  clear hs_ hf_ HJ3 HP
  refine done_ (done_of HT_.out zqk) ?_
  go_wp2
  go_ret
  exact⟨rfl,by repeat(first|exact HJ7.out|apply AgJ.drewN)⟩
set_option maxHeartbeats 1000000 in
set_option maxRecDepth 100000 in
theorem agreeing_calls (g : Nat) (U : List (List Int)) (N : List Int) (v : Adr) (w : World) (L : Logic U N) (hV : View w g U N v) :
 Calls Try.prog 19 #[.pointer (some ⟨g,0,none⟩)] w fun e w'=> ∃A c,e= .returned (.slice A U.length c)∧Kd.R (Kd.int .i64) 3 w' w.heap.size (fun _=>True) (.slice A U.length c) (agF U N)∧Below w.heap.size w w':=by
 have hu70:=Try.underlying43
 have HV:=zqm hV
 have HLg:=zqm L
 have HSM:=zqm L.small
 have b0_:decide (0≤(U.length:Int))=true:=decide_eq_true (by omega)
 clear hV L
 go_enter Try.func19,Try.ntmps19
 go_wp2_with (first|((with_reducible refine gate_dst (N:=1) rfl ?_);refine box_event ?hg (N:=1) ?hd (cs:= #[.pointer (some ⟨g,0,none⟩)]) (t:=39) ?hr ?_;(case hd=>rfl);(case hg=>rfl);(case hr=> exact zq15);intro gG hg_ w1 hbox hb;have HX:=zqm hbox;have HGG:=zqm hg_;have HB1:=zqm hb;have x0:w1.cell? ⟨gG,0,none⟩=some (.pointer (some ⟨g,0,none⟩)):=(blk_cell hbox 0).trans rfl;have hf0:=(HV.out.below hb).f0;clear hbox hb hg_)|((with_reducible refine gate_dst (N:=9) rfl ?_);refine Kd.R_make (Kd.int .i64) _ 3 rfl (N:=9) rfl 24 _ _ rfl (U.length:Int) rfl rfl Try.underlying24 (.int .i64 0) 8 infoInt rfl (by decide) (by omega) 0 (ok:=fun _=>True) (okp:=fun _=>True) rfl (fun _ hk=>hk) trivial (by omega) (by rw [Int.toNat_natCast];have:=HSM.out;omega) (Below.refl _ _) (Nat.le_refl _) ?_;intro vr w2 ho hb hg_ hat_;rw [Int.toNat_natCast] at ho;obtain⟨b_,e_,hl_⟩:=hat_;have hs_:=Kd.R_slice ho;rw [List.length_replicate] at hs_;obtain⟨Ar,cr,rfl⟩:=hs_;obtain⟨gr,hAr⟩: ∃gr,Ar=some ⟨gr,0,none⟩:=(by obtain⟨gr,cap,e2,_⟩:=Kd.R_form ho (by rw [List.length_replicate];exact HLg.out.pos);injection e2 with e3;exact⟨gr,e3⟩);subst hAr;have HO2:=zqm (Kd.R_lower (Kd.R_mono (Kd.R_tight rfl ho) (fun k hk=>(Option.some.inj hk:k=gr))) (below_size HB1.out));have HB2:=zqm (below_step HB1.out hb);have HX2:=zqm (blk_below HX.out hb);have x0':(w2.alloc (.cells #[.slice (some ⟨gr,0,none⟩) U.length cr] 24)).cell? ⟨gG,0,none⟩=some (.pointer (some ⟨g,0,none⟩)):=(blk_cell (blk_alloc HX2.out _) 0).trans rfl;clear ho hb hg_ x0 hf0 e_ hl_)|(go_at_call 28;(with_reducible refine(every_calls g U N v _ HSM.out 51 _ #[.pointer (some ⟨gG,0,none⟩),.pointer (some ⟨w2.heap.size,0,none⟩)] Try.func51 zqk rfl (fun _ _=>true) (AgJ w gG g w2.heap.size gr cr U N) ?tV ?tD ?t0 ?tS).mono ?_);(case tV=>exact fun i W h=>HV.out.below h.hb);(case tD=>exact fun i W n h=>h.drewN n);(case t0=>exact⟨below_alloc HB2.out _,blk_alloc HX2.out _,(MapKept.heap_alloc w2 _).1,(by rw [agL_zero];exact Kd.R_alloc HO2.out _),(by rw [HGG.out];exact Nat.le_refl _),below_size HB2.out⟩);(case tS=>exact fun a b ha hb W h=>agr_c1 g U N v w W HLg.out HV.out gG w2.heap.size gr cr a b ha hb h);rintro e w3 ⟨rfl,i,hj,hi⟩;have hi2:=hi (allN_iff.2 fun _ _=>allN_iff.2 fun _ _=>rfl);subst hi2;have HJ:=zqm hj;have y0:w3.cell? ⟨w2.heap.size,0,none⟩=some (.slice (some ⟨gr,0,none⟩) U.length cr):=(blk_cell hj.hO 0).trans rfl;clear hj hi x0'))
 go_ret
 have h:=HJ.out
 have hR:=h.hR
 rw [agL_all] at hR
 exact⟨_,_,rfl,Kd.R_mono hR (fun _ _=>trivial),h.hb⟩
def blkP (U : List (List Int)) (N : List Int) (s : Nat) : Bool := decide (1 ≤ s) && (comS U N s == s)
def blkN (U : List (List Int)) (N : List Int) : List Nat := (List.range (2 ^ U.length)).filter (blkP U N)
def blkL (U : List (List Int)) (N : List Int) : List Int := filI (2 ^ U.length) (blkP U N)
theorem filI_one (U : List (List Int)) (N : List Int) : filI 1 (blkP U N) = [] := by
 rw [filI_succ, filI_zero, if_neg (by simp [blkP])]
def impl_BlocksOf.f (l0_0 : List (List Int)) (l0_1 : List Int) : Option (List Int) := some (if logicB l0_0 l0_1 = true then blkL l0_0 l0_1 else [])
set_option maxHeartbeats 4000000 in
set_option maxRecDepth 100000 in
theorem impl_BlocksOf.calls (A0_0 : Option Addr) (c0_0 : Nat) (l0_0 : List (List Int)) (A0_1 : Option Addr) (c0_1 : Nat) (l0_1 : List Int) (r : List Int) (w : World) (hr0_0 : Kd.C (Kd.slice 3 (Kd.int .i64)) w A0_0 l0_0.length l0_0) (hc0_0 : l0_0.length ≤ c0_0) (hr0_1 : Kd.C (Kd.int .i64) w A0_1 l0_1.length l0_1) (hc0_1 : l0_1.length ≤ c0_1) (h : impl_BlocksOf.f l0_0 l0_1 = some r) :
 Calls Try.prog 5 #[.agg #[.slice A0_0 l0_0.length c0_0,.slice A0_1 l0_1.length c0_1]] w fun e w'=> ∃v0_:Value,e= .returned (v0_)∧Kd.R (Kd.int .i64) 3 w' w.heap.size (fun _=>True) v0_ r∧Below w.heap.size w w':=by
 obtain⟨k,hF⟩:=told_facts l0_0
 have hu30:=Try.underlying26
 have hu70:=Try.underlying43
 have HF:=zqm hF
 have HR0:=zqm hr0_0
 have HC0:=zqm hc0_0
 have HR1:=zqm hr0_1
 have HC1:=zqm hc0_1
 simp only [impl_BlocksOf.f,Option.some.injEq] at h
 clear hr0_0 hc0_0 hr0_1 hc0_1 hF
 cases hL:logicB l0_0 l0_1 with
 |false=>
  rw [hL] at h
  have hr_: []=r:=by simpa using h
  subst hr_
  have HLB:=zqm hL
  clear h hL
  go_enter Try.func5,Try.ntmps5
  go_wp2_with (first|((with_reducible refine gate_dst (N:=1) rfl ?_);refine box_event ?hg (N:=1) ?hd (cs:= #[.slice A0_0 l0_0.length c0_0,.slice A0_1 l0_1.length c0_1]) (t:=26) ?hr ?_;(case hd=>rfl);(case hg=>rfl);(case hr=> exact zq15);intro gb hg_ w1 hbox hb;have HB:=zqm hb;have hx0:w1.cell? ⟨gb,0,none⟩=some (.slice A0_0 l0_0.length c0_0):=(blk_cell hbox 0).trans rfl;have hx1:w1.cell? ⟨gb,1,none⟩=some (.slice A0_1 l0_1.length c0_1):=(blk_cell hbox 1).trans rfl;have HX:=zqm hbox;clear hbox hb hg_)|(go_at_call 18;(with_reducible refine(told_n k _ _ l0_0 _ _ l0_1 _ ?s1 ?s2 ?s3 ?s4 HF.out HLB.out).mono ?_);(case s1=> exact zq127);(case s2=>exact HC0.out);(case s3=> exact zq153);(case s4=>exact HC1.out);rintro e w2 ⟨rfl,hb⟩;have HB2:=zqm (below_step HB.out hb);clear hb hx0 hx1 HX HB))
  go_ret
  exact⟨_,rfl,Kd.R_nil _ _ _ _ _,zq148⟩
 |true=>
  rw [hL] at h
  have hr_:blkL l0_0 l0_1=r:=by simpa using h
  subst hr_
  have HLB:=zqm hL
  have HLg:=zqm (logicB_iff.1 hL)
  have HSM:=zqm (logicB_iff.1 hL).small
  obtain⟨M,hM⟩: ∃M:Nat,M=2 ^ l0_0.length:=⟨_,rfl⟩
  obtain⟨mv,hmv⟩: ∃mv:Int,mv=(M:Int):=⟨_,rfl⟩
  have hM1:1≤M:=by rw [hM];exact Nat.one_le_two_pow
  have hM2:M≤4096:=by rw [hM];exact Nat.pow_le_pow_right (by omega) (show l0_0.length≤12 from HSM.out)
  have e1_:wrap64 (2 ^ min l0_0.length 64)=mv:=by rw [Nat.min_eq_left (show l0_0.length≤64 by have:=HSM.out;omega),← i64_w,wshl_nat (by have:=HSM.out;omega),hmv,hM]
  have e2_:IntKind.i64.wrap (2 ^ min l0_0.length 64)=mv:=by rw [i64_w];exact e1_
  have HM:=zqm hM
  have HMV:=zqm hmv
  have HM1:=zqm hM1
  have HM2:=zqm hM2
  clear h hL hM hmv hM1 hM2
  go_enter Try.func5,Try.ntmps5
  go_wp2_with (first|((with_reducible refine gate_dst (N:=1) rfl ?_);refine box_event ?hg (N:=1) ?hd (cs:= #[.slice A0_0 l0_0.length c0_0,.slice A0_1 l0_1.length c0_1]) (t:=26) ?hr ?_;(case hd=>rfl);(case hg=>rfl);(case hr=> exact zq15);intro gb hg_ w1 hbox hb;have HB:=zqm hb;have hx0:w1.cell? ⟨gb,0,none⟩=some (.slice A0_0 l0_0.length c0_0):=(blk_cell hbox 0).trans rfl;have hx1:w1.cell? ⟨gb,1,none⟩=some (.slice A0_1 l0_1.length c0_1):=(blk_cell hbox 1).trans rfl;have HX:=zqm hbox;clear hbox hb hg_)|(go_at_call 18;(with_reducible refine(told_y k _ _ l0_0 _ _ l0_1 _ ?s1 ?s2 ?s3 ?s4 HF.out HLB.out).mono ?_);(case s1=> exact zq127);(case s2=>exact HC0.out);(case s3=> exact zq153);(case s4=>exact HC1.out);rintro e w2 ⟨g,v,rfl,hv,hge,hb⟩;have HB2:=zqm (below_step HB.out hb);have HV:=zqm hv;clear hv hge hb hx0 hx1 HX HB)|((with_reducible refine gate_dst (N:=11) rfl ?_);refine Kd.R_lit (Kd.int .i64) _ 3 ?hg (N:=11) ?hd (xs:=([]:List Int)) (inner:= []) (ok:=fun _=>True) (okp:=fun _=>True) ?hr ?hp (fun _ hk=>hk) trivial (Below.refl _ _) (Nat.le_refl _) (by simp) ?_;(case hd=>rfl);(case hg=>rfl);(case hr=> exact zq15);(case hp=>exact(Reps.none _ _));intro v0 w3 ho hb hg_ hnew_;clear hg_ hnew_;have HO3:=zqm (Kd.R_mono (Kd.R_bound ho) (fun k hk=>hk.2.2.1));have HB3:=zqm hb;have HV3:=zqm (HV.out.below hb);clear ho hb)|(go_at_call 19;(with_reducible refine(agreeing_calls g l0_0 l0_1 v _ HLg.out HV3.out).mono ?_);rintro e w4 ⟨Aa,ca,rfl,ho,hb⟩;have HA4:=zqm (Kd.R_lower (Kd.R_mono (Kd.R_bound ho) (fun k hk=>(⟨hk.2.1,hk.2.2.1⟩:w3.heap.size≤k∧k<w4.heap.size))) (below_size HB3.out));have HO4:=zqm (Kd.R_mono (Kd.R_below HO3.out hb) (fun k hk=>(Or.inl hk:k<w3.heap.size∨w4.heap.size≤k)));have HB4:=zqm (below_step HB3.out hb);have HV4:=zqm (HV3.out.below hb);have hf0:=HV4.out.f0;clear ho hb HO3 HV3 HB3))
  go_loopg [6,4] M (fun kq v6 v4 W=> ∃s:Nat,v6= .int .i64 s∧Aside0 (s+kq=M+1)∧Aside0 (1≤s)∧Aside0 (s≤M)∧Aside0 (Kd.R (Kd.int .i64) 3 W w2.heap.size (fun k=>k<w3.heap.size∨w4.heap.size≤k) v4 (filI s (blkP l0_0 l0_1)))∧Aside0 (Kd.R (Kd.int .i64) 3 W w2.heap.size (fun k=>w3.heap.size≤k∧k<w4.heap.size) (.slice Aa l0_0.length ca) (agF l0_0 l0_1))∧Aside0 (Below w2.heap.size w2 W)∧Aside0 (w4.heap.size≤W.heap.size))
  case atStart=>exact⟨1,by first|rfl|simp,⟨by have:=HM1.out;omega⟩,⟨by omega⟩,⟨HM1.out⟩,⟨by rw [filI_one];exact HO4.out⟩,HA4,HB4,⟨Nat.le_refl _⟩⟩
  case round=>
   clear hf0
   obtain⟨s,rfl,HK,HK1,HK2,HOr,HAr,HBr,HEr⟩:=hrel
   have hf0:=(HV.out.below HBr.out).f0
   cases gk with
   |zero=>exact absurd HK.out (by have:=HK2.out;omega)
   |succ kn=>
   by_cases hlt:s<M
   ·have hlt':decide ((s:Int)<mv)=true:=decide_eq_true (by rw [HMV.out];omega)
    have HLT:=zqm hlt
    have HC:=zqm (show Kd.C (Kd.int .i64) wr Aa l0_0.length (agF l0_0 l0_1)∧l0_0.length≤ca by have h:=Kd.R_reads' HAr.out;rw [agF_length] at h;exact⟨h.2.2,h.2.1⟩)
    clear hlt
    by_cases hc:comS l0_0 l0_1 s=s
    ·have HCS:=zqm (show ((comS l0_0 l0_1 s:Nat):Int)=(s:Int) by rw [hc])
     have HP:=zqm (show blkP l0_0 l0_1 s=true by unfold blkP;rw [hc,decide_eq_true HK1.out];simp)
     clear hc
     go_wp2_with (first|(go_at_call 20;(with_reducible refine(com_calls l0_1 HSM.out s zq173 Aa ca _ HC.out.1 HC.out.2).mono ?_);rintro e w' ⟨he,⟨⟨nd,rfl⟩⟩⟩;rw [HCS.out] at he;subst he;have HO5:=zqm (Kd.R_drewN HOr.out nd);have HA5:=zqm (Kd.R_drewN HAr.out nd);have HB5:=zqm (pw_below_drewN HBr.out nd);clear HOr HAr HBr HC hf0)|((with_reducible refine gate_builtin (b:= .append) (xs:= #[.tmp 29,.tmp 31]) rfl ?_);at_builtin;refine Kd.R_append (Kd.int .i64) (w0:=w2) w2.heap.size rfl (.tmp 29) (.tmp 31) 24 3 (.int .i64 0) 8 rfl Try.underlying24 infoInt rfl (by decide) (by omega) u4 (filI s (blkP l0_0 l0_1)) (s:Int) [.int .i64 s] (fun k=>k<w3.heap.size∨w4.heap.size≤k) (fun _=>False) rfl rfl ?aP (fun _ hk=>hk.elim) ?aF ?aO ?aB ?aS ?aL ?_;(case aP=>exact rfl);(case aB=>exact HB5.out);(case aF=>exact(fun k hk=>Or.inr (Nat.le_trans HEr.out hk)));(case aO=>exact HO5.out);(case aS=>exact(below_size HB5.out));(case aL=>have:=filI_length s (blkP l0_0 l0_1);have:=HLT.out;have:=HM2.out;omega);intro v4n w21 ho hb hg hat;have HB6:=zqm hb;have HO6:=zqm ho;have HA6:=zqm (Kd.R_grown HA5.out hg (fun k hk he=>by have h2:=HO5.out.1 k he.symm;have:=hk.1;have:=hk.2;omega));have HE6:=zqm (show w4.heap.size≤w21.heap.size from Nat.le_trans HEr.out hg.size);clear ho hb hg hat HO5 HA5 HB5 HEr))
     go_roundg kn
     case measure=>omega
     case rel=>exact⟨s+1,zq144,⟨by have:=HK.out;omega⟩,⟨by omega⟩,⟨by have:=HLT.out;omega⟩,⟨by rw [filI_succ,if_pos HP.out];exact HO6.out⟩,HA6,HB6,HE6⟩
    ·obtain⟨cv,hcv⟩: ∃cv:Int,((comS l0_0 l0_1 s:Nat):Int)=cv:=⟨_,rfl⟩
     have hne:(cv==(s:Int))=false:=by rw [beq_eq_false_iff_ne,← hcv];omega
     have HCS:=zqm hcv
     have HP:=zqm (show blkP l0_0 l0_1 s=false by unfold blkP;rw [show (comS l0_0 l0_1 s==s)=false by simpa using hc,Bool.and_false])
     clear hc hcv
     go_wp2_with (go_at_call 20;(with_reducible refine(com_calls l0_1 HSM.out s zq173 Aa ca _ HC.out.1 HC.out.2).mono ?_);rintro e w' ⟨he,⟨⟨nd,rfl⟩⟩⟩;rw [HCS.out] at he;subst he;have HO5:=zqm (Kd.R_drewN HOr.out nd);have HA5:=zqm (Kd.R_drewN HAr.out nd);have HB5:=zqm (pw_below_drewN HBr.out nd);clear HOr HAr HBr HC hf0)
     go_roundg kn
     case measure=>omega
     case rel=>exact⟨s+1,zq144,⟨by have:=HK.out;omega⟩,⟨by omega⟩,⟨by have:=HLT.out;omega⟩,⟨by rw [filI_succ,if_neg (by rw [HP.out];simp)];exact HO5.out⟩,HA5,HB5,HEr⟩
   ·have hlt':decide ((s:Int)<mv)=false:=decide_eq_false (by rw [HMV.out];omega)
    obtain rfl:s=M:=by have:=HK2.out;omega
    clear hlt
    go_wp2_with fail
    go_ret
    exact⟨_,rfl,Kd.R_lower (Kd.R_mono (by have h:=HOr.out;rw [HM.out] at h;exact h) (fun _ _=>trivial)) (below_size HB2.out),below_step HB2.out (by repeat(first|exact HBr.out|apply pw_below_drewN|apply below_drew1))⟩
theorem natcast_beq (x y : Nat) : ((x : Int) == (y : Int)) = (x == y) := by rw [Bool.eq_iff_iff, beq_iff_eq, beq_iff_eq]; constructor <;> intro h <;> omega
theorem filI_all (n : Nat) (p : Nat → Bool) : ((filI n p).length == n) = allN n p := by
 rw [Bool.eq_iff_iff,beq_iff_eq,allN_iff]
 unfold filI
 rw [List.length_map]
 constructor
 ·intro h i hi
  have h2:((List.range n).filter p).length=(List.range n).length:=by rw [h];simp
  have:=List.length_filter_eq_length_iff.1 h2 i (by simpa using hi)
  exact this
 ·intro h
  rw [List.filter_eq_self.2 (fun i hi=>h i (by simpa using hi))]
  simp
theorem alg_split0.reads (g : Nat) (U : List (List Int)) (N : List Int) (v : Adr) (a : Int) (b : Int) (c : Int) (w : World) (L : Logic U N) (hV : View w g U N v) (ia : In U a) (ib : In U b) (ic : In U c) :
 Calls Try.prog 32 #[.pointer (some ⟨g,0,none⟩),.int .i64 a,.int .i64 b,.int .i64 c] w fun e w'=>e= .returned (.bool ((andI U a (orI U b c))==(orI U (andI U a b) (andI U a c))))∧Drawn0 w w':=by
 have hu70:=Try.underlying43
 have HV:=zqm hV
 have HLg:=zqm L
 have Ia:=zqm ia
 have Ib:=zqm ib
 have Ic:=zqm ic
 clear hV L ia ib ic
 have b0_:=eq_true Ib.out.1;have c0_:=eq_true Ib.out.2
 have b1_:=eq_true Ic.out.1;have c1_:=eq_true Ic.out.2
 have hf2_:=HV.out.f2
 have r3_:=HV.out.j b Ib.out
 have s4_:=HV.out.j2 b c Ib.out Ic.out
 have b5_:=eq_true Ia.out.1;have c5_:=eq_true Ia.out.2
 have IN1_:=zqm (HLg.out.in_or Ib.out Ic.out)
 have b6_:=eq_true IN1_.out.1;have c6_:=eq_true IN1_.out.2
 have hf1_:=HV.out.f1
 have r8_:=HV.out.m a Ia.out
 have s9_:=HV.out.m2 a (orI U b c) Ia.out IN1_.out
 have s10_:=HV.out.m2 a b Ia.out Ib.out
 have s11_:=HV.out.m2 a c Ia.out Ic.out
 have IN2_:=zqm (HLg.out.in_and Ia.out Ib.out)
 have b12_:=eq_true IN2_.out.1;have c12_:=eq_true IN2_.out.2
 have IN3_:=zqm (HLg.out.in_and Ia.out Ic.out)
 have b13_:=eq_true IN3_.out.1;have c13_:=eq_true IN3_.out.2
 have r14_:=HV.out.j (andI U a b) IN2_.out
 have s15_:=HV.out.j2 (andI U a b) (andI U a c) IN2_.out IN3_.out
 go_enter Try.func32,Try.ntmps32
 go_wp2_with fail
 go_quiet (fail)
 go_wp2
 go_ret
 exact⟨rfl,⟨⟨_,rfl⟩⟩⟩
theorem alg_split.reads (g : Nat) (U : List (List Int)) (N : List Int) (v : Adr) (a b c : Int) (w : World) (L : Logic U N) (hV : View w g U N v) (ia : In U a) (ib : In U b) (ic : In U c) :
 Calls Try.prog 32 #[.pointer (some ⟨g,0,none⟩),.int .i64 a,.int .i64 b,.int .i64 c] w fun e w'=>e= .returned (.bool (splitB U a b c))∧Drawn0 w w':=alg_split0.reads g U N v a b c w L hV ia ib ic
def booB (U : List (List Int)) : Bool := allN U.length fun a => allN U.length fun b => allN U.length fun c => splitB U a b c
theorem boo_c2 (g : Nat) (U : List (List Int)) (N : List Int) (v : Adr) (w : World) (L : Logic U N) (hV : View w g U N v) (gG gA gC : Nat) (a b c : Int) (ia : In U a) (ib : In U b) (ic : In U c)
 (hG:w.heap[gG]? =some (.cells #[.pointer (some ⟨g,0,none⟩)] 39 (0,0))) (hA:w.heap[gA]? =some (.cells #[.int .i64 a] 3 (0,0))) (hC:w.heap[gC]? =some (.cells #[.int .i64 c] 3 (0,0))):
 Calls Try.prog 31 #[.int .i64 b,.pointer (some ⟨gG,0,none⟩),.pointer (some ⟨gA,0,none⟩),.pointer (some ⟨gC,0,none⟩)] w fun e w'=>e= .returned (.bool (splitB U a c b))∧Below w.heap.size w w':=by
 have hu70:=Try.underlying43
 have HV:=zqm hV
 have HLg:=zqm L
 have Ia:=zqm ia
 have Ib:=zqm ib
 have Ic:=zqm ic
 have x0:w.cell? ⟨gG,0,none⟩=some (.pointer (some ⟨g,0,none⟩)):=(blk_cell hG 0).trans rfl
 have x1:w.cell? ⟨gA,0,none⟩=some (.int .i64 a):=(blk_cell hA 0).trans rfl
 have x2:w.cell? ⟨gC,0,none⟩=some (.int .i64 c):=(blk_cell hC 0).trans rfl
 clear hV L ia ib ic hG hA hC
 go_enter Try.func31,Try.ntmps31
 go_wp2_with (go_at_call 32;(with_reducible refine(alg_split.reads g U N v a c b _ HLg.out ?s1 Ia.out Ic.out Ib.out).mono ?_);(case s1=>repeat(first|exact HV.out|apply View.drewN));rintro e w' ⟨rfl,⟨⟨nd,rfl⟩⟩⟩)
 go_ret
 exact⟨rfl,by repeat(first|exact Below.refl _ _|apply pw_below_drewN|apply below_drew1)⟩
def boo_c1.T1 : Bool × List (List Nat × List Nat) := (true, [([], []), ([], []), ([0, 1], [0, 1]), ([2], [2]), ([], []), ([4], [4]), ([5], [5]), ([6], [6]), ([7], [7]), ([3, 8], [3, 8]), ([9, 2, 0, 1, 2, 3, 4, 5, 6, 7, 8, 9], [9])])
def boo_c1.B1 : List Nat := [0, 0, 3, 7, 0, 16, 48, 112, 240, 511, 1023]
theorem boo_c1.tab1 : rtab .any (opsOf Try.f29 1) = boo_c1.T1 := by kernel_rfl
theorem boo_c1.bits1 : waitsOk boo_c1.T1.2 boo_c1.B1 = true := by kernel_rfl
set_option maxHeartbeats 4000000 in
set_option maxRecDepth 100000 in
theorem boo_c1 (g : Nat) (U : List (List Int)) (N : List Int) (v : Adr) (w : World) (L : Logic U N) (hV : View w g U N v) (gG : Nat) (a c : Int) (ia : In U a) (ic : In U c) (hG : w.heap[gG]? = some (.cells #[.pointer (some ⟨g, 0, none⟩)] 39 (0, 0))) :
 Calls Try.prog 29 #[.int .i64 a,.int .i64 c,.pointer (some ⟨gG,0,none⟩)] w fun e w'=>e= .returned (.bool (allN U.length fun b=>splitB U a c b))∧Below w.heap.size w w':=by
 have hu70:=Try.underlying43
 have HV:=zqm hV
 have HLg:=zqm L
 have Ia:=zqm ia
 have Ic:=zqm ic
 have HG:=zqm hG
 clear hV L ia ic hG
 rw [← filI_all]
 go_enter Try.func29,Try.ntmps29
 go_wp2_with (first|((with_reducible refine gate_dst (N:=3) rfl ?_);refine box_event ?hg (N:=3) ?hd (cs:= #[.int .i64 a]) (t:=3) ?hr ?_;(case hd=>rfl);(case hg=>rfl);(case hr=> exact zq15);intro gA hg_ w1 hbox hb;have HXA:=zqm hbox;have HB1:=zqm hb;have HG1:=zqm (blk_below HG.out hb);have HV1:=zqm (HV.out.below hb);clear hbox hb hg_)|((with_reducible refine gate_dst (N:=4) rfl ?_);refine box_event ?hg (N:=4) ?hd (cs:= #[.int .i64 c]) (t:=3) ?hr ?_;(case hd=>rfl);(case hg=>rfl);(case hr=> exact zq15);intro gC hg_ w2 hbox hb;have HXC:=zqm hbox;have HB2:=zqm (below_step HB1.out hb);have HXA2:=zqm (blk_below HXA.out hb);have HG2:=zqm (blk_below HG1.out hb);have HV2:=zqm (HV1.out.below hb);clear HB1 HXA HG1 HV1;clear hbox hb hg_))
 refine start_ (n:=11) (S:=(fun w'=>w'.cell? ⟨gG,0,none⟩=some (.pointer (some ⟨g,0,none⟩))∧w'.cell? ⟨g,0,none⟩=some (.slice (some v.aU) U.length v.cU))) (ds:= []) (zqb 11 0) zqk rfl rfl ⟨(blk_cell (blk_drew HG2.out) 0).trans rfl,(HV2.out.below (below_drew1 (Below.refl _ _))).f0⟩ (fun hHeld=>?_)
 refine with_tabW boo_c1.tab1 boo_c1.bits1 (fun HT_ HW_=>?_)
 generalize hwd:w2.drew=wd at hHeld ⊢
 have HB3:=zqm (show Below w.heap.size w wd from hwd ▸ below_drew1 HB2.out)
 replace HG2:=zqm (hwd ▸ blk_drew HG2.out)
 replace HXA2:=zqm (hwd ▸ blk_drew HXA2.out)
 replace HXC:=zqm (hwd ▸ blk_drew HXC.out)
 replace HV2:=zqm (show View wd g U N v from hwd ▸ HV2.out.below (below_drew1 (Below.refl _ _)))
 clear hwd HB2
 refine zqw 0 6 (zqb 11 1) HT_ HW_ hHeld ?_
 refine zqp 1 7 (zqb 11 3) HT_ ?_
 refine zqw 4 10 (zqb 11 19) HT_ HW_ hHeld ?_
 refine zqp 5 11 (zqb 11 51) HT_ ?_
 refine zqp 6 12 (zqb 11 115) HT_ ?_
 refine zqw 7 13 (zqb 11 243) HT_ HW_ hHeld ?_
 refine zqp 8 14 (zqb 11 499) HT_ ?_
 refine one_ (i:=2) (N:=some 8) (zqb 11 503) rfl rfl (one_of HT_.out zqk) (by decide) (fun K hK=>?_)
 refine goes_ Try.func30 zqk rfl #[.pointer (some ⟨g,0,none⟩),.func (.func 31) #[] #[.pointer (some ⟨gG,0,none⟩),.pointer (some ⟨gA,0,none⟩),.pointer (some ⟨gC,0,none⟩)]] (by rfl) rfl rfl zq126 ?_
 refine(all_calls g U N v _ HLg.out.small HV2.out 31 _ _ Try.func31 zqk rfl (fun b:Nat=>splitB U a c b) (fun b hb W hW=>?_)).mono ?_
 ·exact boo_c2 g U N v W HLg.out (HV2.out.below hW) gG gA gC a b c Ia.out ⟨by omega,by omega⟩ Ic.out (blk_below HG2.out hW) (blk_below HXA2.out hW) (blk_below HXC.out hW)
 rintro e w4 ⟨vo,rfl,ho,hb⟩
 obtain⟨Ao,co,rfl⟩:=Kd.R_slice ho
 refine⟨_,rfl,?_⟩
 refine hK.out _ _ ⟨(blk_cell (blk_below HG2.out hb) 0).trans rfl,(HV2.out.below hb).f0⟩ (fun hHeld4=>?_)
 have HB4:=zqm (below_step HB3.out hb)
 clear hK K ho hb
 (try simp only [Act.put,List.setIfInBounds_toArray,List.set_cons_zero,List.set_cons_succ])
 refine zqp 3 9 (zqb 11 511) HT_ ?_
 refine zqp 9 15 (zqb 11 1023) HT_ ?_
 refine zqp 10 5 (zqb 11 2047) HT_ ?_
 refine done_ (done_of HT_.out zqk) ?_
 go_wp2
 go_ret
 refine⟨?_,by repeat(first|exact HB4.out|apply pw_below_drewN|apply below_drew1)⟩
 show Ending.returned (Value.bool (((filI U.length fun b=>splitB U a c (b:Int)).length:Int)==(U.length:Int)))=_
 rw [natcast_beq]
def impl_BooleanOk.f (l0_0 : List (List Int)) (l0_1 : List Int) : Option (Bool) := some (if logicB l0_0 l0_1 = true then booB l0_0 else false)
set_option maxHeartbeats 4000000 in
set_option maxRecDepth 100000 in
theorem impl_BooleanOk.calls (A0_0 : Option Addr) (c0_0 : Nat) (l0_0 : List (List Int)) (A0_1 : Option Addr) (c0_1 : Nat) (l0_1 : List Int) (r : Bool) (w : World) (hr0_0 : Kd.C (Kd.slice 3 (Kd.int .i64)) w A0_0 l0_0.length l0_0) (hc0_0 : l0_0.length ≤ c0_0) (hr0_1 : Kd.C (Kd.int .i64) w A0_1 l0_1.length l0_1) (hc0_1 : l0_1.length ≤ c0_1) (h : impl_BooleanOk.f l0_0 l0_1 = some r) :
 Calls Try.prog 12 #[.agg #[.slice A0_0 l0_0.length c0_0,.slice A0_1 l0_1.length c0_1]] w fun e w'=>e= .returned (.bool r)∧Below w.heap.size w w':=by
 obtain⟨k,hF⟩:=told_facts l0_0
 have hu30:=Try.underlying26
 have hu70:=Try.underlying43
 have HF:=zqm hF
 have HR0:=zqm hr0_0
 have HC0:=zqm hc0_0
 have HR1:=zqm hr0_1
 have HC1:=zqm hc0_1
 simp only [impl_BooleanOk.f,Option.some.injEq] at h
 clear hr0_0 hc0_0 hr0_1 hc0_1 hF
 cases hL:logicB l0_0 l0_1 with
 |false=>
  rw [hL] at h
  have hr_:false=r:=by simpa using h
  subst hr_
  have HLB:=zqm hL
  clear h hL
  go_enter Try.func12,Try.ntmps12
  go_wp2_with (first|((with_reducible refine gate_dst (N:=1) rfl ?_);refine box_event ?hg (N:=1) ?hd (cs:= #[.slice A0_0 l0_0.length c0_0,.slice A0_1 l0_1.length c0_1]) (t:=26) ?hr ?_;(case hd=>rfl);(case hg=>rfl);(case hr=> exact zq15);intro gb hg_ w1 hbox hb;have HB:=zqm hb;have hx0:w1.cell? ⟨gb,0,none⟩=some (.slice A0_0 l0_0.length c0_0):=(blk_cell hbox 0).trans rfl;have hx1:w1.cell? ⟨gb,1,none⟩=some (.slice A0_1 l0_1.length c0_1):=(blk_cell hbox 1).trans rfl;have HX:=zqm hbox;clear hbox hb hg_)|(go_at_call 18;(with_reducible refine(told_n k _ _ l0_0 _ _ l0_1 _ ?s1 ?s2 ?s3 ?s4 HF.out HLB.out).mono ?_);(case s1=> exact zq127);(case s2=>exact HC0.out);(case s3=> exact zq153);(case s4=>exact HC1.out);rintro e w2 ⟨rfl,hb⟩;have HB2:=zqm (below_step HB.out hb);clear hb hx0 hx1 HX HB))
  go_ret
  exact⟨rfl,zq148⟩
 |true=>
  rw [hL] at h
  have hr_:booB l0_0=r:=by simpa using h
  subst hr_
  have HLB:=zqm hL
  have HLg:=zqm (logicB_iff.1 hL)
  clear h hL
  go_enter Try.func12,Try.ntmps12
  go_wp2_with (first|((with_reducible refine gate_dst (N:=1) rfl ?_);refine box_event ?hg (N:=1) ?hd (cs:= #[.slice A0_0 l0_0.length c0_0,.slice A0_1 l0_1.length c0_1]) (t:=26) ?hr ?_;(case hd=>rfl);(case hg=>rfl);(case hr=> exact zq15);intro gb hg_ w1 hbox hb;have HB:=zqm hb;have hx0:w1.cell? ⟨gb,0,none⟩=some (.slice A0_0 l0_0.length c0_0):=(blk_cell hbox 0).trans rfl;have hx1:w1.cell? ⟨gb,1,none⟩=some (.slice A0_1 l0_1.length c0_1):=(blk_cell hbox 1).trans rfl;have HX:=zqm hbox;clear hbox hb hg_)|(go_at_call 18;(with_reducible refine(told_y k _ _ l0_0 _ _ l0_1 _ ?s1 ?s2 ?s3 ?s4 HF.out HLB.out).mono ?_);(case s1=> exact zq127);(case s2=>exact HC0.out);(case s3=> exact zq153);(case s4=>exact HC1.out);rintro e w2 ⟨g,v,rfl,hv,hge,hb⟩;have HB2:=zqm (below_step HB.out hb);have HV:=zqm hv;clear hv hge hb hx0 hx1 HX HB)|(go_at_call 28;(with_reducible refine(every_pure g l0_0 l0_1 v _ HLg.out.small ?sV 29 _ #[.pointer (some ⟨w2.heap.size,0,none⟩)] Try.func29 zqk rfl (fun a c=>allN l0_0.length fun b=>splitB l0_0 a c b) ?sT).mono ?_);(case sV=>exact HV.out.below (below_alloc (Below.refl _ _) _));(case sT=>exact fun a c ha hc W hW=>boo_c1 g l0_0 l0_1 v W HLg.out ((HV.out.below (below_alloc (Below.refl _ _) _)).below hW) w2.heap.size a c ⟨by omega,by omega⟩ ⟨by omega,by omega⟩ (blk_below (MapKept.heap_alloc w2 _).1 hW));rintro e w3 ⟨rfl,hb⟩;have HB3:=zqm (below_step (below_step HB2.out (below_alloc (Below.refl _ _) _)) hb);clear hb))
  go_ret
  exact⟨rfl,by repeat(first|exact HB3.out|apply pw_below_drewN|apply below_drew1)⟩
section
attribute [local go_sem] max2_int min2_int max_two min_two max_three min_three max_four min_four
theorem goesW_ {P : Program} {ops : Array Oper} {Q : Exit → Act → World → Prop} {oi : Oper} {N : Option Tmp} {a : Act} {w : World} {K : Act → World → Prop} {f : FuncId} {fn : Func} {x : Operand} {xo : Array Operand} {ts : Array TypeId} {cs : Array Value} (hf : P.funcs[f]? = some fn) (hname : (fn.name == "runtime.NumGoroutine") = false) (hb : fn.body.isSome = true) (args : Array Value)
 (hw : Region.wanted oi (yielded ops a.tmps) = true) (hN : oi.dst = N) (hop : oi.op = .call { callee := .value x, args := xo, argTypes := ts }) (hx : a.eval x = .func (.func f) #[] cs) (hargs : xo.map a.eval = args)
 (h : Calls P f (args ++ cs) w fun e w' => ∃ v, e = .returned v ∧ K (a.put N v) w') : if Region.wanted oi (yielded ops a.tmps) = true then Oper.wp P oi a w K Q else K (a.put N undef) w := by
 refine call_ f (args ++ cs) hw hN ?_ h
 have he := enters_ hf hname hb (args ++ cs) w
 unfold execOp
 simp [hop, resolve, Deferred.ofValue, invoke, hx, hargs, he]
section
variable (P : Int → Int → Option Bool) (Q : Int → Int) (D : Int → Bool)
mutual
def impl_made.l0 : Nat → Int → Int → Int → Int → List (List Int) → List Int → Option ((List (List Int)) × List Int)
 |0,_,_,_,_,_,_=>none
 |k+1,x0,x2,x11,x12,x1125000,x1125001=>if x12<x11 then(if 0≤x0∧D x12=true then(if(x0:Int).toNat≤35184372088832 then(impl_made.l1 k x0 x2 x12 (List.replicate (x0:Int).toNat 0) x11 x12 x0 0 x1125000 x1125001) else(none)) else(none)) else(some (x1125000,x1125001))
def impl_made.l1 : Nat → Int → Int → Int → List Int → Int → Int → Int → Int → List (List Int) → List Int → Option ((List (List Int)) × List Int)
 |0,_,_,_,_,_,_,_,_,_,_=>none
 |k+1,x0,x2,x8,x9,x11,x12,x17,x18,x1125000,x1125001=>if x18<x17 then((P x8 x18).bind fun t1128=>(if t1128=true then(if 0≤x18 then(if x18<(x9.length:Int) then(impl_made.l1 k x0 x2 x8 (x9.set (x18:Int).toNat 1) x11 x12 x17 (wrap64 (x18+1)) x1125000 x1125001) else(none)) else(none)) else(impl_made.l1 k x0 x2 x8 x9 x11 x12 x17 (wrap64 (x18+1)) x1125000 x1125001))) else(if x1125000.length<5864062014805 then(if x1125001.length<17592186044416 then(impl_made.l0 k x0 x2 x11 (wrap64 (x12+1)) (x1125000 ++ [x9]) (x1125001 ++ [Q x8])) else(none)) else(none))
end
def impl_made.f (k : Nat) (a0 : Int) (a1 : Int) (a2 : Int) : Option ((List (List Int)) × List Int) := impl_made.l0 P Q D k a0 a2 a0 0 ([] : List (List Int)) ([] : List Int)
def impl_made.T13 : Bool × List (List Nat × List Nat) := (true, [([], []), ([0], [0]), ([], []), ([], []), ([2, 3], [2, 3]), ([4], [4]), ([1, 5, 4], [1, 5]), ([0, 1, 2, 3, 4, 5, 6], []), ([7, 6, 6, 0, 1, 2, 3, 4, 5, 6], [6, 7])])
def impl_made.B13 : List Nat := [0, 1, 0, 0, 12, 28, 63, 127, 255]
theorem impl_made.tab13 : rtab .any (opsOf Try.f35 13) = impl_made.T13 := by kernel_rfl
theorem impl_made.bits13 : waitsOk impl_made.T13.2 impl_made.B13 = true := by kernel_rfl
set_option maxHeartbeats 8000000 in
set_option maxRecDepth 100000 in
theorem impl_made.calls (k : Nat) (a0 : Int) (a2 : Int) (fu fn : Nat) (Fu Fn : Func) (cu cn : Array Value) (hf1 : Try.prog.funcs[fu]? = some Fu) (hn1 : (Fu.name == "runtime.NumGoroutine") = false) (hb1 : Fu.body.isSome = true) (hf2 : Try.prog.funcs[fn]? = some Fn) (hn2 : (Fn.name == "runtime.NumGoroutine") = false) (hb2 : Fn.body.isSome = true) (r1 : List (List Int)) (r2 : List Int) (w : World) (hu : ∀ (x y : Int) (b : Bool) (W : World), P x y = some b → Below w.heap.size w W → Calls Try.prog fu (#[.int .i64 x, .int .i64 y] ++ cu) W fun e w' => e = .returned (.bool b) ∧ Drawn0 W w') (hv : ∀ (x : Int) (W : World), D x = true → Below w.heap.size w W → Calls Try.prog fn (#[.int .i64 x] ++ cn) W fun e w' => e = .returned (.int .i64 (Q x)) ∧ Drawn0 W w') (h : impl_made.f P Q D k a0 0 a2 = some (r1, r2)) :
 Calls Try.prog 35 #[.int .i64 a0, .func (.func fu) #[] cu, .func (.func fn) #[] cn] w fun e w' => ∃ v0_ v1_ : Value, e = .returned (.agg #[v0_, v1_]) ∧ Kd.S (Kd.slice 3 (Kd.int .i64)) 24 w' w.heap.size (fun k_ => some k_ ≠ (v1_ : Value).ownBlock) v0_ r1 ∧ Kd.R (Kd.int .i64) 3 w' w.heap.size (fun _ => True) v1_ r2 ∧ Below w.heap.size w w' := by
 have hu30 := Try.underlying26
 have HB := Aside0.mk (Below.refl w.heap.size w)
 have HF1 := Aside0.mk hf1
 have HN1 := Aside0.mk hn1
 have HD1 := Aside0.mk hb1
 have HF2 := Aside0.mk hf2
 have HN2 := Aside0.mk hn2
 have HD2 := Aside0.mk hb2
 have HU := Aside0.mk hu
 have HV := Aside0.mk hv
 clear hf1 hn1 hb1 hf2 hn2 hb2 hu hv
 have H : (impl_made.l0 P Q D k a0 a2 a0 0 ([] : List (List Int)) ([] : List Int)) = some (r1, r2) := h
 clear h
 have H' := Aside0.mk H
 clear H
 go_enter Try.func35, Try.ntmps35
 go_wp2_with (first | ((with_reducible refine gate_dst (N := 6) rfl ?_); refine box_event ?hg (N := 6) ?hd (cs := #[.slice none 0 0, .slice none 0 0]) (t := 26) ?hr ?_; (case hd => rfl); (case hg => rfl); (case hr => exact zq151); intro gb1123 hg w4 hbox hb; have n0_ := Aside0.mk (below_step zq47 hb); have n1_ := Aside0.mk (hbox); have n2_ := Aside0.mk ((by rw [hg]; exact (below_size zq47) : w.heap.size ≤ gb1123)); have n3_ := Aside0.mk ((by rw [hg]; exact (below_size zq47) : w.heap.size ≤ gb1123)); clear HB; have HB := n0_; have BK1123 := n1_; have GW1123 := n2_; have GE1123 := n3_; clear n0_ n1_ n2_ n3_; clear hb hbox hg) | ((with_reducible refine gate_dst (N := 7) rfl ?_); refine box_event ?hg (N := 7) ?hd (cs := #[.slice none 0 0, .slice none 0 0]) (t := 26) ?hr ?_; (case hd => rfl); (case hg => rfl); (case hr => exact zq151); intro gb1124 hg w5 hbox hb; have n0_ := Aside0.mk (blk_below (g := gb1123) (o := .cells #[.slice none 0 0, .slice none 0 0] 26 (0, 0)) (zqe BK1123.out) hb); have n1_ := Aside0.mk (below_step zq67 hb); have n2_ := Aside0.mk (hbox); have n3_ := Aside0.mk ((by rw [hg]; exact (below_size zq67) : w.heap.size ≤ gb1124)); have n4_ := Aside0.mk ((by rw [hg]; exact (below_size zq67) : w.heap.size ≤ gb1124)); have n5_ := Aside0.mk ((by rw [hg]; exact Nat.ne_of_lt (blk_lt (g := gb1123) (o := .cells #[.slice none 0 0, .slice none 0 0] 26 (0, 0)) (zqe BK1123.out)) : gb1123 ≠ gb1124)); have n6_ := Aside0.mk ((by rw [hg]; exact Nat.ne_of_gt (blk_lt (g := gb1123) (o := .cells #[.slice none 0 0, .slice none 0 0] 26 (0, 0)) (zqe BK1123.out)) : gb1124 ≠ gb1123)); clear BK1123; clear HB; have BK1123 := n0_; have HB := n1_; have BK1124 := n2_; have GW1124 := n3_; have GE1124 := n4_; have NB1123_1124 := n5_; have NB1124_1123 := n6_; clear n0_ n1_ n2_ n3_ n4_ n5_ n6_; clear hb hbox hg))
 go_loopg [12] k (fun kq v12 w' => ∃ (x12_1 : Int) (x1125000_1 : List (List Int)) (x1125001_1 : List Int) (u1125000 : Value) (u1125001 : Value), v12 = .int .i64 x12_1 ∧ Aside0 (impl_made.l0 P Q D kq a0 a2 a0 x12_1 x1125000_1 x1125001_1 = some (r1, r2)) ∧ Aside0 (kq ≤ k) ∧ Aside0 (Kd.S (Kd.slice 3 (Kd.int .i64)) 24 w' w.heap.size (fun k_ => some k_ ≠ (u1125001 : Value).ownBlock) u1125000 x1125000_1) ∧ Aside0 (Kd.R (Kd.int .i64) 3 w' w.heap.size (fun _ => True) u1125001 x1125001_1) ∧ Aside0 (w'.heap[gb1123]? = some (.cells #[(.slice none 0 0), (.slice none 0 0)] 26 (0, 0))) ∧ Aside0 (w'.heap[gb1124]? = some (.cells #[u1125000, u1125001] 26 (0, 0))) ∧ Aside0 (Below w.heap.size w w'))
 case atStart => exact ⟨(0), (([] : List (List Int))), (([] : List Int)), (.slice none 0 0), (.slice none 0 0), zq87, H', ⟨Nat.le_refl _⟩, ⟨by first | exact Kd.S_nil _ _ _ _ _ | exact Kd.N_nil _ _ _ _ _ | exact Kd.V_nil _ _ _ _ _ | exact Kd.Q_nil _ _ _ _ _ | exact Kd.R_nil _ _ _ _ _⟩, ⟨by first | exact Kd.R_nil _ _ _ _ _ | exact Kd.N_nil _ _ _ _ _ | exact Kd.V_nil _ _ _ _ _ | exact Kd.Q_nil _ _ _ _ _ | exact Kd.S_nil _ _ _ _ _⟩, ⟨zqe BK1123.out⟩, ⟨zqe BK1124.out⟩, ⟨zq19⟩⟩
 case round =>
  clear H'
  try clear c1
  try clear p2
  obtain ⟨x12_1, x1125000_1, x1125001_1, u1125000, u1125001, rfl, HA, HK1, HO_1125000, HO_1125001, BK1123, BK1124, HB⟩ := hrel
  cases gk with
  | zero => exact absurd HA.out (by simp [impl_made.l0])
  | succ k1 =>
   have H := HA.out
   clear HA
   simp only [impl_made.l0] at H
   by_cases c6 : x12_1 < a0
   ·rw [if_pos c6] at H
    have c6b0 : decide (x12_1 < a0) = true := decide_eq_true c6
    clear c6
    by_cases c7_ : 0 ≤ a0 ∧ D x12_1 = true
    ·rw [if_pos c7_] at H
     have HDx := Aside0.mk c7_.2
     have c7 := c7_.1
     clear c7_
     have c7b0 := eq_true c7
     have c7b1 : decide (0 ≤ a0) = true := decide_eq_true c7
     clear c7
     by_cases c8 : (a0 : Int).toNat ≤ 35184372088832
     ·rw [if_pos c8] at H
      have c8b0 := eq_true c8
      have c8b1 : decide ((a0 : Int).toNat ≤ 35184372088832) = true := decide_eq_true c8
      clear c8
      obtain ⟨y1125, hy1125⟩ : ∃ y_ : List Int, y_ = (List.replicate (a0 : Int).toNat 0) := ⟨_, rfl⟩
      replace H : (impl_made.l1 P Q D k1 a0 a2 x12_1 y1125 a0 x12_1 a0 0 x1125000_1 x1125001_1) = some (r1, r2) := zqy hy1125 H
      have Ny1125 := Aside0.mk hy1125
      clear hy1125
      have H' := Aside0.mk H
      clear H
      go_wp2_with (first | ((with_reducible refine gate_dst (N := 16) rfl ?_); refine Kd.R_make (Kd.int .i64) _ 3 rfl (N := 16) rfl 24 _ _ rfl a0 rfl rfl Try.underlying24 (.int .i64 0) 8 info3 rfl (by decide) (by omega) 0 (ok := fun _ => True) (okp := fun _ => True) rfl (fun _ hk => hk) trivial (of_decide_eq_true zq112) (Nat.le_trans (Nat.mul_le_mul_right _ (of_decide_eq_true zq112 : a0.toNat ≤ 35184372088832)) (by omega)) (Below.refl _ _) (Nat.le_refl _) ?_; intro v1126 w9 ho10 hb hg_ hnew_; clear hg_ hnew_; (first | rw [← Ny1125.out] at ho10 | (simp only [Int.reduceToNat] at ho10; rw [← Ny1125.out] at ho10)); have n0_ := Aside0.mk (Kd.S_elder' (zqfS HO_1125000.out) (Kd.R_base ho10) hb); have n1_ := Aside0.mk (Kd.R_elder' (zqfR HO_1125001.out) (Kd.R_base ho10) hb); have n2_ := Aside0.mk (Kd.R_lower (Kd.R_new' ho10 (Kd.R_lt (zqfR HO_1125001.out))) (below_size zq19)); have n3_ := Aside0.mk (blk_below (g := gb1123) (o := .cells #[.slice none 0 0, .slice none 0 0] 26 (0, 0)) (zqe BK1123.out) hb); have n4_ := Aside0.mk (blk_below (g := gb1124) (o := .cells #[u1125000, u1125001] 26 (0, 0)) (zqe BK1124.out) hb); have n5_ := Aside0.mk (below_step zq19 hb); clear HO_1125000; clear HO_1125001; clear BK1123; clear BK1124; clear HB; have HO_1125000 := n0_; have HO_1125001 := n1_; have HO1127 := n2_; have BK1123 := n3_; have BK1124 := n4_; have HB := n5_; clear n0_ n1_ n2_ n3_ n4_ n5_; clear hb ho10))
      go_loopg [18] k1 (fun kq v18 w' => ∃ (x9_2 : List Int) (x18_2 : Int), v18 = .int .i64 x18_2 ∧ Aside0 (impl_made.l1 P Q D kq a0 a2 x12_1 x9_2 a0 x12_1 a0 x18_2 x1125000_1 x1125001_1 = some (r1, r2)) ∧ Aside0 (kq ≤ k1) ∧ Aside0 (Kd.R (Kd.int .i64) 3 w' w.heap.size (fun k_ => some k_ ≠ (u1125001 : Value).ownBlock) v1126 x9_2) ∧ Aside0 (Kd.S (Kd.slice 3 (Kd.int .i64)) 24 w' w.heap.size (fun k_ => some k_ ≠ (v1126 : Value).ownBlock ∧ some k_ ≠ (u1125001 : Value).ownBlock) u1125000 x1125000_1) ∧ Aside0 (Kd.R (Kd.int .i64) 3 w' w.heap.size (fun k_ => some k_ ≠ (v1126 : Value).ownBlock) u1125001 x1125001_1) ∧ Aside0 (w'.heap[gb1123]? = some (.cells #[(.slice none 0 0), (.slice none 0 0)] 26 (0, 0))) ∧ Aside0 (w'.heap[gb1124]? = some (.cells #[u1125000, u1125001] 26 (0, 0))) ∧ Aside0 (Below w.heap.size w w'))
      case atStart => exact ⟨(y1125), (0), zq87, H', ⟨Nat.le_refl _⟩, ⟨by refine zqfR ?_; exact Kd.R_mono HO1127.out (fun _ hk => hk.2)⟩, ⟨zq89⟩, ⟨by refine zqfR ?_; exact Kd.R_mono HO_1125001.out (fun _ hk => hk.2)⟩, ⟨zqe BK1123.out⟩, ⟨zqe BK1124.out⟩, ⟨zq19⟩⟩
      case round =>
       clear H'
       try clear c1
       try clear p2
       try clear c6
       try clear c6b0
       try clear c7
       try clear c7b0
       try clear c7b1
       try clear c8
       try clear c8b0
       try clear c8b1
       try clear c10
       try clear p2
       obtain ⟨x9_2, x18_2, rfl, HA, HK2, HO_9, HO_1125000, HO_1125001, BK1123, BK1124, HB⟩ := hrel
       cases gk with
       | zero => exact absurd HA.out (by simp [impl_made.l1])
       | succ k2 =>
        have H := HA.out
        clear HA
        simp only [impl_made.l1] at H
        by_cases c11 : x18_2 < a0
        ·rw [if_pos c11] at H
         have c11b0 : decide (x18_2 < a0) = true := decide_eq_true c11
         clear c11
         replace H := Option.bind_eq_some_iff.mp H
         obtain ⟨t1128, A120, H⟩ := H
         replace H : (if t1128 = true then (if 0 ≤ x18_2 then (if x18_2 < (x9_2.length : Int) then (impl_made.l1 P Q D k2 a0 a2 x12_1 (x9_2.set (x18_2 : Int).toNat 1) a0 x12_1 a0 (wrap64 (x18_2 + 1)) x1125000_1 x1125001_1) else (none)) else (none)) else (impl_made.l1 P Q D k2 a0 a2 x12_1 x9_2 a0 x12_1 a0 (wrap64 (x18_2 + 1)) x1125000_1 x1125001_1)) = some (r1, r2) := H
         have A12 := Aside0.mk A120
         clear A120
         by_cases c13 : t1128 = true
         ·subst c13
          have H1 : (if 0 ≤ x18_2 then (if x18_2 < (x9_2.length : Int) then (impl_made.l1 P Q D k2 a0 a2 x12_1 (x9_2.set (x18_2 : Int).toNat 1) a0 x12_1 a0 (wrap64 (x18_2 + 1)) x1125000_1 x1125001_1) else (none)) else (none)) = some (r1, r2) := by rw [if_pos rfl] at H; exact H
          clear H
          have H := H1
          clear H1
          by_cases c14 : 0 ≤ x18_2
          ·rw [if_pos c14] at H
           have c14b0 : decide (0 ≤ x18_2) = true := decide_eq_true c14
           clear c14
           by_cases c15 : x18_2 < (x9_2.length : Int)
           ·rw [if_pos c15] at H
            have c15b0 : decide (x18_2 < (x9_2.length : Int)) = true := decide_eq_true c15
            clear c15
            obtain ⟨y1129, hy1129⟩ : ∃ y_ : List Int, y_ = (x9_2.set (x18_2 : Int).toNat 1) := ⟨_, rfl⟩
            replace H : (impl_made.l1 P Q D k2 a0 a2 x12_1 y1129 a0 x12_1 a0 (wrap64 (x18_2 + 1)) x1125000_1 x1125001_1) = some (r1, r2) := zqy hy1129 H
            have Ny1129 := Aside0.mk hy1129
            clear hy1129
            have H' := Aside0.mk H
            clear H
            go_wp2_with (first | (refine goesV_ (some 24) rfl rfl HF1.out HN1.out HD1.out #[.int .i64 x12_1, .int .i64 x18_2] rfl rfl zq57 ?_; refine (HU.out x12_1 x18_2 _ _ A12.out zq47).mono ?_; rintro e w' ⟨rfl, ⟨nd, rfl⟩⟩; refine ⟨_, rfl, ?_⟩; (try (rw [drewN_self wr]; generalize hq_ : World.drewN wr _ = wr; have n0_ : Aside0 (Kd.S (Kd.slice 3 (Kd.int .i64)) 24 wr w.heap.size (fun k_ => some k_ ≠ (u1125001 : Value).ownBlock ∧ some k_ ≠ (v1126 : Value).ownBlock) u1125000 x1125000_1) := ⟨by rw [← hq_]; exact zq89⟩; have n1_ : Aside0 (Kd.R (Kd.int .i64) 3 wr w.heap.size (fun k_ => some k_ ≠ (v1126 : Value).ownBlock) u1125001 x1125001_1) := ⟨by rw [← hq_]; exact (zqfR HO_1125001.out)⟩; have n2_ : Aside0 (Kd.R (Kd.int .i64) 3 wr w.heap.size (fun k_ => some k_ ≠ (u1125001 : Value).ownBlock) v1126 x9_2) := ⟨by rw [← hq_]; exact (zqfR HO_9.out)⟩; have n3_ : Aside0 (wr.heap[gb1123]? = some (.cells #[.slice none 0 0, .slice none 0 0] 26 (0, 0))) := ⟨by rw [← hq_]; exact (zqe BK1123.out)⟩; have n4_ : Aside0 (wr.heap[gb1124]? = some (.cells #[u1125000, u1125001] 26 (0, 0))) := ⟨by rw [← hq_]; exact (zqe BK1124.out)⟩; have n5_ : Aside0 (Below w.heap.size w wr) := ⟨by rw [← hq_]; exact zq19⟩; clear HO_1125000 HO_1125001 HO_9 BK1123 BK1124 HB hq_; have HO_1125000 := n0_; have HO_1125001 := n1_; have HO_9 := n2_; have BK1123 := n3_; have BK1124 := n4_; have HB := n5_; clear n0_ n1_ n2_ n3_ n4_ n5_)); have p16 : 0 ≤ (x18_2 : Int) := of_decide_eq_true zq112; have q16 : (x18_2 : Int) < ((x9_2.length : Int) : Int) := of_decide_eq_true zq112; obtain ⟨go16, co16, eo16, gb16, gl16, cl16, HG16⟩ := Kd.R_form HO_9.out (by omega); (first | cases eo16 | (injection eo16 with ea_ en_ ec_; (first | subst ea_ | (injection ea_ with ea_; subst ea_)); subst ec_; clear en_)); have GB16 := Aside0.mk gb16; have GG16 := Aside0.mk HG16; clear gb16 gl16 HG16; obtain ⟨hx16_0, hf16_0⟩ := Kd.R_celln 0 HO_9.out (x18_2 : Int) p16 q16; replace p16 := eq_true p16; replace q16 := eq_true q16; obtain ⟨hy17_, hz17_⟩ := Kd.R_celln 0 HO_9.out (x18_2 : Int) (of_decide_eq_true zq112) (of_decide_eq_true zq112); have HP17 := Kd.R_putg HO_9.out (x18_2 : Int) 1) | ((with_reducible refine gate_store (t := 3) (p := 27) rfl ?_); refine store_event (t := 3) (p := 27) (v := ?vo_w18) (w1 := (wr.setCell ⟨go16, (x18_2 : Int).toNat, none⟩ (.int .i64 1))) ?hg ?ho ?hn ?hr ?_; (case ho => rfl); (case hg => rfl); (case hn => rfl); (case hr => exact zq151); intro w18 hw; have hg : wr.grownBy w18 (some go16) := (by rw [hw]; exact HP17.2); have hp_ : Kd.R (Kd.int .i64) 3 w18 w.heap.size (fun k_ => some k_ ≠ (u1125001 : Value).ownBlock) (.slice (some ⟨go16, 0, none⟩) x9_2.length co16) y1129 := (by rw [hw, Ny1129.out]; exact HP17.1); clear HP17; have n0_ := Aside0.mk (hp_); have n1_ := Aside0.mk (Kd.S_after (v := (.slice (some ⟨go16, 0, none⟩) x9_2.length co16)) (v1 := (.slice (some ⟨go16, 0, none⟩) x9_2.length co16)) (ok := (fun k_ => some k_ ≠ (u1125001 : Value).ownBlock)) zq89 hg (.inl rfl)); have n2_ := Aside0.mk (Kd.R_after (v := (.slice (some ⟨go16, 0, none⟩) x9_2.length co16)) (v1 := (.slice (some ⟨go16, 0, none⟩) x9_2.length co16)) (ok := (fun _ => True)) (by refine zqfR ?_; exact Kd.R_mono HO_1125001.out (fun _ hk => ⟨trivial, hk⟩)) hg (.inl rfl)); have n3_ := Aside0.mk (blk_grown (g := gb1123) (o := .cells #[.slice none 0 0, .slice none 0 0] 26 (0, 0)) (zqe BK1123.out) hg (Kd.R_ne HO_9.out BK1123.out (by decide))); have n4_ := Aside0.mk (blk_grown (g := gb1124) (o := .cells #[u1125000, u1125001] 26 (0, 0)) (zqe BK1124.out) hg (Kd.R_ne HO_9.out BK1124.out (by decide))); have n5_ := Aside0.mk ((by rw [hw]; exact below_set (HB.out) GB16.out : Below w.heap.size w w18)); clear HO_9; clear HO_1125000; clear HO_1125001; clear BK1123; clear BK1124; clear HB; have HO_9 := n0_; have HO_1125000 := n1_; have HO_1125001 := n2_; have BK1123 := n3_; have BK1124 := n4_; have HB := n5_; clear n0_ n1_ n2_ n3_ n4_ n5_; clear hg hw hp_))
            go_roundg k2
            case measure => have := HK1.out; have := HK2.out; omega
            case rel => exact ⟨(y1129), (wrap64 (x18_2 + 1)), zq87, H', ⟨zq177⟩, ⟨zqfR HO_9.out⟩, ⟨zq89⟩, ⟨by refine zqfR ?_; exact Kd.R_mono HO_1125001.out (fun _ hk => hk.2)⟩, ⟨zqe BK1123.out⟩, ⟨zqe BK1124.out⟩, ⟨zq19⟩⟩
           ·rw [if_neg c15] at H
            exact absurd H (by simp)
          ·rw [if_neg c14] at H
           exact absurd H (by simp)
         ·replace c13 := Bool.eq_false_iff.mpr c13
          subst c13
          have H1 : (impl_made.l1 P Q D k2 a0 a2 x12_1 x9_2 a0 x12_1 a0 (wrap64 (x18_2 + 1)) x1125000_1 x1125001_1) = some (r1, r2) := by rw [if_neg (show ¬ (false = true) by decide)] at H; exact H
          clear H
          have H := H1
          clear H1
          have H' := Aside0.mk H
          clear H
          go_wp2_with (first | (refine goesV_ (some 24) rfl rfl HF1.out HN1.out HD1.out #[.int .i64 x12_1, .int .i64 x18_2] rfl rfl zq57 ?_; refine (HU.out x12_1 x18_2 _ _ A12.out zq47).mono ?_; rintro e w' ⟨rfl, ⟨nd, rfl⟩⟩; refine ⟨_, rfl, ?_⟩))
          go_roundg k2
          case measure => have := HK1.out; have := HK2.out; omega
          case rel => exact ⟨(x9_2), (wrap64 (x18_2 + 1)), zq87, H', ⟨zq177⟩, ⟨zqfR HO_9.out⟩, ⟨zqfS HO_1125000.out⟩, ⟨zqfR HO_1125001.out⟩, ⟨zqe BK1123.out⟩, ⟨zqe BK1124.out⟩, ⟨zq19⟩⟩
        ·rw [if_neg c11] at H
         have c11b0 : decide (x18_2 < a0) = false := decide_eq_false c11
         clear c11
         by_cases c19 : x1125000_1.length < 5864062014805
         ·rw [if_pos c19] at H
          have LMc19 := Aside0.mk c19
          clear c19
          obtain ⟨y1130, hy1130⟩ : ∃ y_ : List (List Int), y_ = (x1125000_1 ++ [x9_2]) := ⟨_, rfl⟩
          replace H : (if x1125001_1.length < 17592186044416 then (impl_made.l0 P Q D k2 a0 a2 a0 (wrap64 (x12_1 + 1)) y1130 (x1125001_1 ++ [Q x12_1])) else (none)) = some (r1, r2) := zqy hy1130 H
          have Ny1130 := Aside0.mk hy1130
          clear hy1130
          by_cases c20 : x1125001_1.length < 17592186044416
          ·rw [if_pos c20] at H
           have LMc20 := Aside0.mk c20
           clear c20
           obtain ⟨y1133, hy1133⟩ : ∃ y_ : List Int, y_ = (x1125001_1 ++ [Q x12_1]) := ⟨_, rfl⟩
           replace H : (impl_made.l0 P Q D k2 a0 a2 a0 (wrap64 (x12_1 + 1)) y1130 y1133) = some (r1, r2) := zqy hy1133 H
           have Ny1133 := Aside0.mk hy1133
           clear hy1133
           have H' := Aside0.mk H
           clear H
           have hnb21 := NB1124_1123.out
           have hnc21 := NB1123_1124.out
           have hcz22_0 : wr.cell? ⟨gb1124, 0, none⟩ = some (u1125000) := (blk_cell BK1124.out 0).trans rfl
           have hcz22_1 : wr.cell? ⟨gb1124, 1, none⟩ = some (u1125001) := (blk_cell BK1124.out 1).trans rfl
           have hfz22_0 := blk_frozen BK1124.out 0
           have hfz22_1 := blk_frozen BK1124.out 1
           obtain ⟨Ao24, co24, eo24⟩ := Kd.R_slice HO_9.out
           subst eo24
           try go_wp2_with (first | ((with_reducible refine gate_builtin (b := .append) (xs := #[.tmp 30, .tmp 32]) rfl ?_); at_builtin; refine Kd.S_append (Kd.slice 3 (Kd.int .i64)) (w0 := w) w.heap.size rfl (.tmp 30) (.tmp 32) 23 24 (.slice none 0 0) 24 rfl Try.underlying23 info24 rfl (by decide) (by omega) u1125000 x1125000_1 x9_2 [.slice Ao24 x9_2.length co24] (fun k_ => some k_ ≠ (u1125001 : Value).ownBlock) (fun k_ => some k_ = (.slice Ao24 x9_2.length co24 : Value).ownBlock) rfl rfl ?aP (fun k_ hk_ => ((Kd.R_mono (ok' := fun k_ => ((fun k_ => some k_ ≠ (u1125001 : Value).ownBlock)) k_ ∧ some k_ ≠ (u1125000 : Value).ownBlock) (Kd.R_apart' (HO_9.out) (Kd.S_typed HO_1125000.out) (by decide)) (fun k_ hk => ⟨hk.1, hk.2⟩))).1 k_ hk_.symm) ?aF ?aO ?aB ?aS ?aL ?_; (case aP => exact Kd.M_row (Kd.R_mono (Kd.R_tight rfl (Kd.R_mono (ok' := fun k_ => ((fun k_ => some k_ ≠ (u1125001 : Value).ownBlock)) k_ ∧ some k_ ≠ (u1125000 : Value).ownBlock) (Kd.R_apart' (HO_9.out) (Kd.S_typed HO_1125000.out) (by decide)) (fun k_ hk => ⟨hk.1, hk.2⟩))) (fun _ h_ => h_))); (case aB => exact zq86); (case aF => exact (fun k_ hk => Kd.fresh' (Kd.R_lt (zqfR HO_1125001.out)) k_ hk)); (case aO => exact (by refine zqfS ?_; exact Kd.S_mono HO_1125000.out (fun k_ hk => ⟨hk.2, fun e_ => hk.1 e_⟩))); (case aS => exact zq77); (case aL => have := LMc19.out; omega); intro v1131 w23 ho hb hg hat; rw [← Ny1130.out] at ho; have n0_ := Aside0.mk (Kd.R_over' (zqfR HO_1125001.out) (Kd.S_typed (zqfS HO_1125000.out)) (by decide) hg); have n1_ := Aside0.mk (blk_grown (g := gb1123) (o := .cells #[.slice none 0 0, .slice none 0 0] 26 (0, 0)) (zqe BK1123.out) hg (Kd.S_ne HO_1125000.out BK1123.out (by decide))); have n2_ := Aside0.mk (blk_grown (g := gb1124) (o := .cells #[u1125000, u1125001] 26 (0, 0)) (zqe BK1124.out) hg (Kd.S_ne HO_1125000.out BK1124.out (by decide))); have n3_ := Aside0.mk (hb); have n4_ := Aside0.mk (ho); clear HO_1125001; clear BK1123; clear BK1124; clear HB; clear HO_1125000; clear HO_9; have HO_1125001 := n0_; have BK1123 := n1_; have BK1124 := n2_; have HB := n3_; have HO1132 := n4_; clear n0_ n1_ n2_ n3_ n4_; clear ho hb hg hat; obtain ⟨Ao25, co25, eo25⟩ := Kd.S_slice HO1132.out; subst eo25; have hcz26_0 : w23.cell? ⟨gb1124, 0, none⟩ = some (u1125000) := (blk_cell BK1124.out 0).trans rfl; have hcz26_1 : w23.cell? ⟨gb1124, 1, none⟩ = some (u1125001) := (blk_cell BK1124.out 1).trans rfl; have hfz26_0 := blk_frozen BK1124.out 0; have hfz26_1 := blk_frozen BK1124.out 1))
           have n0_ : Aside0 (Kd.R (Kd.int .i64) 3 (w23.setCell ⟨gb1124, 0, none⟩ (.slice Ao25 y1130.length co25)) w.heap.size (fun _ => True) u1125001 x1125001_1) := ⟨by refine zqfR ?_; exact Kd.R_mono (Kd.R_far (p := ⟨gb1124, 0, none⟩) (Kd.R_types HO_1125001.out BK1124.out (by decide)) (fun _ hk => hk.2) (.slice Ao25 y1130.length co25)) (fun _ hk => trivial)⟩
           have n1_ : Aside0 (Kd.S (Kd.slice 3 (Kd.int .i64)) 24 (w23.setCell ⟨gb1124, 0, none⟩ (.slice Ao25 y1130.length co25)) w.heap.size (fun k_ => some k_ ≠ (u1125001 : Value).ownBlock) (.slice Ao25 y1130.length co25) y1130) := ⟨by refine zqfS ?_; exact Kd.S_mono (Kd.S_far (p := ⟨gb1124, 0, none⟩) (Kd.S_types HO1132.out BK1124.out (by decide)) (fun _ hk => hk.2) (.slice Ao25 y1130.length co25)) (fun _ hk => hk.1)⟩
           have n2_ : Aside0 ((w23.setCell ⟨gb1124, 0, none⟩ (.slice Ao25 y1130.length co25)).heap[gb1123]? = some (.cells #[.slice none 0 0, .slice none 0 0] 26 (0, 0))) := ⟨zq150⟩
           have n3_ : Aside0 ((w23.setCell ⟨gb1124, 0, none⟩ (.slice Ao25 y1130.length co25)).heap[gb1124]? = some (.cells #[.slice Ao25 y1130.length co25, u1125001] 26 (0, 0))) := ⟨by refine zqe ?_; refine blk_put (cs := #[u1125000, u1125001]) ?_ 0 _ rfl; refine zqe ?_; exact BK1124.out⟩
           have n4_ : Aside0 (Below w.heap.size w (w23.setCell ⟨gb1124, 0, none⟩ (.slice Ao25 y1130.length co25))) := ⟨zq19⟩
           (try clear HO_1125001)
           (try clear HO1132)
           (try clear BK1123)
           (try clear BK1124)
           (try clear HB)
           generalize (w23.setCell ⟨gb1124, 0, none⟩ (.slice Ao25 y1130.length co25)) = w27 at n0_ n1_ n2_ n3_ n4_ ⊢
           have HO_1125001 := n0_
           have HO1132 := n1_
           have BK1123 := n2_
           have BK1124 := n3_
           have HB := n4_
           clear n0_ n1_ n2_ n3_ n4_
           have n0_ := Aside0.mk (Kd.R_drew HO_1125001.out)
           have n1_ := Aside0.mk (Kd.S_drew HO1132.out)
           have n2_ := Aside0.mk (blk_drew BK1123.out)
           have n3_ := Aside0.mk (blk_drew BK1124.out)
           have n4_ := Aside0.mk (below_drew1 HB.out)
           clear HO_1125001
           clear HO1132
           clear BK1123
           clear BK1124
           clear HB
           have HO_1125001 := n0_
           have HO1132 := n1_
           have BK1123 := n2_
           have BK1124 := n3_
           have HB := n4_
           clear n0_ n1_ n2_ n3_ n4_
           refine start_ (n := 9) (S := fun w' => w'.cell? ⟨gb1124, 0, none⟩ = some (.slice Ao25 y1130.length co25) ∧ w'.cell? ⟨gb1124, 1, none⟩ = some (u1125001)) (ds := [8]) #[false, false, false, false, false, false, false, false, false] (by kernel_rfl) rfl rfl ⟨(blk_cell BK1124.out 0).trans rfl, (blk_cell BK1124.out 1).trans rfl⟩ (fun hHeld => ?_); refine with_tabW impl_made.tab13 impl_made.bits13 (fun HT_ HW_ => ?_)
           generalize w27.drew = w28 at HO_1125001 HO1132 BK1123 BK1124 HB hHeld ⊢
           refine zqp 0 35 #[true, false, false, false, false, false, false, false, false] HT_ ?_
           refine zqp 2 37 #[true, false, true, false, false, false, false, false, false] HT_ ?_
           refine zqp 3 38 #[true, false, true, true, false, false, false, false, false] HT_ ?_
           refine zqw 1 36 #[true, true, true, true, false, false, false, false, false] HT_ HW_ hHeld ?_
           refine one_ (i := 4) (N := some 39) #[true, true, true, true, true, false, false, false, false] rfl rfl (one_of HT_.out (by kernel_rfl)) (by decide) (fun K hK => ?_)
           refine goesW_ HF2.out HN2.out HD2.out #[.int .i64 x12_1] (by rfl) rfl rfl rfl zq57 ?_
           refine (HV.out x12_1 _ HDx.out HB.out).mono ?_
           rintro e w' ⟨rfl, ⟨nd, rfl⟩⟩
           refine ⟨_, rfl, ?_⟩
           replace HO_1125001 := Aside0.mk (Kd.R_drewN HO_1125001.out nd)
           replace HO1132 := Aside0.mk (Kd.S_drewN HO1132.out nd)
           replace BK1123 := Aside0.mk (blk_drewN BK1123.out nd)
           replace BK1124 := Aside0.mk (blk_drewN BK1124.out nd)
           replace HB := Aside0.mk (pw_below_drewN HB.out nd)
           refine hK.out _ _ ⟨(blk_cell BK1124.out 0).trans rfl, (blk_cell BK1124.out 1).trans rfl⟩ (fun hHeld => ?_)
           clear hK K
           refine norm_ (a' := ?_) ?_ ?_
           rotate_left
           ·show Act.put _ (some 39) _ = _
            simp only [Act.put, List.setIfInBounds_toArray, List.set_cons_zero, List.set_cons_succ, i64_w, i32_w]
            rfl
           refine one_ (i := 5) (N := some 40) #[true, true, true, true, true, true, false, false, false] rfl rfl (one_of HT_.out (by kernel_rfl)) (by decide) (fun K hK => ?_)
           refine value_ (w1 := ?_) (v := ?_) (by rfl) rfl ?_ ?_
           rotate_left 2
           ·go_simp
            constructor
            ·rfl
            ·rfl
           refine hK.out _ _ ⟨(blk_cell (blk_alloc BK1124.out _) 0).trans rfl, (blk_cell (blk_alloc BK1124.out _) 1).trans rfl⟩ (fun hHeld => ?_)
           clear hK K
           refine norm_ (a' := ?_) ?_ ?_
           rotate_left
           ·show Act.put _ (some 40) _ = _
            simp only [Act.put, List.setIfInBounds_toArray, List.set_cons_zero, List.set_cons_succ, i64_w, i32_w]
            rfl
           refine one_ (i := 6) (N := some 41) #[true, true, true, true, true, true, true, false, false] rfl rfl (one_of HT_.out (by kernel_rfl)) (by decide) (fun K hK => ?_)
           refine Kd.R_append_step (Kd.int .i64) (w0 := w) w.heap.size (by rfl) (.tmp 36) (.tmp 40) 24 3 (.int .i64 0) 8 rfl Try.underlying24 info3 rfl (by decide) (by omega) u1125001 x1125001_1 (Q x12_1) [.int .i64 (Q x12_1)] (fun _ => True) (fun _ => False) rfl rfl ?aP (fun _ hk => hk.elim) ?aF ?aO ?aB ?aS ?aL ?_
           (case aP => exact rfl)
           (case aB => exact zq86)
           (case aF => exact (fun _ _ => trivial))
           (case aO => exact (zqfR HO_1125001.out))
           (case aS => exact zq77)
           (case aL => have := LMc20.out; omega)
           intro v1134 w29 ho hb hg hat
           rw [← Ny1133.out] at ho
           have n0_ := Aside0.mk (blk_grown (g := gb1123) (o := .cells #[.slice none 0 0, .slice none 0 0] 26 (0, 0)) (zqe BK1123.out) hg (Kd.R_ne HO_1125001.out BK1123.out (by decide)))
           have n1_ := Aside0.mk (blk_grown (g := gb1124) (o := .cells #[.slice Ao25 y1130.length co25, u1125001] 26 (0, 0)) (zqe BK1124.out) hg (Kd.R_ne HO_1125001.out BK1124.out (by decide)))
           have n2_ := Aside0.mk (Kd.S_after (ok := (fun _ => True)) (by refine zqfS ?_; exact Kd.S_mono HO1132.out (fun _ hk => ⟨trivial, hk⟩)) hg hat)
           have n3_ := Aside0.mk (hb)
           have n4_ := Aside0.mk (ho)
           clear BK1123
           clear BK1124
           clear HO1132
           clear HB
           clear HO_1125001
           have BK1123 := n0_
           have BK1124 := n1_
           have HO1132 := n2_
           have HB := n3_
           have HO1135 := n4_
           clear n0_ n1_ n2_ n3_ n4_
           clear ho hb hg hat
           obtain ⟨Ao30, co30, eo30⟩ := Kd.R_slice HO1135.out
           (first | subst eo30 | (injection eo30 with f1_ f2_ f3_; have f4_ := f1_.symm; have f5_ := f3_.symm; clear f1_ f2_ f3_; subst f4_; subst f5_))
           refine hK.out _ _ ⟨(blk_cell BK1124.out 0).trans rfl, (blk_cell BK1124.out 1).trans rfl⟩ (fun hHeld => ?_)
           clear hK K
           refine norm_ (a' := ?_) ?_ ?_
           rotate_left
           ·show Act.put _ (some 41) _ = _
            simp only [Act.put, List.setIfInBounds_toArray, List.set_cons_zero, List.set_cons_succ, i64_w, i32_w]
            rfl
           refine zqp 7 42 #[true, true, true, true, true, true, true, true, false] HT_ ?_
           refine last_ (i := 8) (N := none) #[true, true, true, true, true, true, true, true, true] rfl rfl (one_of HT_.out (by kernel_rfl)) (by decide) (fun K hK => ?_)
           have hs31 : w29.cell? ⟨gb1124, 1, none⟩ = some (u1125001) := (blk_cell BK1124.out 1).trans rfl
           have hfs31 := blk_frozen BK1124.out 1
           have hns31_0 := NB1123_1124.out
           have hms31_0 := NB1124_1123.out
           refine skip_ (w1 := ?_) (by rfl) rfl ?_ ?_
           rotate_left
           ·go_simp
            rfl
           refine hK.out _ _ ?_
           clear hK K
           refine done_ (done_of HT_.out (by kernel_rfl)) ?_
           try go_wp2
           go_roundg k2
           case measure => have := HK1.out; have := HK2.out; omega
           case rel => exact ⟨(wrap64 (x12_1 + 1)), (y1130), (y1133), (.slice Ao25 y1130.length co25), (.slice Ao30 y1133.length co30), zq87, H', ⟨zq177⟩, ⟨by refine zqfS ?_; exact Kd.S_mono (Kd.S_far (p := ⟨gb1124, 1, none⟩) (Kd.S_types HO1132.out BK1124.out (by decide)) (fun _ hk => hk.2) (.slice Ao30 y1133.length co30)) (fun _ hk => hk.1.2)⟩, ⟨by refine zqfR ?_; exact Kd.R_mono (Kd.R_far (p := ⟨gb1124, 1, none⟩) (Kd.R_types HO1135.out BK1124.out (by decide)) (fun _ hk => hk.2) (.slice Ao30 y1133.length co30)) (fun _ hk => trivial)⟩, ⟨zq150⟩, ⟨by refine zqe ?_; refine blk_put (cs := #[.slice Ao25 y1130.length co25, u1125001]) ?_ 1 _ rfl; refine zqe ?_; exact BK1124.out⟩, ⟨zq19⟩⟩
          ·rw [if_neg c20] at H
           exact absurd H (by simp)
         ·rw [if_neg c19] at H
          exact absurd H (by simp)
     ·rw [if_neg c8] at H
      exact absurd H (by simp)
    ·rw [if_neg c7_] at H
     exact absurd H (by simp)
   ·rw [if_neg c6] at H
    have c6b0 : decide (x12_1 < a0) = false := decide_eq_false c6
    clear c6
    simp only [Option.some.injEq, Prod.mk.injEq] at H
    obtain ⟨rfl, rfl⟩ := H
    have hnb32 := NB1124_1123.out
    have hnc32 := NB1123_1124.out
    have hcz33_0 : wr.cell? ⟨gb1124, 0, none⟩ = some (u1125000) := (blk_cell BK1124.out 0).trans rfl
    have hcz33_1 : wr.cell? ⟨gb1124, 1, none⟩ = some (u1125001) := (blk_cell BK1124.out 1).trans rfl
    have hfz33_0 := blk_frozen BK1124.out 0
    have hfz33_1 := blk_frozen BK1124.out 1
    obtain ⟨Ao34, co34, eo34⟩ := Kd.S_slice HO_1125000.out
    subst eo34
    have hcz35_0 : wr.cell? ⟨gb1123, 0, none⟩ = some (.slice none 0 0) := (blk_cell BK1123.out 0).trans rfl
    have hcz35_1 : wr.cell? ⟨gb1123, 1, none⟩ = some (.slice none 0 0) := (blk_cell BK1123.out 1).trans rfl
    have hfz35_0 := blk_frozen BK1123.out 0
    have hfz35_1 := blk_frozen BK1123.out 1
    obtain ⟨Ao36, co36, eo36⟩ := Kd.R_slice HO_1125001.out
    subst eo36
    go_wp2
    refine bodyPost_ret (results_cell_row rfl _ _ gb1123 26 #[.slice Ao34 x1125000_1.length co34, .slice Ao36 x1125001_1.length co36] (0, 0) _ rfl (by refine zqe ?_; refine blk_put (cs := #[.slice Ao34 x1125000_1.length co34, .slice none 0 0]) ?_ 1 _ rfl; refine zqe ?_; refine blk_put (cs := #[.slice none 0 0, .slice none 0 0]) ?_ 0 _ rfl; refine zqe ?_; exact BK1123.out) Try.underlying26 rfl (by kernel_rfl)) rfl ?_
    exact ⟨_, _, by first | rfl | (simp [errW_none, errW_some] <;> rfl) | (simp [*, errW_none, errW_some] <;> rfl), by refine zqfS ?_; exact Kd.S_mono (Kd.S_far (p := ⟨gb1123, 1, none⟩) (Kd.S_far (p := ⟨gb1123, 0, none⟩) (Kd.S_types HO_1125000.out BK1123.out (by decide)) (fun _ hk => hk.2) (.slice Ao34 x1125000_1.length co34)) (fun _ hk => hk.2) (.slice Ao36 x1125001_1.length co36)) (fun _ hk => hk.1), by refine zqfR ?_; exact Kd.R_mono (Kd.R_far (p := ⟨gb1123, 1, none⟩) (Kd.R_far (p := ⟨gb1123, 0, none⟩) (Kd.R_types HO_1125001.out BK1123.out (by decide)) (fun _ hk => hk.2) (.slice Ao34 x1125000_1.length co34)) (fun _ hk => hk.2) (.slice Ao36 x1125001_1.length co36)) (fun _ hk => trivial), by repeat (first | (with_reducible first | exact HB.out | apply below_alloc | apply pw_below_drewN | apply below_drew1 | refine below_set ?_ GE1123.out | refine below_set ?_ GE1124.out) | exact HB.out)⟩
end
end
section
def madeRow (n : Nat) (R : Nat → Nat → Bool) (a b : Nat) : List Int := (List.range n).map fun j => if (decide (j < b) && R a j) = true then 1 else 0
def madeU (n m : Nat) (R : Nat → Nat → Bool) : List (List Int) := (List.range m).map fun a => madeRow n R a n
def madeN (m : Nat) (Q : Int → Int) : List Int := (List.range m).map fun (a : Nat) => Q ((a : Nat) : Int)
theorem madeRow_len (n : Nat) (R : Nat → Nat → Bool) (a b : Nat) : (madeRow n R a b).length = n := by simp [madeRow]
theorem madeRow_zero (n : Nat) (R : Nat → Nat → Bool) (a : Nat) : madeRow n R a 0 = List.replicate n 0 := by
 apply List.ext_getElem
 ·simp [madeRow]
 ·intro i h1 h2
  simp [madeRow]
theorem madeRow_yes {n : Nat} {R : Nat → Nat → Bool} {a b : Nat} (h : R a b = true) : (madeRow n R a b).set b 1 = madeRow n R a (b + 1) := by
 apply List.ext_getElem
 ·simp [madeRow]
 ·intro i h1 h2
  rw [List.getElem_set]
  simp only [madeRow,List.getElem_map,List.getElem_range]
  by_cases e:b=i
  ·subst e;rw [if_pos rfl,h,decide_eq_true (show b<b+1 by omega)];rfl
  ·rw [if_neg e,show decide (i<b+1)=decide (i<b) from by rw [decide_eq_decide];omega]
theorem madeRow_no {n : Nat} {R : Nat → Nat → Bool} {a b : Nat} (h : R a b = false) : madeRow n R a b = madeRow n R a (b + 1) := by
 unfold madeRow
 refine List.map_congr_left fun i _=>?_
 by_cases e:i=b
 ·subst e;rw [h,Bool.and_false,Bool.and_false]
 ·rw [show decide (i<b+1)=decide (i<b) from by rw [decide_eq_decide];omega]
section
variable {P : Int → Int → Option Bool} {Q : Int → Int} {D : Int → Bool} {n : Nat} {R : Nat → Nat → Bool}
theorem made_l1 (hn : n ≤ 4096) (hP : ∀ a b : Nat, a < n → b < n → P (a : Int) (b : Int) = some (R a b)) {a : Nat} (ha : a < n) {rows : List (List Int)} {nots : List Int} (hr : rows.length = a) (hq : nots.length = a) {res : List (List Int) × List Int}
 (K:Ev (fun k=>impl_made.l0 P Q D k (n:Int) 0 (n:Int) ((a+1:Nat):Int) (rows ++ [madeRow n R a n]) (nots ++ [Q (a:Int)])) res):
 ∀d b,b+d=n→Ev (fun k=>impl_made.l1 P Q D k (n:Int) 0 (a:Int) (madeRow n R a b) (n:Int) (a:Int) (n:Int) (b:Int) rows nots) res:=by
 intro d
 induction d with
 |zero=>
  intro b hb
  obtain rfl:b=n:=by omega
  refine Ev.succ ?_
  simp only [impl_made.l1]
  rw [wrap_nat (show a<4611686018427387904 by omega)]
  exact Ev.ite_neg (by omega) (Ev.ite_pos (by omega) (Ev.ite_pos (by omega) K))
 |succ d ih=>
  intro b hb
  have ih:=ih (b+1) (by omega)
  refine Ev.succ ?_
  simp only [impl_made.l1]
  rw [wrap_nat (show b<4611686018427387904 by omega)]
  refine Ev.ite_pos (by omega) (Ev.pbind (hP a b ha (by omega)) ?_)
  cases h:R a b with
  |true=>
   refine Ev.ite_pos rfl (Ev.ite_pos (by omega) (Ev.ite_pos (by rw [madeRow_len];omega) ?_))
   rw [Int.toNat_natCast,madeRow_yes h]
   exact ih
  |false=>
   refine Ev.ite_neg (by simp) ?_
   rw [madeRow_no h]
   exact ih
theorem made_l0 (hn : n ≤ 4096) (hP : ∀ a b : Nat, a < n → b < n → P (a : Int) (b : Int) = some (R a b)) (hD : ∀ a : Nat, a < n → D (a : Int) = true) :
 ∀d a,a+d=n→Ev (fun k=>impl_made.l0 P Q D k (n:Int) 0 (n:Int) (a:Int) (madeU n a R) (madeN a Q)) (madeU n n R,madeN n Q):=by
 intro d
 induction d with
 |zero=>
  intro a ha
  obtain rfl:a=n:=by omega
  refine Ev.succ ?_
  simp only [impl_made.l0]
  exact Ev.ite_neg (by omega) (Ev.now _)
 |succ d ih=>
  intro a ha
  have ih:=ih (a+1) (by omega)
  refine Ev.succ ?_
  simp only [impl_made.l0]
  refine Ev.ite_pos (by omega) (Ev.ite_pos ⟨by omega,hD a (by omega)⟩ (Ev.ite_pos (by rw [Int.toNat_natCast];omega) ?_))
  rw [Int.toNat_natCast,← madeRow_zero n R a]
  refine made_l1 hn hP (by omega) (by simp [madeU]) (by simp [madeN]) ?_ n 0 (by omega)
  have e1:madeU n (a+1) R=madeU n a R ++ [madeRow n R a n]:=by simp [madeU,List.range_succ]
  have e2:madeN (a+1) Q=madeN a Q ++ [Q (a:Int)]:=by simp [madeN,List.range_succ]
  rw [← e1,← e2]
  exact ih
theorem made_ev (hn : n ≤ 4096) (hP : ∀ a b : Nat, a < n → b < n → P (a : Int) (b : Int) = some (R a b)) (hD : ∀ a : Nat, a < n → D (a : Int) = true) :
 Ev (fun k=>impl_made.f P Q D k (n:Int) 0 0) (madeU n n R,madeN n Q):=by
 unfold impl_made.f
 exact made_l0 hn hP hD n 0 (by omega)
end
end
def setOk (U : List (List Int)) (s : Int) : Bool := decide (0 < s) && decide (s < ((2 ^ U.length : Nat) : Int))
set_option maxHeartbeats 1000000 in
theorem isset_calls (g : Nat) (U : List (List Int)) (N : List Int) (v : Adr) (w : World) (L : Logic U N) (hV : View w g U N v) (s : Int) : Calls Try.prog 26 #[.pointer (some ⟨g, 0, none⟩), .int .i64 s] w fun e w' => e = .returned (.bool (setOk U s)) ∧ Below w.heap.size w w' := by
 have hu70:=Try.underlying43
 have hf0:=hV.f0
 obtain⟨mv,hmv⟩: ∃mv:Int,mv=((2 ^ U.length:Nat):Int):=⟨_,rfl⟩
 have e1_:wrap64 (2 ^ min U.length 64)=mv:=by rw [Nat.min_eq_left (show U.length≤64 by have:=L.small;omega),← i64_w,wshl_nat (by have:=L.small;omega),hmv]
 unfold setOk
 rw [← hmv]
 clear hV L hmv
 by_cases h1:0<s
 ·have p1:(0<s)=True:=eq_true h1
  have p1':decide (0<s)=true:=decide_eq_true h1
  clear h1
  by_cases h2:s<mv
  ·have p2:(s<mv)=True:=eq_true h2
   have p2':decide (s<mv)=true:=decide_eq_true h2
   rw [p1',p2']
   clear h2
   go_enter Try.func26,Try.ntmps26
   go_wp2
   go_ret
   exact⟨rfl,by repeat(first|exact Below.refl _ _|apply pw_below_drewN|apply below_drew1)⟩
  ·have p2:(s<mv)=False:=eq_false h2
   have p2':decide (s<mv)=false:=decide_eq_false h2
   rw [p1',p2']
   clear h2
   go_enter Try.func26,Try.ntmps26
   go_wp2
   go_ret
   exact⟨rfl,by repeat(first|exact Below.refl _ _|apply pw_below_drewN|apply below_drew1)⟩
 ·have p1:(0<s)=False:=eq_false h1
  have p1':decide (0<s)=false:=decide_eq_false h1
  rw [p1',Bool.false_and]
  clear h1
  go_enter Try.func26,Try.ntmps26
  go_wp2
  go_ret
  exact⟨rfl,by repeat(first|exact Below.refl _ _|apply pw_below_drewN|apply below_drew1)⟩
theorem has_calls (s : Nat) (hs : s < 4611686018427387904) {i : Int} (h0 : 0 ≤ i) (h : i ≤ 64) (w : World) : Calls Try.prog 34 #[.int .i64 (s : Int), .int .i64 i] w fun e w' => e = .returned (.bool (s.testBit i.toNat)) ∧ Drawn0 w w' :=
 impl_has.calls _ _ _ _ (has_in s hs h0 h)
structure CloJ (w0 : World) (gB gS gG g : Nat) (s : Nat) (W : World) : Prop where
 hb:Below w0.heap.size w0 W
 bB:W.heap[gB]? =some (.cells #[.int .i64 (s:Int)] 3 (0,0))
 bS:W.heap[gS]? =some (.cells #[.int .i64 (s:Int)] 3 (0,0))
 bG:W.heap[gG]? =some (.cells #[.pointer (some ⟨g,0,none⟩)] 39 (0,0))
theorem CloJ.drewN {w0 : World} {gB gS gG g s : Nat} {W : World} (h : CloJ w0 gB gS gG g s W) (n : Nat) : CloJ w0 gB gS gG g s (W.drewN n) := ⟨pw_below_drewN h.hb n, blk_drewN h.bB n, blk_drewN h.bS n, blk_drewN h.bG n⟩
theorem CloJ.drew {w0 : World} {gB gS gG g s : Nat} {W : World} (h : CloJ w0 gB gS gG g s W) : CloJ w0 gB gS gG g s W.drew := ⟨below_drew1 h.hb, blk_drew h.bB, blk_drew h.bS, blk_drew h.bG⟩
theorem or_two {s q : Nat} (h : s.testBit q = true) : s ||| 2 ^ q = s := by
 refine Nat.eq_of_testBit_eq fun i=>?_
 rw [Nat.testBit_or,Nat.testBit_two_pow]
 by_cases e:q=i
 ·subst e;rw [h];rfl
 ·rw [decide_eq_false e,Bool.or_false]
theorem or_three {s a b c : Nat} (ha : s.testBit a = true) (hb : s.testBit b = true) (hc : s.testBit c = true) : s ||| ((2 ^ a ||| 2 ^ b) ||| 2 ^ c) = s := by
 rw [← Nat.or_assoc,← Nat.or_assoc,or_two ha,or_two hb,or_two hc]
def clo_c1.T2 : Bool × List (List Nat × List Nat) := (true, [([], []), ([], []), ([1], [1]), ([2], [2]), ([3], [3]), ([], []), ([4, 5], [4, 5]), ([6], [6]), ([], []), ([7, 8], [7, 8]), ([9], [9]), ([10], [10]), ([], []), ([12], [12]), ([13], [13]), ([14], [14]), ([], []), ([15, 16], [15, 16]), ([17], [17]), ([], []), ([18, 19], [18, 19]), ([20], [20]), ([21], [21]), ([11, 22], [11, 22]), ([], []), ([24], [24]), ([25], [25]), ([26], [26]), ([], []), ([27, 28], [27, 28]), ([29], [29]), ([30], [30]), ([23, 31], [23, 31]), ([0, 32], [0, 32]), ([33, 0, 1, 2, 3, 4, 5, 6, 7, 8, 9, 10, 11, 12, 13, 14, 15, 16, 17, 18, 19, 20, 21, 22, 23, 24, 25, 26, 27, 28, 29, 30, 31, 32, 33], [33])])
def clo_c1.B2 : List Nat := [0, 0, 2, 6, 14, 0, 62, 126, 0, 510, 1022, 2046, 0, 4096, 12288, 28672, 0, 126976, 258048, 0, 1044480, 2093056, 4190208, 8388606, 0, 16777216, 50331648, 117440512, 0, 520093696, 1056964608, 2130706432, 4294967294, 8589934591, 17179869183]
theorem clo_c1.tab2 : rtab .any (opsOf Try.f56 2) = clo_c1.T2 := by kernel_rfl
theorem clo_c1.bits2 : waitsOk clo_c1.T2.2 clo_c1.B2 = true := by kernel_rfl
set_option maxHeartbeats 4000000 in
set_option maxRecDepth 100000 in
theorem clo_c1 (g : Nat) (U : List (List Int)) (N : List Int) (v : Adr) (w0 w : World) (L : Logic U N) (hV : View w0 g U N v) (gB gS gG : Nat) (s : Nat) (hs : s < 2 ^ U.length) (a b : Nat) (ha : a < U.length) (hb : b < U.length) (hJ : CloJ w0 gB gS gG g s w) (hg : w0.heap.size ≤ gS) (hn1 : gB ≠ gS) (hn2 : gG ≠ gS)
 (hcl:s.testBit a=true→s.testBit b=true→s.testBit (andI U a b).toNat=true∧s.testBit (orI U a b).toNat=true∧s.testBit (notI N a).toNat=true):
 Calls Try.prog 56 #[.int .i64 (a:Int),.int .i64 (b:Int),.pointer (some ⟨gB,0,none⟩),.pointer (some ⟨gS,0,none⟩),.pointer (some ⟨gG,0,none⟩)] w fun e w'=>e= .returned (.bool true)∧CloJ w0 gB gS gG g s w':=by
 have hu70:=Try.underlying43
 have hsm:=L.small
 have hpow:2 ^ U.length≤4096:=Nat.pow_le_pow_right (by omega) hsm
 have ia:In U (a:Int):=⟨by omega,by omega⟩
 have ib:In U (b:Int):=⟨by omega,by omega⟩
 have hx_:=fun w=>has_calls s (by omega) (i:=(a:Int)) (by omega) (by omega) w
 have hy_:=fun w=>has_calls s (by omega) (i:=(b:Int)) (by omega) (by omega) w
 rw [Int.toNat_natCast] at hx_ hy_
 have iA:=L.in_and ia ib
 have iB:=L.in_or ia ib
 have iC:=L.in_not ia
 obtain⟨qa,hqa⟩: ∃q:Nat,andI U a b=(q:Int):=⟨(andI U a b).toNat,by have:=iA.1;omega⟩
 obtain⟨qb,hqb⟩: ∃q:Nat,orI U a b=(q:Int):=⟨(orI U a b).toNat,by have:=iB.1;omega⟩
 obtain⟨qc,hqc⟩: ∃q:Nat,notI N a=(q:Int):=⟨(notI N a).toNat,by have:=iC.1;omega⟩
 rw [hqa] at iA hcl
 rw [hqb] at iB hcl
 rw [hqc] at iC hcl
 simp only [Int.toNat_natCast] at hcl
 have la:qa<U.length:=by have:=iA.2;omega
 have lb:qb<U.length:=by have:=iB.2;omega
 have lc:qc<U.length:=by have:=iC.2;omega
 have HJx:=zqm hJ
 have HV:=zqm hV
 have Ia:=zqm ia
 have Ib:=zqm ib
 have QA:=zqm hqa
 have QB:=zqm hqb
 have QC:=zqm hqc
 have GS:=zqm hg
 have NB:=zqm hn1
 have NG:=zqm hn2
 have p2: ∀q,q<U.length→2 ^ q≤2048:=fun q hq=>Nat.le_trans (Nat.pow_le_pow_right (by omega) (show q≤11 by omega)) (by decide)
 have HX:=zqm hx_
 have HY:=zqm hy_
 have cB:w.cell? ⟨gB,0,none⟩=some (.int .i64 (s:Int)):=(blk_cell HJx.out.bB 0).trans rfl
 clear hx_ hy_
 cases hta:s.testBit a with
 |false=>
  rw [hta] at HX
  clear hcl p2 iA iB iC la lb lc hV ia ib hJ hqa hqb hqc hsm hpow hs ha hb hg hn1 hn2 L
  go_enter Try.func56,Try.ntmps56
  go_wp2_with (go_at_call 34;(first|(with_reducible refine(HX.out _).mono ?_)|(with_reducible refine(HY.out _).mono ?_));rintro e w' ⟨rfl,⟨⟨nd,rfl⟩⟩⟩;have n_:=zqm (HJx.out.drewN nd);clear HJx;have HJx:=n_;clear n_)
  try rw [World.drewN_drewN] at HJx
  go_ret
  exact⟨rfl,HJx.out⟩
 |true=>
 rw [hta] at HX
 cases htb:s.testBit b with
 |false=>
  rw [htb] at HY
  clear hcl p2 iA iB iC la lb lc hV ia ib hJ hqa hqb hqc hsm hpow hs ha hb hg hn1 hn2 L
  go_enter Try.func56,Try.ntmps56
  go_wp2_with (go_at_call 34;(first|(with_reducible refine(HX.out _).mono ?_)|(with_reducible refine(HY.out _).mono ?_));rintro e w' ⟨rfl,⟨⟨nd,rfl⟩⟩⟩;have n_:=zqm (HJx.out.drewN nd);clear HJx;have HJx:=n_;clear n_)
  try rw [World.drewN_drewN] at HJx
  go_ret
  exact⟨rfl,HJx.out⟩
 |true=>
  rw [htb] at HY
  obtain⟨k1,k2,k3⟩:=hcl hta htb
  have a1:=p2 qa la
  have a2:=p2 qb lb
  have a3:=p2 qc lc
  obtain⟨xa,hxa⟩: ∃x,x=2 ^ qa:=⟨_,rfl⟩
  obtain⟨xb,hxb⟩: ∃x,x=2 ^ qb:=⟨_,rfl⟩
  obtain⟨xc,hxc⟩: ∃x,x=2 ^ qc:=⟨_,rfl⟩
  have k4:s|||((xa|||xb)|||xc)=s:=by rw [hxa,hxb,hxc];exact or_three k1 k2 k3
  have l1:xa|||xb<4096:=Nat.or_lt_two_pow (n:=12) (by omega) (by omega)
  have l2:(xa|||xb)|||xc<4096:=Nat.or_lt_two_pow (n:=12) (by omega) (by omega)
  rw [← hxa] at a1
  rw [← hxb] at a2
  rw [← hxc] at a3
  have f1:Go.bits .or .i64 (xa:Int) (xb:Int)=((xa|||xb:Nat):Int):=bor_nat _ _ (by omega) (by omega)
  have f2:Go.bits .or .i64 ((xa|||xb:Nat):Int) (xc:Int)=(((xa|||xb)|||xc:Nat):Int):=bor_nat _ _ (by omega) (by omega)
  have f3:Go.bits .or .i64 (s:Int) (((xa|||xb)|||xc:Nat):Int)=(s:Int):=by rw [bor_nat _ _ (by omega) (by omega),k4]
  have qale:=(show qa≤64 by omega)
  have qa40:=(show qa≤40 by omega)
  have qble:=(show qb≤64 by omega)
  have qb40:=(show qb≤40 by omega)
  have qcle:=(show qc≤64 by omega)
  have qc40:=(show qc≤40 by omega)
  have eA:wrap64 (2 ^ min qa 64)=(xa:Int):=by rw [hxa,Nat.min_eq_left qale,← i64_w,wshl_nat qa40]
  have eB:wrap64 (2 ^ min qb 64)=(xb:Int):=by rw [hxb,Nat.min_eq_left qble,← i64_w,wshl_nat qb40]
  have eC:wrap64 (2 ^ min qc 64)=(xc:Int):=by rw [hxc,Nat.min_eq_left qcle,← i64_w,wshl_nat qc40]
  generalize (xa|||xb)|||xc=xabc at f2 f3
  generalize xa|||xb=xab at f1 f2
  have b0_:=eq_true Ia.out.1;have c0_:=eq_true Ia.out.2
  have b1_:=eq_true Ib.out.1;have c1_:=eq_true Ib.out.2
  have a0':(a<U.length)=True:=eq_true ha
  have b0':(b<U.length)=True:=eq_true hb
  clear qale qble qcle qa40 qb40 qc40 hcl p2 iA iB iC la lb lc hV ia ib hJ hqa hqb hqc hsm hpow hs hg hn1 hn2 L k1 k2 k3 k4 a1 a2 a3 l1 l2 hxa hxb hxc hta htb
  go_enter Try.func56,Try.ntmps56
  go_wp2_with (go_at_call 34;(first|(with_reducible refine(HX.out _).mono ?_)|(with_reducible refine(HY.out _).mono ?_));rintro e w' ⟨rfl,⟨⟨nd,rfl⟩⟩⟩;have n_:=zqm (HJx.out.drewN nd);clear HJx;have HJx:=n_;clear n_)
  try rw [World.drewN_drewN] at HJx
  have HJd:=zqm HJx.out.drew
  have HVd:=zqm (HV.out.below HJd.out.hb)
  refine start_ (n:=35) (S:=(fun w'=>w'.cell? ⟨gS,0,none⟩=some (.int .i64 (s:Int))∧w'.cell? ⟨gG,0,none⟩=some (.pointer (some ⟨g,0,none⟩))∧w'.cell? ⟨g,1,none⟩=some (.slice (some v.aA) U.length v.cA)∧w'.cell? (v.aA.add a)=some (.slice (some (v.rA a)) U.length (v.qA a))∧w'.cell? ((v.rA a).add b)=some (.int .i64 (qa:Int))∧w'.cell? ⟨g,2,none⟩=some (.slice (some v.aO) U.length v.cO)∧w'.cell? (v.aO.add a)=some (.slice (some (v.rO a)) U.length (v.qO a))∧w'.cell? ((v.rO a).add b)=some (.int .i64 (qb:Int))∧w'.cell? ⟨g,3,none⟩=some (.slice (some v.aN) U.length v.cN)∧w'.cell? (v.aN.add a)=some (.int .i64 (qc:Int)))) (ds:= [34]) (zqb 35 0) zqk rfl rfl ⟨(blk_cell HJd.out.bS 0).trans rfl,(blk_cell HJd.out.bG 0).trans rfl,HVd.out.f1,HVd.out.m a Ia.out,by have h:=HVd.out.m2 a b Ia.out Ib.out;rw [QA.out] at h;exact h,HVd.out.f2,HVd.out.j a Ia.out,by have h:=HVd.out.j2 a b Ia.out Ib.out;rw [QB.out] at h;exact h,HVd.out.f3,by have h:=HVd.out.n a Ia.out;rw [QC.out] at h;exact h⟩ (fun hHeld=>?_)
  refine with_tabW clo_c1.tab2 clo_c1.bits2 (fun HT_ HW_=>?_)
  clear HJx HVd
  generalize World.drew _=wd at hHeld HJd ⊢
  refine zqw 0 16 (zqb 35 1) HT_ HW_ hHeld ?_
  refine zqw 1 17 (zqb 35 3) HT_ HW_ hHeld ?_
  refine zqp 2 18 (zqb 35 7) HT_ ?_
  refine zqp 3 19 (zqb 35 15) HT_ ?_
  refine zqw 4 20 (zqb 35 31) HT_ HW_ hHeld ?_
  refine zqp 5 21 (zqb 35 63) HT_ ?_
  refine zqp 6 22 (zqb 35 127) HT_ ?_
  refine zqw 7 23 (zqb 35 255) HT_ HW_ hHeld ?_
  refine zqp 8 24 (zqb 35 511) HT_ ?_
  refine zqp 9 25 (zqb 35 1023) HT_ ?_
  refine zqw 10 26 (zqb 35 2047) HT_ HW_ hHeld ?_
  refine zqp 11 27 (zqb 35 4095) HT_ ?_
  refine zqw 12 28 (zqb 35 8191) HT_ HW_ hHeld ?_
  refine zqp 13 29 (zqb 35 16383) HT_ ?_
  refine zqp 14 30 (zqb 35 32767) HT_ ?_
  refine zqw 15 31 (zqb 35 65535) HT_ HW_ hHeld ?_
  refine zqp 16 32 (zqb 35 131071) HT_ ?_
  refine zqp 17 33 (zqb 35 262143) HT_ ?_
  refine zqw 18 34 (zqb 35 524287) HT_ HW_ hHeld ?_
  refine zqp 19 35 (zqb 35 1048575) HT_ ?_
  refine zqp 20 36 (zqb 35 2097151) HT_ ?_
  refine zqw 21 37 (zqb 35 4194303) HT_ HW_ hHeld ?_
  refine zqp 22 38 (zqb 35 8388607) HT_ ?_
  refine zqp 23 39 (zqb 35 16777215) HT_ ?_
  refine zqw 24 40 (zqb 35 33554431) HT_ HW_ hHeld ?_
  refine zqp 25 41 (zqb 35 67108863) HT_ ?_
  refine zqp 26 42 (zqb 35 134217727) HT_ ?_
  refine zqw 27 43 (zqb 35 268435455) HT_ HW_ hHeld ?_
  refine zqp 28 44 (zqb 35 536870911) HT_ ?_
  refine zqp 29 45 (zqb 35 1073741823) HT_ ?_
  refine zqw 30 46 (zqb 35 2147483647) HT_ HW_ hHeld ?_
  refine zqp 31 47 (zqb 35 4294967295) HT_ ?_
  refine zqp 32 48 (zqb 35 8589934591) HT_ ?_
  refine zqp 33 49 (zqb 35 17179869183) HT_ ?_
  have hs_:wd.cell? ⟨gS,0,none⟩=some (.int .i64 (s:Int)):=(blk_cell HJd.out.bS 0).trans rfl
  have hf_:=blk_frozen HJd.out.bS 0
  refine last_ (i:=34) (N:=none) (zqb 35 34359738367) rfl rfl (one_of HT_.out zqk) (by decide) (fun K hK=>?_)
  refine skip_ (w1:=wd.setCell ⟨gS,0,none⟩ (.int .i64 (s:Int))) (by rfl) rfl ?_ ?_
  ·go_simp
  refine hK.out _ _ ?_
  clear hK K
  have HJ2:=zqm (CloJ.mk (below_set HJd.out.hb GS.out) (blk_far HJd.out.bB (p:=⟨gS,0,none⟩) NB.out _) (one_setCell HJd.out.bS) (blk_far HJd.out.bG (p:=⟨gS,0,none⟩) NG.out _):CloJ w0 gB gS gG g s (wd.setCell ⟨gS,0,none⟩ (.int .i64 (s:Int))))
  generalize wd.setCell ⟨gS,0,none⟩ (.int .i64 (s:Int))=w7 at HJ2 ⊢
  clear hs_ hf_ HJd
  refine done_ (done_of HT_.out zqk) ?_
  go_wp2
  go_ret
  exact⟨rfl,HJ2.out⟩
set_option maxHeartbeats 4000000 in
set_option maxRecDepth 100000 in
theorem closed_calls (g : Nat) (U : List (List Int)) (N : List Int) (v : Adr) (w : World) (L : Logic U N) (hV : View w g U N v) (s : Nat) (hs : s < 2 ^ U.length)
 (hcl: ∀a b:Nat,a<U.length→b<U.length→s.testBit a=true→s.testBit b=true→s.testBit (andI U a b).toNat=true∧s.testBit (orI U a b).toNat=true∧s.testBit (notI N a).toNat=true):
 Calls Try.prog 27 #[.pointer (some ⟨g,0,none⟩),.int .i64 (s:Int)] w fun e w'=>e= .returned (.int .i64 (s:Int))∧Below w.heap.size w w':=by
 have HV:=zqm hV
 have HL:=zqm L
 have HSZ:=zqm hs
 have HC:=zqm hcl
 have HB:=zqm (Below.refl w.heap.size w)
 clear hV L hs hcl
 go_enter Try.func27,Try.ntmps27
 go_wp2_with (first|((with_reducible refine gate_dst (N:=2) rfl ?_);refine box_event ?hg (N:=2) ?hd (cs:= #[.pointer (some ⟨g,0,none⟩)]) (t:=39) ?hr ?_;(case hd=>rfl);(case hg=>rfl);(case hr=> exact zq15);intro gG hg w1 hbox hb;have GG:=zqm (show w.heap.size≤gG from zq178);have n_:=zqm (below_step HB.out hb);clear HB;have HB:=n_;clear n_;have BG:=zqm hbox;clear hbox hb hg)|((with_reducible refine gate_dst (N:=3) rfl ?_);refine box_event ?hg (N:=3) ?hd (cs:= #[.int .i64 (s:Int)]) (t:=3) ?hr ?_;(case hd=>rfl);(case hg=>rfl);(case hr=> exact zq15);intro gS hg w2 hbox hb;have GS:=zqm (show w.heap.size≤gS from by rw [hg];exact below_size HB.out);have NG:=zqm (show gG≠gS from by have h1:=blk_lt BG.out;omega);have n_:=zqm (below_step HB.out hb);have m_:=zqm (blk_below BG.out hb);clear HB BG;have HB:=n_;have BG:=m_;clear n_ m_;have BS:=zqm hbox;clear hbox hb hg))
 go_loopg [4] 1 (fun kq v4 W=>v4= .int .i64 0∧Aside0 (Below w.heap.size w W)∧Aside0 (W.heap[gG]? =some (.cells #[.pointer (some ⟨g,0,none⟩)] 39 (0,0)))∧Aside0 (W.heap[gS]? =some (.cells #[.int .i64 (s:Int)] 3 (0,0))))
 case atStart=>exact⟨rfl,HB,BG,BS⟩
 case round=>
  clear HB BG BS
  obtain⟨rfl,HB2,BG2,BS2⟩:=hrel
  have hcS:wr.cell? ⟨gS,0,none⟩=some (.int .i64 (s:Int)):=(blk_cell BS2.out 0).trans rfl
  have hcG:wr.cell? ⟨gG,0,none⟩=some (.pointer (some ⟨g,0,none⟩)):=(blk_cell BG2.out 0).trans rfl
  go_wp2_with (first|((with_reducible refine gate_dst (N:=5) rfl ?_);refine box_event ?hg (N:=5) ?hd (cs:= #[.int .i64 0]) (t:=3) ?hr ?_;(case hd=>rfl);(case hg=>rfl);(case hr=> exact zq15);intro gB hg w3 hbox hb;have GB:=zqm (show w.heap.size≤gB from by rw [hg];exact below_size HB2.out);have NB:=zqm (show gS≠gB from by have h1:=blk_lt BS2.out;omega);have NG2:=zqm (show gG≠gB from by have h1:=blk_lt BG2.out;omega);have HB3:=zqm (below_step HB2.out hb);have BG3:=zqm (blk_below BG2.out hb);have BS3:=zqm (blk_below BS2.out hb);have BB3:=zqm hbox;clear HB2 BG2 BS2 hbox hb hg hcS hcG;have hcB:w3.cell? ⟨gB,0,none⟩=some (.int .i64 0):=(blk_cell BB3.out 0).trans rfl;have hfB:=blk_frozen BB3.out 0;have hcS:w3.cell? ⟨gS,0,none⟩=some (.int .i64 (s:Int)):=(blk_cell BS3.out 0).trans rfl;have hcG:w3.cell? ⟨gG,0,none⟩=some (.pointer (some ⟨g,0,none⟩)):=(blk_cell BG3.out 0).trans rfl;have d1:(gS=gB)=False:=eq_false NB.out;have d2:(gG=gB)=False:=eq_false NG2.out;have d3:(gB=gS)=False:=eq_false fun e=>NB.out e.symm;have d4:(gB=gG)=False:=eq_false fun e=>NG2.out e.symm))
  have HJ:=zqm (CloJ.mk (below_set HB3.out GB.out) (one_setCell BB3.out) (blk_far BS3.out (p:=⟨gB,0,none⟩) NB.out _) (blk_far BG3.out (p:=⟨gB,0,none⟩) NG2.out _):CloJ w gB gS gG g s (w3.setCell ⟨gB,0,none⟩ (.int .i64 (s:Int))))
  refine(every_calls g U N v _ HL.out.small 56 _ #[.pointer (some ⟨gB,0,none⟩),.pointer (some ⟨gS,0,none⟩),.pointer (some ⟨gG,0,none⟩)] Try.func56 zqk rfl (fun _ _=>true) (fun _ W=>CloJ w gB gS gG g s W) (fun _ _ h=>HV.out.below h.hb) (fun _ _ n h=>h.drewN n) HJ.out (fun a b ha hb w' hJ=>clo_c1 g U N v w w' HL.out HV.out gB gS gG s HSZ.out a b ha hb hJ GS.out (fun e=>NB.out e.symm) NG.out (HC.out a b ha hb))).mono ?_
  rintro e w4 ⟨rfl,i,hJ4,_⟩
  have HJ4:=zqm hJ4
  have hcS4:w4.cell? ⟨gS,0,none⟩=some (.int .i64 (s:Int)):=(blk_cell HJ4.out.bS 0).trans rfl
  have hcB4:w4.cell? ⟨gB,0,none⟩=some (.int .i64 (s:Int)):=(blk_cell HJ4.out.bB 0).trans rfl
  clear hJ4 HJ hcB hfB hcS hcG d1 d2 d3 d4
  go_wp2
  go_ret
  exact⟨rfl,HJ4.out.hb⟩
def cloB (U : List (List Int)) (N : List Int) (s : Nat) : Bool := allN U.length fun a => allN U.length fun b => !(s.testBit a && s.testBit b) || (s.testBit (andI U a b).toNat && (s.testBit (orI U a b).toNat && s.testBit (notI N a).toNat))
theorem cloB_iff {U : List (List Int)} {N : List Int} {s : Nat} : cloB U N s = true ↔ ∀ a b : Nat, a < U.length → b < U.length → s.testBit a = true → s.testBit b = true → s.testBit (andI U a b).toNat = true ∧ s.testBit (orI U a b).toNat = true ∧ s.testBit (notI N a).toNat = true := by
 unfold cloB
 rw [allN_iff]
 constructor
 ·intro h a b ha hb h1 h2
  have:=allN_iff.1 (h a ha) b hb
  rw [h1,h2] at this
  simpa using this
 ·intro h a ha
  refine allN_iff.2 fun b hb=>?_
  cases h1:s.testBit a with
  |false=>rfl
  |true=>
   cases h2:s.testBit b with
   |false=>rfl
   |true=>
    obtain⟨k1,k2,k3⟩:=h a b ha hb h1 h2
    rw [k1,k2,k3];rfl
def impl_SubOk.f (l0_0 : List (List Int)) (l0_1 : List Int) (a1 : Int) : Option (Bool) := if (logicB l0_0 l0_1 && (setOk l0_0 a1 && cloB l0_0 l0_1 a1.toNat)) = true then some true else none
set_option maxHeartbeats 4000000 in
set_option maxRecDepth 100000 in
theorem impl_SubOk.calls (A0_0 : Option Addr) (c0_0 : Nat) (l0_0 : List (List Int)) (A0_1 : Option Addr) (c0_1 : Nat) (l0_1 : List Int) (a1 : Int) (r : Bool) (w : World) (hr0_0 : Kd.C (Kd.slice 3 (Kd.int .i64)) w A0_0 l0_0.length l0_0) (hc0_0 : l0_0.length ≤ c0_0) (hr0_1 : Kd.C (Kd.int .i64) w A0_1 l0_1.length l0_1) (hc0_1 : l0_1.length ≤ c0_1) (h : impl_SubOk.f l0_0 l0_1 a1 = some r) :
 Calls Try.prog 11 #[.agg #[.slice A0_0 l0_0.length c0_0,.slice A0_1 l0_1.length c0_1],.int .i64 a1] w fun e w'=>e= .returned (.bool r)∧Below w.heap.size w w':=by
 obtain⟨k,hF⟩:=told_facts l0_0
 have hu30:=Try.underlying26
 have hu70:=Try.underlying43
 have HF:=zqm hF
 have HR0:=zqm hr0_0
 have HC0:=zqm hc0_0
 have HR1:=zqm hr0_1
 have HC1:=zqm hc0_1
 clear hr0_0 hc0_0 hr0_1 hc0_1 hF
 unfold impl_SubOk.f at h
 split at h
 case isFalse=>exact absurd h (by simp)
 case isTrue hc=>
 obtain rfl:=Option.some.inj h
 rw [Bool.and_eq_true,Bool.and_eq_true] at hc
 obtain⟨hL,hin,hcl⟩:=hc
 have HLB:=zqm hL
 have HLg:=zqm (logicB_iff.1 hL)
 have HSM:=zqm (logicB_iff.1 hL).small
 have HIN:=zqm hin
 have HCL:=zqm (cloB_iff.1 hcl)
 unfold setOk at hin
 simp only [Bool.and_eq_true,decide_eq_true_eq] at hin
 obtain⟨s,rfl⟩: ∃s:Nat,a1=(s:Int):=⟨a1.toNat,by omega⟩
 rw [Int.toNat_natCast] at HCL
 have HSZ:=zqm (show s<2 ^ l0_0.length by have:=hin.2;omega)
 clear h hL hin hcl
 go_enter Try.func11,Try.ntmps11
 go_wp2_with (first|((with_reducible refine gate_dst (N:=2) rfl ?_);refine box_event ?hg (N:=2) ?hd (cs:= #[.slice A0_0 l0_0.length c0_0,.slice A0_1 l0_1.length c0_1]) (t:=26) ?hr ?_;(case hd=>rfl);(case hg=>rfl);(case hr=>first|(go_simp;done)|(go_simp;rfl));intro gb hg_ w1 hbox hb;have HB:=zqm hb;have hx0:w1.cell? ⟨gb,0,none⟩=some (.slice A0_0 l0_0.length c0_0):=(blk_cell hbox 0).trans rfl;have hx1:w1.cell? ⟨gb,1,none⟩=some (.slice A0_1 l0_1.length c0_1):=(blk_cell hbox 1).trans rfl;have HX:=zqm hbox;clear hbox hb hg_)|(go_at_call 18;(with_reducible refine(told_y k _ _ l0_0 _ _ l0_1 _ ?s1 ?s2 ?s3 ?s4 HF.out HLB.out).mono ?_);(case s1=>exact Kd.C_below HR0.out HB.out);(case s2=>exact HC0.out);(case s3=>exact Kd.C_below HR1.out HB.out);(case s4=>exact HC1.out);rintro e w2 ⟨g,v,rfl,hv,hge,hb⟩;have HB2:=zqm (below_step HB.out hb);have HV:=zqm hv;clear hv hge hb hx0 hx1 HX HB)|(go_at_call 26;(with_reducible refine(isset_calls g l0_0 l0_1 v _ HLg.out HV.out (s:Int)).mono ?_);rintro e w3 ⟨he,hb⟩;rw [HIN.out] at he;subst he;have HB3:=zqm (below_step HB2.out hb);have HV3:=zqm (View.below HV.out hb);clear hb)|(go_at_call 27;(with_reducible refine(closed_calls g l0_0 l0_1 v _ HLg.out HV3.out s HSZ.out HCL.out).mono ?_);rintro e w4 ⟨rfl,hb⟩;have HB4:=zqm (below_step HB3.out hb);clear hb))
 go_ret
 exact⟨rfl,by repeat(first|exact HB4.out|apply pw_below_drewN|apply below_drew1)⟩
def filN (n : Nat) (p : Nat → Bool) : List Nat := (List.range n).filter p
theorem filI_eq (n : Nat) (p : Nat → Bool) : filI n p = (filN n p).map fun (s : Nat) => (s : Int) := rfl
theorem filI_len (n : Nat) (p : Nat → Bool) : (filI n p).length = (filN n p).length := by rw [filI_eq, List.length_map]
theorem filI_at (n : Nat) (p : Nat → Bool) (i : Nat) : at1 (filI n p) i = (((filN n p).getD i 0 : Nat) : Int) := by
 rw [filI_eq]
 simp only [at1,List.getD_eq_getElem?_getD,List.getElem?_map]
 cases (filN n p)[i]? <;> rfl
theorem filN_at {n : Nat} {p : Nat → Bool} {i : Nat} (h : i < (filN n p).length) : (filN n p).getD i 0 < n ∧ p ((filN n p).getD i 0) = true := by
 rw [List.getD_eq_getElem?_getD,List.getElem?_eq_getElem h]
 have h1:=List.mem_filter.1 (List.getElem_mem h)
 exact⟨by simpa using h1.1,h1.2⟩
theorem filN_len (n : Nat) (p : Nat → Bool) : (filN n p).length ≤ n := by
 have h1 := List.length_filter_le p (List.range n)
 rw [List.length_range] at h1
 exact h1
section
section
variable {U : List (List Int)} {N : List Int} (L : Logic U N)
theorem fin_of_nat {i : Nat} (h : i < U.length) : ∃ x : Fin U.length, i = x.1 := ⟨⟨i, h⟩, rfl⟩
theorem fin_inj {x y : Fin U.length} : (((x.1 : Nat) : Int) = ((y.1 : Nat) : Int)) ↔ x = y := by
 constructor
 ·intro h; exact Fin.ext (by omega)
 ·intro h; rw [h]
theorem fin_beq (x y : Fin U.length) : (((x.1 : Nat) : Int) == ((y.1 : Nat) : Int)) = decide (x = y) := by
 rw [Bool.eq_iff_iff, beq_iff_eq, decide_eq_true_eq]; exact fin_inj
theorem and_fin (x y : Fin U.length) : andI U x.1 y.1 = (((L.ol.meet x y).1 : Nat) : Int) := by
 show mI U ((x.1:Nat):Int).toNat ((y.1:Nat):Int).toNat=_
 unfold mI;rw [Int.toNat_natCast,Int.toNat_natCast,L.mt_eq];rfl
theorem or_fin (x y : Fin U.length) : orI U x.1 y.1 = (((L.ol.join x y).1 : Nat) : Int) := by
 show jI U ((x.1:Nat):Int).toNat ((y.1:Nat):Int).toNat=_
 unfold jI;rw [Int.toNat_natCast,Int.toNat_natCast,L.jn_eq];rfl
theorem not_fin (x : Fin U.length) : notI N x.1 = (((L.ol.neg x).1 : Nat) : Int) := by
 show at1 N ((x.1 : Nat) : Int).toNat = _
 rw [Int.toNat_natCast, L.ng_eq]; rfl
theorem leB_fin (x y : Fin U.length) : leB U x.1 y.1 = true ↔ L.ol.le x y := Iff.rfl
theorem allN_fin {n : Nat} {p : Nat → Bool} : allN n p = true ↔ ∀ x : Fin n, p x.1 = true := by
 rw [allN_iff]
 exact ⟨fun h x => h x.1 x.2, fun h i hi => h ⟨i, hi⟩⟩
end
end
theorem filN_idx {n : Nat} {p : Nat → Bool} {a : Nat} (ha : a < n) (h : p a = true) : ∃ i, i < (filN n p).length ∧ (filN n p).getD i 0 = a := by
 have hm:a ∈ filN n p:=List.mem_filter.2 ⟨by simpa using ha,h⟩
 obtain⟨i,hi,e⟩:=List.mem_iff_getElem.1 hm
 exact⟨i,hi,by rw [List.getD_eq_getElem?_getD,List.getElem?_eq_getElem hi];exact e⟩
theorem filN_inj {n : Nat} {p : Nat → Bool} {i j : Nat} (hi : i < (filN n p).length) (hj : j < (filN n p).length) (e : (filN n p).getD i 0 = (filN n p).getD j 0) : i = j := by
 have hp:(filN n p).Pairwise (· < ·):=List.Pairwise.filter _ List.pairwise_lt_range
 rw [List.getD_eq_getElem?_getD,List.getD_eq_getElem?_getD,List.getElem?_eq_getElem hi,List.getElem?_eq_getElem hj] at e
 have e2:(filN n p)[i]=(filN n p)[j]:=e
 rcases Nat.lt_trichotomy i j with h|h|h
 ·have:=List.pairwise_iff_getElem.1 hp i j hi hj h;omega
 ·exact h
 ·have:=List.pairwise_iff_getElem.1 hp j i hj hi h;omega
def partL (U : List (List Int)) (t : Nat) : List Nat := filN U.length fun a => t.testBit a
def partE (U : List (List Int)) (t i : Nat) : Nat := (partL U t).getD i 0
def partAt (U : List (List Int)) (t : Nat) (a : Nat) : Int := optI (findN (partL U t).length fun i => partE U t i == a)
def partU (U : List (List Int)) (t : Nat) : List (List Int) := madeU (partL U t).length (partL U t).length fun i k => leB U (partE U t i) (partE U t k)
def partN (U : List (List Int)) (N : List Int) (t : Nat) : List Int := madeN (partL U t).length fun i => partAt U t (notI N ((partE U t i.toNat : Nat) : Int)).toNat
theorem partE_in {U : List (List Int)} {t i : Nat} (h : i < (partL U t).length) : partE U t i < U.length ∧ t.testBit (partE U t i) = true := filN_at (p := fun a => t.testBit a) h
theorem partE_inj {U : List (List Int)} {t i j : Nat} (hi : i < (partL U t).length) (hj : j < (partL U t).length) (e : partE U t i = partE U t j) : i = j := filN_inj hi hj e
theorem partAt_eq {U : List (List Int)} {t i : Nat} (h : i < (partL U t).length) : partAt U t (partE U t i) = (i : Int) := by
 unfold partAt
 rw [findN_uniq (i:=i) h (by simp) fun j hj e=>partE_inj hj h (by simpa using e)]
 rfl
theorem part_idx {U : List (List Int)} {t a : Nat} (ha : a < U.length) (h : t.testBit a = true) : ∃ i, i < (partL U t).length ∧ partE U t i = a := filN_idx ha h
theorem madeU_at {n m : Nat} {R : Nat → Nat → Bool} {a b : Nat} (ha : a < m) (hb : b < n) : at2 (madeU n m R) a b = if R a b = true then 1 else 0 := by
 unfold at2 madeU madeRow
 simp [List.getD_eq_getElem?_getD,ha,hb]
theorem madeN_at {m : Nat} {Q : Int → Int} {a : Nat} (ha : a < m) : at1 (madeN m Q) a = Q (a : Int) := by
 unfold at1 madeN
 simp [List.getD_eq_getElem?_getD, ha]
end Go.Proofs.Ytmbapglhkbpokaa.Print
end
