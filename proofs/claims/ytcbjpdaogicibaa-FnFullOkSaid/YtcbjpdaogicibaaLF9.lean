/- Part 9 of what is common to several claims of this seat: FullOkL. -/
import Derived.Test.YtcbjpdaogicibaaLF8
import Derived.Below
import Derived.Deep.Draws
import Derived.Deep.AppendLies
import Derived.Maps.AppendAt
import Derived.OwnWalk
import Derived.Laws.BytesArg
import Derived.Laws.MakeOwn
import Derived.Laws.OwnMore
import Derived.Deep.OwnRows
import Derived.Tactics
import Derived.Lib.ConvBytes
import Derived.Laws.Slices
import Derived.WalkKit
import Derived.KernelRfl
import Derived.RowKit3
import Derived.Deep.LoopGhost
import Derived.Deep.QuietTactic
import Derived.BigQuiet
import Derived.WideLaws
import Derived.Deep.DeepCutAuto
import Derived.Deep.CutBlock
import Derived.Deep.RegionHeld3
import Derived.Laws.Rows
import Derived.Lib.AppendStr
import Derived.ArgAppend
import Derived.Laws.IdiomCopy
import Derived.RowKit
import Derived.OrdersHeld
import Derived.Laws.BitsLemmas
import Derived.Test.YtcbjpdaogicibaaProg
import Derived.Laws.Bits64b
import Derived.LaidEqlPtr
set_option linter.all false
section
namespace Go.Proofs.Ytcbjpdaogicibaa.Print
open Go.RowKit Go.Proofs.YtcbjpdaogicibaaW.PrintWords Go.Proofs.YtcbjpdaogicibaaW.PrintLast Go.Proofs.YtcbjpdaogicibaaW.PrintMore
open Oml
theorem l1In_eq (a b c : Int) : spec_l1In.f a b c = some (decide (b ≤ a) && decide (a ≤ c)) := by
 unfold spec_l1In.f
 by_cases h : a ≥ b
 ·rw [if_pos h]; simp [h]
 ·rw [if_neg h]; simp [h]
def rowS (U : List (List Int)) (i : Nat) : Bool := (U.getD i []).length == U.length && allN U.length fun j => at2 U i j == 0 || at2 U i j == 1
def relS (U : List (List Int)) (i : Nat) : Bool := allN U.length fun j => !(if i = j then !leB U i j else leB U i j && leB U j i) && allN U.length fun c => !(leB U i j && leB U j c) || leB U i c
theorem orderB_spec (U : List (List Int)) : orderB U = (decide (1 ≤ U.length) && (decide (U.length ≤ 12) && (allN U.length (rowS U) && allN U.length (relS U)))) := by
 rw [Bool.eq_iff_iff,orderB_iff]
 unfold rowS relS
 simp only [Bool.and_eq_true,decide_eq_true_eq,allN_iff,Bool.or_eq_true,beq_iff_eq,Bool.not_eq_true']
 constructor
 ·intro O
  refine⟨O.pos,O.small,fun i hi=>⟨O.row i hi,fun j hj=>O.bit i j hi hj⟩,fun i hi j hj=>⟨?_,fun c hc=>?_⟩⟩
  ·by_cases e:i=j
   ·rw [if_pos e,← e,O.refl i hi];rfl
   ·rw [if_neg e]
    cases k1:leB U i j
    ·rfl
    ·cases k2:leB U j i
     ·rfl
     ·exact absurd (O.anti i j hi hj k1 k2) e
  ·cases k1:leB U i j
   ·simp
   ·cases k2:leB U j c
    ·simp
    ·exact .inr (O.trans i j c hi hj hc k1 k2)
 ·rintro ⟨h1,h2,h3,h4⟩
  refine⟨h1,h2,fun a ha=>(h3 a ha).1,fun a b ha hb=>(h3 a ha).2 b hb,fun a ha=>?_,fun a b ha hb k1 k2=>?_,fun a b c ha hb hc k1 k2=>?_⟩
  ·have:=(h4 a ha a ha).1
   rw [if_pos rfl] at this
   simpa using this
  ·by_cases e:a=b
   ·exact e
   ·have:=(h4 a ha b hb).1
    rw [if_neg e,k1,k2] at this
    exact absurd this (by simp)
  ·rcases (h4 a ha b hb).2 c hc with e|e
   ·rw [k1,k2] at e;exact absurd e (by simp)
   ·exact e
theorem spec_OrderOk.ev (U : List (List Int)) : Ev (fun k => spec_OrderOk.f k U) (orderB U) := by
 rw [orderB_spec]
 unfold spec_OrderOk.f
 refine Ev.pbind (l1In_eq _ _ _) ?_
 by_cases h1:1≤U.length
 ·by_cases h2:U.length≤12
  ·rw [show (decide ((1:Int)≤U.length) && decide ((U.length:Int)≤12))=true by simp;omega]
   simp only [h1,h2,decide_true,Bool.true_and]
   repeat(with_reducible first|refine Ev.ip ?_|refine Ev.iq ?_)
   refine Ev.eq (Ev.all (n:=U.length) (g:=fun k i=>spec_OrderOk.l0 k U U.length i) (rowS U) (go:=allN U.length (relS U)) (stop:=false) (by omega) (fun hr=>?_) fun i hi _ R hR=>?_) (by cases allN U.length (rowS U) <;> rfl)
   ·have row: ∀i,i<U.length→(U.getD i []).length=U.length:=fun i hi=>by
     have:=hr i hi
     unfold rowS at this
     simp only [Bool.and_eq_true,beq_iff_eq] at this
     exact this.1
    have bit: ∀i j,i<U.length→j<U.length→at2 U i j=if leB U i j=true then 1 else 0:=fun i j hi hj=>by
     have:=hr i hi
     unfold rowS at this
     simp only [Bool.and_eq_true,beq_iff_eq,allN_iff,Bool.or_eq_true] at this
     unfold leB
     rcases this.2 j hj with e|e <;> simp [e]
    refine Ev.succ ?_
    simp only [spec_OrderOk.l0]
    repeat(with_reducible first|refine Ev.ip ?_|refine Ev.iq ?_)
    refine Ev.eq (Ev.all (n:=U.length) (g:=fun k i=>spec_OrderOk.l2 k U U.length i) (relS U) (go:=true) (stop:=false) (by omega) (fun _=>?_) fun a ha _ R hR=>?_) (by cases allN U.length _ <;> rfl)
    ·refine Ev.succ ?_
     simp only [spec_OrderOk.l2]
     repeat(with_reducible first|refine Ev.ip ?_|refine Ev.iq ?_)
     exact Ev.now _
    ·refine Ev.succ ?_
     simp only [spec_OrderOk.l2]
     repeat(with_reducible first|refine Ev.ip ?_|refine Ev.iq ?_)
     refine Ev.all (n:=U.length) (g:=fun k i=>spec_OrderOk.l3 k U U.length a i) _ (by omega) (fun h=>?_) fun b hb _ R2 hR2=>?_
     ·refine Ev.succ ?_
      simp only [spec_OrderOk.l3]
      repeat(with_reducible first|refine Ev.ip ?_|refine Ev.iq ?_)
      exact hR (allN_iff.2 h)
     ·have vab:=bit a b ha hb
      have vba:=bit b a hb ha
      have j4:Ev (fun k=>spec_OrderOk.j4 k U U.length a b (if a=b then !leB U a b else leB U a b && leB U b a)) (if(!(if a=b then !leB U a b else leB U a b && leB U b a) && allN U.length fun c=>!(leB U a b && leB U b c)||leB U a c)=true then R2 else false):=by
       refine Ev.succ ?_
       simp only [spec_OrderOk.j4]
       cases hx:(if a=b then !leB U a b else leB U a b && leB U b a) with
       |true=>
        repeat(with_reducible first|refine Ev.ip ?_|refine Ev.iq ?_)
        exact Ev.now _
       |false=>
        rw [hx,Bool.not_false,Bool.true_and] at hR2
        rw [Bool.not_false,Bool.true_and]
        repeat(with_reducible first|refine Ev.ip ?_|refine Ev.iq ?_)
        refine Ev.all (n:=U.length) (g:=fun k i=>spec_OrderOk.l4 k U U.length a b i) _ (by omega) (fun h=>?_) fun c hc _ R3 hR3=>?_
        ·refine Ev.succ ?_
         simp only [spec_OrderOk.l4]
         repeat(with_reducible first|refine Ev.ip ?_|refine Ev.iq ?_)
         exact hR2 (allN_iff.2 h)
        ·refine Ev.succ ?_
         have vbc:=bit b c hb hc
         have vac:=bit a c ha hc
         have ra:=row a ha
         have rb:=row b hb
         simp only [spec_OrderOk.l4,rdL_nat,rd_nat,rd_row,ra,rb,vab,vbc,vac]
         repeat(with_reducible first|refine Ev.ip ?_|refine Ev.iq ?_)
         cases f1:leB U a b with
         |false=>
          repeat(with_reducible first|refine Ev.ip ?_|refine Ev.iq ?_)
          exact hR3 (by simp [f1])
         |true=>
          repeat(with_reducible first|refine Ev.ip ?_|refine Ev.iq ?_)
          cases f2:leB U b c with
          |false=>
           repeat(with_reducible first|refine Ev.ip ?_|refine Ev.iq ?_)
           exact hR3 (by simp [f2])
          |true=>
           repeat(with_reducible first|refine Ev.ip ?_|refine Ev.iq ?_)
           cases f3:leB U a c with
           |false=>
            repeat(with_reducible first|refine Ev.ip ?_|refine Ev.iq ?_)
            exact Ev.now _
           |true=>
            repeat(with_reducible first|refine Ev.ip ?_|refine Ev.iq ?_)
            exact hR3 (by simp [f3])
      refine Ev.succ ?_
      have ra:=row a ha
      have rb:=row b hb
      simp only [spec_OrderOk.l3,rdL_nat,rd_nat,rd_row,ra,rb,vab,vba]
      repeat(with_reducible first|refine Ev.ip ?_|refine Ev.iq ?_)
      by_cases e:a=b
      ·rw [if_pos e] at j4 ⊢
       repeat(with_reducible first|refine Ev.ip ?_|refine Ev.iq ?_)
       cases f1:leB U a b with
       |false=>
        rw [f1] at j4
        repeat(with_reducible first|refine Ev.ip ?_|refine Ev.iq ?_)
        exact j4
       |true=>
        rw [f1] at j4
        repeat(with_reducible first|refine Ev.ip ?_|refine Ev.iq ?_)
        exact j4
      ·rw [if_neg e] at j4 ⊢
       repeat(with_reducible first|refine Ev.ip ?_|refine Ev.iq ?_)
       cases f1:leB U a b with
       |false=>
        rw [f1] at j4
        repeat(with_reducible first|refine Ev.ip ?_|refine Ev.iq ?_)
        exact j4
       |true=>
        rw [f1] at j4
        repeat(with_reducible first|refine Ev.ip ?_|refine Ev.iq ?_)
        rw [show ((if leB U b a=true then(1:Int) else 0)==1)=leB U b a by cases leB U b a <;> rfl]
        exact j4
   ·refine Ev.succ ?_
    simp only [spec_OrderOk.l0,rdL_nat]
    repeat(with_reducible first|refine Ev.ip ?_|refine Ev.iq ?_)
    by_cases e1:(U.getD i []).length=U.length
    ·repeat(with_reducible first|refine Ev.ip ?_|refine Ev.iq ?_)
     refine Ev.eq (Ev.all (n:=U.length) (g:=fun k j=>spec_OrderOk.l1 k U U.length i j) (fun j=>at2 U i j==0||at2 U i j==1) (go:=R) (stop:=false) (by omega) (fun h=>?_) fun j hj _ R2 hR2=>?_) (by unfold rowS;simp [-List.getD_eq_getElem?_getD,e1])
     ·refine Ev.succ ?_
      simp only [spec_OrderOk.l1]
      repeat(with_reducible first|refine Ev.ip ?_|refine Ev.iq ?_)
      exact hR (by unfold rowS;simp only [e1,BEq.rfl,Bool.true_and];exact allN_iff.2 h)
     ·refine Ev.succ ?_
      simp only [spec_OrderOk.l1,rdL_nat,rd_nat,rd_row,l1In_eq]
      repeat(with_reducible first|refine Ev.ip ?_|refine Ev.iq ?_)
      refine Ev.pbind rfl ?_
      have e:(decide (0≤at2 U i j) && decide (at2 U i j≤1))=(at2 U i j==0||at2 U i j==1):=by
       rw [Bool.eq_iff_iff];simp only [Bool.and_eq_true,decide_eq_true_eq,Bool.or_eq_true,beq_iff_eq];omega
      rw [e]
      cases hb:(at2 U i j==0||at2 U i j==1) with
      |true=>
       repeat(with_reducible first|refine Ev.ip ?_|refine Ev.iq ?_)
       exact hR2 hb
      |false=>
       repeat(with_reducible first|refine Ev.ip ?_|refine Ev.iq ?_)
       exact Ev.now _
    ·repeat(with_reducible first|refine Ev.ip ?_|refine Ev.iq ?_)
     exact Ev.eq (Ev.now _) (by unfold rowS;simp [-List.getD_eq_getElem?_getD,e1])
  ·rw [show (decide ((1:Int)≤U.length) && decide ((U.length:Int)≤12))=false by simp;omega]
   simp only [h1,h2,decide_true,decide_false,Bool.true_and,Bool.false_and]
   repeat(with_reducible first|refine Ev.ip ?_|refine Ev.iq ?_)
   exact Ev.now _
 ·rw [show (decide ((1:Int)≤U.length) && decide ((U.length:Int)≤12))=false by simp;omega]
  simp only [h1,decide_false,Bool.false_and]
  repeat(with_reducible first|refine Ev.ip ?_|refine Ev.iq ?_)
  exact Ev.now _
theorem meetO_comm (U : List (List Int)) (a b : Nat) : meetO U a b = meetO U b a := by
 unfold meetO
 refine findN_congr fun c _=>?_
 rw [Bool.eq_iff_iff,meetP_iff,meetP_iff]
 constructor <;> rintro ⟨h1,h2,h3⟩ <;> exact⟨h2,h1,fun d hd k1 k2=>h3 d hd k2 k1⟩
theorem joinO_comm (U : List (List Int)) (a b : Nat) : joinO U a b = joinO U b a := by
 unfold joinO
 refine findN_congr fun c _=>?_
 rw [Bool.eq_iff_iff,joinP_iff,joinP_iff]
 constructor <;> rintro ⟨h1,h2,h3⟩ <;> exact⟨h2,h1,fun d hd k1 k2=>h3 d hd k2 k1⟩
theorem lattice_half {U : List (List Int)} (O : Order U) : (allN U.length fun a => allN U.length fun b => (meetO U a b).isSome && (joinO U a b).isSome) = allN U.length fun a => allN a fun b => (meetO U a b).isSome && (joinO U a b).isSome := by
 rw [Bool.eq_iff_iff]
 simp only [allN_iff]
 constructor
 ·intro h a ha b hb
  exact h a ha b (by omega)
 ·intro h a ha b hb
  rcases Nat.lt_trichotomy b a with hlt|rfl|hlt
  ·exact h a ha b hlt
  ·rw [O.meet_eq (a:=b) (b:=b) hb (meetP_iff.2 ⟨O.refl b hb,O.refl b hb,fun d _ h _=>h⟩),O.join_eq (a:=b) (b:=b) hb (joinP_iff.2 ⟨O.refl b hb,O.refl b hb,fun d _ h _=>h⟩)]
   rfl
  ·rw [meetO_comm,joinO_comm]
   exact h b hb a hlt
theorem spec_LatticeOk.ev (U : List (List Int)) : Ev (fun k => spec_LatticeOk.f k U) (latticeB U) := by
 unfold spec_LatticeOk.f latticeB
 have ho:=spec_OrderOk.ev U
 cases hb:orderB U with
 |false=>
  rw [hb] at ho
  have fin:Ev (fun k=>spec_LatticeOk.j1 k U 0 false) false:=by
   refine Ev.succ ?_
   simp only [spec_LatticeOk.j1]
   repeat(with_reducible first|refine Ev.ip ?_|refine Ev.iq ?_)
   exact Ev.bind ho (Ev.now _)
  refine Ev.succ ?_
  simp only [spec_LatticeOk.l0]
  by_cases h0:(0:Int)<(U.length:Int)
  ·repeat(with_reducible first|refine Ev.ip ?_|refine Ev.iq ?_)
   exact Ev.bind ho fin
  ·repeat(with_reducible first|refine Ev.ip ?_|refine Ev.iq ?_)
   exact fin
 |true=>
  rw [hb] at ho
  have O:=orderB_iff.1 hb
  have hs:=O.small
  refine Ev.eq (Ev.all (n:=U.length) (g:=fun k i=>spec_LatticeOk.l0 k U i) (fun a=>allN a fun b=>(meetO U a b).isSome && (joinO U a b).isSome) (go:=true) (stop:=false) (by omega) (fun _=>?_) fun a ha _ R hR=>?_) (by rw [Bool.true_and,lattice_half O];cases allN U.length _ <;> rfl)
  ·refine Ev.succ ?_
   simp only [spec_LatticeOk.l0]
   repeat(with_reducible first|refine Ev.ip ?_|refine Ev.iq ?_)
   refine Ev.succ ?_
   simp only [spec_LatticeOk.j1]
   repeat(with_reducible first|refine Ev.ip ?_|refine Ev.iq ?_)
   exact Ev.bind ho (Ev.now _)
  ·refine Ev.succ ?_
   simp only [spec_LatticeOk.l0]
   repeat(with_reducible first|refine Ev.ip ?_|refine Ev.iq ?_)
   refine Ev.bind ho ?_
   refine Ev.succ ?_
   simp only [spec_LatticeOk.j1]
   repeat(with_reducible first|refine Ev.ip ?_|refine Ev.iq ?_)
   refine Ev.all (n:=a) (g:=fun k i=>spec_LatticeOk.l1 k U a i) _ (by omega) (fun h=>?_) fun b hb' _ R2 hR2=>?_
   ·refine Ev.succ ?_
    simp only [spec_LatticeOk.l1]
    repeat(with_reducible first|refine Ev.ip ?_|refine Ev.iq ?_)
    exact hR (allN_iff.2 h)
   ·refine Ev.succ ?_
    have hb:b<U.length:=by omega
    simp only [spec_LatticeOk.l1]
    repeat(with_reducible first|refine Ev.ip ?_|refine Ev.iq ?_)
    refine Ev.bind (spec_l1Meet.ev O ha hb) ?_
    unfold mI
    cases em:meetO U a b with
    |none=>
     refine Ev.ite_pos (by simp [optI]) ?_
     exact Ev.eq (Ev.now _) (by simp)
    |some m=>
     refine Ev.ite_neg (by have:=optI_neg (some 0);simp [optI]) ?_
     refine Ev.bind (spec_l1Join.ev O ha hb) ?_
     unfold jI
     cases ej:joinO U a b with
     |none=>
      refine Ev.ite_pos (by simp [optI]) ?_
      exact Ev.eq (Ev.now _) (by simp)
     |some j=>
      refine Ev.ite_neg (by have:=optI_neg (some 0);simp [optI]) ?_
      exact Ev.eq (hR2 (by simp [em,ej])) (by simp)
theorem spec_LeastOf.ev (U : List (List Int)) : Ev (fun k => spec_LeastOf.f k U) (if orderB U = true then (optI (leastO U), (leastO U).isSome) else (-1, false)) := by
 unfold spec_LeastOf.f
 have ho:=spec_OrderOk.ev U
 cases hb:orderB U with
 |false=>
  rw [hb] at ho
  have fin:Ev (fun k=>spec_LeastOf.j1 k U 0 false) (-1,false):=by
   refine Ev.succ ?_
   simp only [spec_LeastOf.j1]
   repeat(with_reducible first|refine Ev.ip ?_|refine Ev.iq ?_)
   exact Ev.now _
  repeat(with_reducible first|refine Ev.ip ?_|refine Ev.iq ?_)
  refine Ev.succ ?_
  simp only [spec_LeastOf.l0]
  by_cases h0:(0:Int)<(U.length:Int)
  ·repeat(with_reducible first|refine Ev.ip ?_|refine Ev.iq ?_)
   exact Ev.eq (Ev.bind ho fin) (by simp)
  ·repeat(with_reducible first|refine Ev.ip ?_|refine Ev.iq ?_)
   exact Ev.eq fin (by simp)
 |true=>
  rw [hb] at ho
  have O:=orderB_iff.1 hb
  have hs:=O.small
  refine Ev.eq (Ev.find (n:=U.length) (g:=fun k i=>spec_LeastOf.l0 k U i) (fun a=>allN U.length fun b=>leB U a b) (none':=(-1,false)) (some':=fun i=>((i:Int),true)) (by omega) (fun _=>?_) fun a ha _ R hR=>?_) (by rw [if_pos rfl];unfold leastO;cases findN U.length _ <;> rfl)
  ·refine Ev.succ ?_
   simp only [spec_LeastOf.l0]
   repeat(with_reducible first|refine Ev.ip ?_|refine Ev.iq ?_)
   refine Ev.succ ?_
   simp only [spec_LeastOf.j1]
   repeat(with_reducible first|refine Ev.ip ?_|refine Ev.iq ?_)
   exact Ev.now _
  ·refine Ev.succ ?_
   simp only [spec_LeastOf.l0]
   repeat(with_reducible first|refine Ev.ip ?_|refine Ev.iq ?_)
   refine Ev.bind ho ?_
   refine Ev.succ ?_
   simp only [spec_LeastOf.j1]
   repeat(with_reducible first|refine Ev.ip ?_|refine Ev.iq ?_)
   have key: ∀d i,i+d=U.length→ ∀fl:Bool,(fl && allFrom U.length (fun b=>leB U a b) i)=allN U.length (fun b=>leB U a b)→Ev (fun k=>spec_LeastOf.l1 k U a fl i) (if allN U.length (fun b=>leB U a b)=true then((a:Int),true) else R):=by
    intro d
    induction d with
    |zero=>
     intro i hi fl hfl
     refine Ev.succ ?_
     simp only [spec_LeastOf.l1]
     rw [allFrom_ge (by omega),Bool.and_true] at hfl
     rw [hfl]
     repeat(with_reducible first|refine Ev.ip ?_|refine Ev.iq ?_)
     cases ha':allN U.length (fun b=>leB U a b) with
     |true=>
      repeat(with_reducible first|refine Ev.ip ?_|refine Ev.iq ?_)
      exact Ev.now _
     |false=>
      repeat(with_reducible first|refine Ev.ip ?_|refine Ev.iq ?_)
      exact hR ha'
    |succ d ih=>
     intro i hi fl hfl
     rw [allFrom_lt (by omega)] at hfl
     refine Ev.succ ?_
     have rl:=O.row a ha
     simp only [spec_LeastOf.l1,rdL_nat,rd_nat,rd_row,wrap_nat (show i<4611686018427387904 by omega),rl]
     repeat(with_reducible first|refine Ev.ip ?_|refine Ev.iq ?_)
     cases fl with
     |true=>
      repeat(with_reducible first|refine Ev.ip ?_|refine Ev.iq ?_)
      exact ih (i+1) (by omega) _ hfl
     |false=>
      repeat(with_reducible first|refine Ev.ip ?_|refine Ev.iq ?_)
      exact ih (i+1) (by omega) _ (by rw [← hfl];simp)
   exact key U.length 0 (by omega) true (by rw [allFrom_zero,Bool.true_and])
def negS (U : List (List Int)) (N : List Int) (a : Nat) : Bool :=
 at1 N (at1 N a).toNat==(a:Int) && (mI U a (at1 N a).toNat==optI (leastO U) && allN U.length fun b=>!leB U a b||leB U (at1 N b).toNat (at1 N a).toNat)
theorem logicB_spec (U : List (List Int)) (N : List Int) : logicB U N = (latticeB U && (N.length == U.length && (allN U.length (fun a => decide (0 ≤ at1 N a) && decide (at1 N a < U.length)) && allN U.length (negS U N)))) := by
 unfold logicB negS mI
 have e: ∀x y:Option Nat,(optI x==optI y)=(x==y):=by
  intro x y
  rw [Bool.eq_iff_iff,beq_iff_eq,beq_iff_eq]
  exact⟨optI_inj,fun h=>by rw [h]⟩
 simp only [e]
theorem spec_LogicOk.ev (U : List (List Int)) (N : List Int) : Ev (fun k => spec_LogicOk.f k U N) (logicB U N) := by
 rw [logicB_spec]
 unfold spec_LogicOk.f
 refine Ev.bind (spec_LatticeOk.ev U) ?_
 have jf:Ev (fun k=>spec_LogicOk.j0 k U.length true U N) false:=by
  refine Ev.succ ?_
  simp only [spec_LogicOk.j0]
  repeat(with_reducible first|refine Ev.ip ?_|refine Ev.iq ?_)
  exact Ev.now _
 cases hl:latticeB U with
 |false=>
  repeat(with_reducible first|refine Ev.ip ?_|refine Ev.iq ?_)
  exact Ev.eq jf (by simp)
 |true=>
  have O:=latticeB_order hl
  have hs:=O.small
  repeat(with_reducible first|refine Ev.ip ?_|refine Ev.iq ?_)
  by_cases hn:N.length=U.length
  ·rw [show ((N.length:Int) !=(U.length:Int))=false by rw [hn];simp,show (N.length==U.length)=true by simp [hn]]
   simp only [Bool.true_and]
   refine Ev.succ ?_
   simp only [spec_LogicOk.j0]
   repeat(with_reducible first|refine Ev.ip ?_|refine Ev.iq ?_)
   refine Ev.eq (Ev.all (n:=U.length) (g:=fun k i=>spec_LogicOk.l0 k U.length i U N) (fun a=>decide (0≤at1 N a) && decide (at1 N a<U.length)) (go:=allN U.length (negS U N)) (stop:=false) (by omega) (fun hr=>?_) fun i hi _ R hR=>?_) (by cases allN U.length fun a=>decide (0≤at1 N a) && decide (at1 N a<U.length) <;> rfl)
   ·have ran: ∀a,a<U.length→ ∃m:Nat,at1 N a=m∧m<U.length:=fun a ha=>by
     have:=hr a ha
     simp only [Bool.and_eq_true,decide_eq_true_eq] at this
     exact⟨(at1 N a).toNat,by omega,by omega⟩
    refine Ev.succ ?_
    simp only [spec_LogicOk.l0]
    repeat(with_reducible first|refine Ev.ip ?_|refine Ev.iq ?_)
    refine Ev.bind (spec_LeastOf.ev U) ?_
    rw [if_pos (orderB_iff.2 O)]
    refine Ev.eq (Ev.all (n:=U.length) (g:=fun k i=>spec_LogicOk.l1 k U.length (optI (leastO U)) i U N) (negS U N) (go:=true) (stop:=false) (by omega) (fun _=>?_) fun a ha _ R hR=>?_) (by cases allN U.length (negS U N) <;> rfl)
    ·refine Ev.succ ?_
     simp only [spec_LogicOk.l1]
     repeat(with_reducible first|refine Ev.ip ?_|refine Ev.iq ?_)
     exact Ev.now _
    ·obtain⟨m,hm,hmn⟩:=ran a ha
     have fal:Ev (fun k=>spec_LogicOk.j3 k U.length (optI (leastO U)) a true U N) false:=by
      refine Ev.succ ?_
      simp only [spec_LogicOk.j3]
      repeat(with_reducible first|refine Ev.ip ?_|refine Ev.iq ?_)
      exact Ev.now _
     refine Ev.succ ?_
     simp only [spec_LogicOk.l1,rd_nat,hm]
     have hneg:negS U N a=(at1 N m==(a:Int) && (mI U a m==optI (leastO U) && allN U.length fun b=>!leB U a b||leB U (at1 N b).toNat m)):=by unfold negS;rw [hm,Int.toNat_natCast]
     repeat(with_reducible first|refine Ev.ip ?_|refine Ev.iq ?_)
     by_cases e1:at1 N m=a
     ·repeat(with_reducible first|refine Ev.ip ?_|refine Ev.iq ?_)
      refine Ev.bind (spec_l1Meet.ev O ha hmn) ?_
      by_cases e2:mI U a m=optI (leastO U)
      ·rw [show (mI U a m !=optI (leastO U))=false by simp [e2]]
       refine Ev.succ ?_
       simp only [spec_LogicOk.j3]
       repeat(with_reducible first|refine Ev.ip ?_|refine Ev.iq ?_)
       have hneg2:negS U N a=allN U.length fun b=>!leB U a b||leB U (at1 N b).toNat m:=by rw [hneg,show (at1 N m==(a:Int))=true by simp [e1],show (mI U a m==optI (leastO U))=true by simp [e2],Bool.true_and,Bool.true_and]
       rw [hneg2]
       refine Ev.all (n:=U.length) (g:=fun k i=>spec_LogicOk.l2 k U.length (optI (leastO U)) a i U N) _ (by omega) (fun h=>?_) fun b hb _ R3 hR3=>?_
       ·refine Ev.succ ?_
        simp only [spec_LogicOk.l2]
        repeat(with_reducible first|refine Ev.ip ?_|refine Ev.iq ?_)
        exact hR (by rw [hneg2];exact allN_iff.2 h)
       ·obtain⟨q,hq,hqn⟩:=ran b hb
        have vab:=O.val ha hb
        have vqm:=O.val hqn hmn
        have ra:=O.row a ha
        have rq:=O.row q hqn
        refine Ev.succ ?_
        simp only [spec_LogicOk.l2,rdL_nat,rd_nat,rd_row,hq,hm,ra,rq,vab,vqm,Int.toNat_natCast]
        rw [hq,Int.toNat_natCast] at hR3
        repeat(with_reducible first|refine Ev.ip ?_|refine Ev.iq ?_)
        cases f1:leB U a b with
        |false=>
         repeat(with_reducible first|refine Ev.ip ?_|refine Ev.iq ?_)
         exact hR3 (by simp [f1])
        |true=>
         repeat(with_reducible first|refine Ev.ip ?_|refine Ev.iq ?_)
         cases f2:leB U q m with
         |false=>
          repeat(with_reducible first|refine Ev.ip ?_|refine Ev.iq ?_)
          exact Ev.now _
         |true=>
          repeat(with_reducible first|refine Ev.ip ?_|refine Ev.iq ?_)
          exact hR3 (by simp [f2])
      ·rw [show (mI U a m !=optI (leastO U))=true by simp [e2]]
       exact Ev.eq fal (by rw [hneg];simp [e2])
     ·repeat(with_reducible first|refine Ev.ip ?_|refine Ev.iq ?_)
      exact Ev.eq fal (by rw [hneg];simp [e1])
   ·refine Ev.succ ?_
    simp only [spec_LogicOk.l0,rd_nat,l1In_eq]
    repeat(with_reducible first|refine Ev.ip ?_|refine Ev.iq ?_)
    refine Ev.pbind rfl ?_
    have e:(decide (0≤at1 N i) && decide (at1 N i≤wrap64 ((U.length:Int) - 1)))=(decide (0≤at1 N i) && decide (at1 N i<U.length)):=by
     rw [wrap_small (by omega) (by omega)]
     congr 1
     rw [decide_eq_decide];omega
    rw [e]
    cases hb:(decide (0≤at1 N i) && decide (at1 N i<U.length)) with
    |true=>
     repeat(with_reducible first|refine Ev.ip ?_|refine Ev.iq ?_)
     exact hR hb
    |false=>
     repeat(with_reducible first|refine Ev.ip ?_|refine Ev.iq ?_)
     exact Ev.now _
  ·rw [show ((N.length:Int) !=(U.length:Int))=true by rw [bne_iff_ne];omega,show (N.length==U.length)=false by simp [hn]]
   exact Ev.eq jf (by simp)
theorem spec_l2Both.ev (U : List (List Int)) (N : List Int) (a b : Int) : Ev (fun k => spec_l2Both.f k U N a b) (logicB U N && (inR U.length a && inR U.length b)) := by
 unfold spec_l2Both.f
 refine Ev.bind (spec_LogicOk.ev U N) ?_
 cases hl:logicB U N with
 |false=>
  repeat(with_reducible first|refine Ev.ip ?_|refine Ev.iq ?_)
  exact Ev.now _
 |true=>
  have L:=logicB_iff.1 hl
  have hs:=L.small
  have hp:=L.pos
  have hln:=L.len
  have e: ∀c:Int,(decide (0≤c) && decide (c≤wrap64 ((N.length:Int) - 1)))=inR U.length c:=by
   intro c
   unfold inR
   rw [wrap_small (by omega) (by omega)]
   congr 1
   rw [decide_eq_decide];omega
  repeat(with_reducible first|refine Ev.ip ?_|refine Ev.iq ?_)
  simp only [l1In_eq,e]
  refine Ev.pbind rfl ?_
  cases ha:inR U.length a with
  |false=>
   repeat(with_reducible first|refine Ev.ip ?_|refine Ev.iq ?_)
   exact Ev.eq (Ev.now _) (by simp)
  |true=>
   repeat(with_reducible first|refine Ev.ip ?_|refine Ev.iq ?_)
   exact Ev.eq (Ev.now _) (by simp)
theorem spec_NoOf.ev (U : List (List Int)) (N : List Int) : Ev (fun k => spec_NoOf.f k U N) (if logicB U N = true then noI U else -1) := by
 unfold spec_NoOf.f
 refine Ev.bind (spec_LogicOk.ev U N) ?_
 cases hl:logicB U N with
 |false=>
  repeat(with_reducible first|refine Ev.ip ?_|refine Ev.iq ?_)
  exact Ev.now _
 |true=>
  have L:=logicB_iff.1 hl
  have ho:orderB U=true:=orderB_iff.2 L.toOrder
  repeat(with_reducible first|refine Ev.ip ?_|refine Ev.iq ?_)
  refine Ev.bind (spec_LeastOf.ev U) ?_
  rw [ho]
  exact Ev.now _
theorem spec_NotOf.ev (U : List (List Int)) (N : List Int) (a : Int) : Ev (fun k => spec_NotOf.f k U N a) (if logicB U N = true then (if inR U.length a = true then notI N a else -1) else -1) := by
 unfold spec_NotOf.f
 refine Ev.bind (spec_l2Both.ev U N a a) ?_
 cases hl:logicB U N with
 |false=>
  repeat(with_reducible first|refine Ev.ip ?_|refine Ev.iq ?_)
  exact Ev.now _
 |true=>
  have L:=logicB_iff.1 hl
  cases ha:inR U.length a with
  |false=>
   repeat(with_reducible first|refine Ev.ip ?_|refine Ev.iq ?_)
   exact Ev.now _
  |true=>
   have ia:=inR_iff.1 ha
   have h0:=ia.1
   have h1:=ia.2
   have hl2:=L.len
   obtain⟨x,rfl⟩: ∃x:Nat,a=x:=⟨a.toNat,by omega⟩
   repeat(with_reducible first|refine Ev.ip ?_|refine Ev.iq ?_)
   exact Ev.eq (Ev.now _) (by rw [rd_nat];rfl)
section
section
variable {U : List (List Int)} {N : List Int} (L : Logic U N)
include L
theorem join_in {a b : Int} (ha : In U a) (hb : In U b) : Ev (fun k => spec_l1Join.f k U a b) (orI U a b) := by
 obtain⟨x,rfl⟩: ∃x:Nat,a=x:=⟨a.toNat,by have:=ha.1;omega⟩
 obtain⟨y,rfl⟩: ∃y:Nat,b=y:=⟨b.toNat,by have:=hb.1;omega⟩
 exact spec_l1Join.ev L.toOrder (by have:=ha.2;omega) (by have:=hb.2;omega)
end
end
theorem spec_YesOf.ev (U : List (List Int)) (N : List Int) : Ev (fun k => spec_YesOf.f k U N) (if logicB U N = true then yesI U N else -1) := by
 unfold spec_YesOf.f
 refine Ev.bind (spec_NoOf.ev U N) ?_
 cases hl:logicB U N with
 |false=>
  rw [if_neg (by simp),if_neg (by simp)]
  refine Ev.bind (spec_NotOf.ev U N _) ?_
  rw [hl]
  exact Ev.now _
 |true=>
  have L:=logicB_iff.1 hl
  rw [if_pos rfl,if_pos rfl]
  refine Ev.bind (spec_NotOf.ev U N _) ?_
  rw [hl,if_pos rfl,if_pos (inR_iff.2 L.in_no)]
  exact Ev.now _
theorem spec_l9State.ev {U : List (List Int)} {N : List Int} (L : Logic U N) (s : Nat) : Ev (fun k => spec_l9State.f k U N (s : Int) (yesI U N)) (stB U N s) := by
 rw [← stS_eq L]
 unfold spec_l9State.f stS
 have hs:=L.small
 have hln:=L.len
 have O:=L.toOrder
 rw [yes_fin L,smod_nat s (show (L.ol.top).1≤64 by have:=(L.ol.top).2;omega),Int.toNat_natCast]
 repeat(with_reducible first|refine Ev.ip ?_|refine Ev.iq ?_)
 cases ht:s.testBit (L.ol.top).1 with
 |false=>
  rw [if_neg (by simp)]
  repeat(with_reducible first|refine Ev.ip ?_|refine Ev.iq ?_)
  rw [Bool.false_and]
  exact Ev.now _
 |true=>
  rw [if_pos rfl,Bool.true_and]
  repeat(with_reducible first|refine Ev.ip ?_|refine Ev.iq ?_)
  refine Ev.eq (Ev.all (n:=U.length) (g:=fun k a=>spec_l9State.l0 k (s:Int) a U N) (fun a=>(s.testBit a !=s.testBit (notI N a).toNat) && allN a fun b=>!leI U a (notI N b)||(!(s.testBit a && s.testBit b) && (s.testBit (orI U a b).toNat==(s.testBit a||s.testBit b)))) (go:=true) (stop:=false) (by omega) (fun _=>?_) fun a ha _ R hR=>?_) (by cases allN U.length _ <;> rfl)
  ·refine Ev.succ ?_
   simp only [spec_l9State.l0]
   repeat(with_reducible first|refine Ev.ip ?_|refine Ev.iq ?_)
   exact Ev.now _
  ·have hra:=O.row a ha
   have hna:at1 N a=(((L.ol.neg ⟨a,ha⟩).1:Nat):Int):=L.ng_eq ⟨a,ha⟩
   have hna2:(notI N (a:Int)).toNat=(L.ol.neg ⟨a,ha⟩).1:=by
    have:=not_fin L (⟨a,ha⟩:Fin U.length)
    rw [this,Int.toNat_natCast]
   have hnl:=(L.ol.neg ⟨a,ha⟩).2
   refine Ev.succ ?_
   simp only [spec_l9State.l0,rd_nat,hna,smod_nat s (show a≤64 by omega),smod_nat s (show (L.ol.neg ⟨a,ha⟩).1≤64 by omega)]
   rw [hna2] at hR ⊢
   repeat(with_reducible first|refine Ev.ip ?_|refine Ev.iq ?_)
   generalize hn:s.testBit (L.ol.neg ⟨a,ha⟩).1=n at hR ⊢
   generalize hp:s.testBit a=p at hR ⊢
   by_cases hne:p=n
   ·subst hne
    have hw: ¬wrap64 ((if p=true then 1 else 0)+(if p=true then 1 else 0))=1:=by cases p <;> simp [wrap64]
    repeat(with_reducible first|refine Ev.ip ?_|refine Ev.iq ?_)
    exact Ev.eq (Ev.now _) (by cases p <;> rfl)
   ·have hw:wrap64 ((if p=true then 1 else 0)+(if n=true then 1 else 0))=1:=by cases p <;> cases n <;> simp_all [wrap64]
    have hb:(p !=n)=true:=by cases p <;> cases n <;> simp_all
    rw [hb,Bool.true_and] at hR ⊢
    repeat(with_reducible first|refine Ev.ip ?_|refine Ev.iq ?_)
    refine Ev.eq (Ev.all (n:=a) (g:=fun k b=>spec_l9State.l1 k (s:Int) (a:Int) b U N) (fun b=>!leI U a (notI N b)||(!(p && s.testBit b) && (s.testBit (orI U a b).toNat==(p||s.testBit b)))) (go:=R) (stop:=false) (by omega) (fun hall=>?_) fun b hb2 _ R2 hR2=>?_) rfl
    ·refine Ev.succ ?_
     simp only [spec_l9State.l1]
     repeat(with_reducible first|refine Ev.ip ?_|refine Ev.iq ?_)
     exact hR (allN_iff.2 hall)
    ·have hbn:b<U.length:=by omega
     have hnb:at1 N b=(((L.ol.neg ⟨b,hbn⟩).1:Nat):Int):=L.ng_eq ⟨b,hbn⟩
     have hnb2:notI N (b:Int)=(((L.ol.neg ⟨b,hbn⟩).1:Nat):Int):=not_fin L (⟨b,hbn⟩:Fin U.length)
     have hnbl:=(L.ol.neg ⟨b,hbn⟩).2
     have hjo:orI U (a:Int) (b:Int)=(((L.ol.join ⟨a,ha⟩ ⟨b,hbn⟩).1:Nat):Int):=or_fin L ⟨a,ha⟩ ⟨b,hbn⟩
     have hjl:=(L.ol.join ⟨a,ha⟩ ⟨b,hbn⟩).2
     have hev:Ev (fun k=>spec_l1Join.f k U (a:Int) (b:Int)) (((L.ol.join ⟨a,ha⟩ ⟨b,hbn⟩).1:Nat):Int):=by rw [← hjo];exact join_in L ⟨by omega,by omega⟩ ⟨by omega,by omega⟩
     have hv:=O.val ha hnbl
     have hle:leI U (a:Int) (((L.ol.neg ⟨b,hbn⟩).1:Nat):Int)=leB U a (L.ol.neg ⟨b,hbn⟩).1:=by simp [leI]
     refine Ev.succ ?_
     simp only [spec_l9State.l1,rd_nat,rdL_nat,hnb,rd_row,hra]
     rw [hnb2,hjo,Int.toNat_natCast,hle] at hR2 ⊢
     rw [hv]
     repeat(with_reducible first|refine Ev.ip ?_|refine Ev.iq ?_)
     generalize leB U a (L.ol.neg ⟨b,hbn⟩).1=le at hR2 ⊢
     cases le with
     |false=>
      repeat(with_reducible first|refine Ev.ip ?_|refine Ev.iq ?_)
      exact Ev.eq (hR2 rfl) rfl
     |true=>
      repeat(with_reducible first|refine Ev.ip ?_|refine Ev.iq ?_)
      refine Ev.bind hev ?_
      rw [smod_nat s (show a≤64 by omega),smod_nat s (show b≤64 by omega),smod_nat s (show (L.ol.join ⟨a,ha⟩ ⟨b,hbn⟩).1≤64 by omega),hp]
      generalize s.testBit b=q at hR2 ⊢
      generalize s.testBit (L.ol.join ⟨a,ha⟩ ⟨b,hbn⟩).1=z at hR2 ⊢
      repeat(with_reducible first|refine Ev.ip ?_|refine Ev.iq ?_)
      by_cases hs2:(!(p && q) && (z==(p||q)))=true
      ·have hw2:wrap64 ((if p=true then 1 else 0)+(if q=true then 1 else 0))=(if z=true then 1 else 0):=by revert hs2;cases p <;> cases q <;> cases z <;> simp [wrap64]
       repeat(with_reducible first|refine Ev.ip ?_|refine Ev.iq ?_)
       exact Ev.eq (hR2 (by rw [hs2];rfl)) (by rw [hs2];rfl)
      ·have hw2: ¬wrap64 ((if p=true then 1 else 0)+(if q=true then 1 else 0))=(if z=true then 1 else 0):=by revert hs2;cases p <;> cases q <;> cases z <;> simp [wrap64]
       repeat(with_reducible first|refine Ev.ip ?_|refine Ev.iq ?_)
       exact Ev.eq (Ev.now _) (by rw [show (!(p && q) && (z==(p||q)))=false by simpa using hs2];rfl)
theorem isSt_nat {U : List (List Int)} {N : List Int} {s : Nat} (h : s < 2 ^ U.length) : isSt U N (s : Int) = stB U N s := by
 unfold isSt
 rw [decide_eq_true (by omega),decide_eq_true (by omega),Int.toNat_natCast];rfl
theorem spec_StatesOf.ev (U : List (List Int)) (N : List Int) : Ev (fun k => spec_StatesOf.f k U N) (if logicB U N = true then stL U N else []) := by
 unfold spec_StatesOf.f
 refine Ev.pbind rfl (Ev.bind (spec_LogicOk.ev U N) ?_)
 cases hl:logicB U N with
 |false=>
  repeat(with_reducible first|refine Ev.ip ?_|refine Ev.iq ?_)
  exact Ev.now _
 |true=>
  have L:=logicB_iff.1 hl
  have hs:=L.small
  rw [if_pos rfl]
  repeat(with_reducible first|refine Ev.ip ?_|refine Ev.iq ?_)
  refine Ev.bind (spec_YesOf.ev U N) ?_
  rw [hl,if_pos rfl]
  have hM1:1≤2 ^ U.length:=Nat.one_le_two_pow
  have hM2:2 ^ U.length≤4096:=Nat.pow_le_pow_right (by omega) hs
  have key: ∀d s,s+d=2 ^ U.length→Ev (fun k=>spec_StatesOf.l0 k (filI s fun(s:Nat)=>isSt U N (s:Int)) (yesI U N) (s:Int) U N) (stL U N):=by
   intro d
   induction d with
   |zero=>
    intro s hsd
    refine Ev.succ ?_
    simp only [spec_StatesOf.l0,L.len,shl_nat (show U.length≤40 by omega)]
    repeat(with_reducible first|refine Ev.ip ?_|refine Ev.iq ?_)
    rw [show s=2 ^ U.length by omega]
    exact Ev.now _
   |succ d ih=>
    intro s hsd
    have K:=ih (s+1) (by omega)
    refine Ev.succ ?_
    simp only [spec_StatesOf.l0,L.len,shl_nat (show U.length≤40 by omega),wrap_nat (show s<4611686018427387904 by omega)]
    repeat(with_reducible first|refine Ev.ip ?_|refine Ev.iq ?_)
    refine Ev.bind (spec_l9State.ev L s) ?_
    rw [filI_succ,isSt_nat (show s<2 ^ U.length by omega)] at K
    have hlen:(filI s fun(s:Nat)=>isSt U N (s:Int)).length<17592186044416:=by have:=filI_length s (fun(s:Nat)=>isSt U N (s:Int));omega
    cases hb:stB U N s with
    |true=>
     rw [hb,if_pos rfl] at K
     repeat(with_reducible first|refine Ev.ip ?_|refine Ev.iq ?_)
     exact K
    |false=>
     rw [hb,if_neg (by simp)] at K
     repeat(with_reducible first|refine Ev.ip ?_|refine Ev.iq ?_)
     exact K
  have h0:(filI 1 fun(s:Nat)=>isSt U N (s:Int))= []:=by
   rw [filI_succ,filI_zero,if_neg]
   ·have:isSt U N ((0:Nat):Int)=false:=by
     unfold isSt stB
     rw [show (((0:Nat):Int)).toNat=0 from rfl,Nat.zero_testBit];simp
    rw [this];simp
  have:=key (2 ^ U.length - 1) 1 (by omega)
  rw [h0] at this
  exact this
theorem any_succ (l : List Nat) (p : Nat → Bool) {i : Nat} (h : i < l.length) : (l.take (i + 1)).any p = ((l.take i).any p || p (l.getD i 0)) := by
 rw [List.take_succ_eq_append_getElem h,List.any_append,List.getD_eq_getElem?_getD,List.getElem?_eq_getElem h];simp
theorem spec_FullOk.ev (U : List (List Int)) (N : List Int) : Ev (fun k => spec_FullOk.f k U N) (if logicB U N = true then fulB U N else false) := by
 unfold spec_FullOk.f
 refine Ev.bind (spec_LogicOk.ev U N) ?_
 cases hl:logicB U N with
 |false=>
  repeat(with_reducible first|refine Ev.ip ?_|refine Ev.iq ?_)
  exact Ev.now _
 |true=>
  have L:=logicB_iff.1 hl
  have O:=L.toOrder
  have hs:=L.small
  have hln:=L.len
  rw [if_pos rfl]
  repeat(with_reducible first|refine Ev.ip ?_|refine Ev.iq ?_)
  refine Ev.bind (spec_StatesOf.ev U N) ?_
  rw [hl,if_pos rfl]
  have hlen:(stL U N).length=(stN U N).length:=filI_len _ _
  have hpow:2 ^ U.length≤4096:=Nat.pow_le_pow_right (by omega) hs
  have hlen2:(stN U N).length≤4096:=Nat.le_trans (filN_len _ _) hpow
  unfold fulB
  refine Ev.eq (Ev.all (n:=U.length) (g:=fun k a=>spec_FullOk.l0 k (stL U N) a U N) (fun a=>allN U.length fun b=>leI U a b||(stN U N).any (fulT a b)) (go:=true) (stop:=false) (by omega) (fun _=>?_) fun a ha _ R hR=>?_) (by cases allN U.length _ <;> rfl)
  ·refine Ev.succ ?_
   simp only [spec_FullOk.l0]
   repeat(with_reducible first|refine Ev.ip ?_|refine Ev.iq ?_)
   exact Ev.now _
  ·have hra:=O.row a ha
   refine Ev.succ ?_
   simp only [spec_FullOk.l0]
   repeat(with_reducible first|refine Ev.ip ?_|refine Ev.iq ?_)
   refine Ev.eq (Ev.all (n:=U.length) (g:=fun k b=>spec_FullOk.l1 k (stL U N) (a:Int) b U N) (fun b=>leI U a b||(stN U N).any (fulT a b)) (go:=R) (stop:=false) (by omega) (fun hall=>?_) fun b hb _ R2 hR2=>?_) rfl
   ·refine Ev.succ ?_
    simp only [spec_FullOk.l1]
    repeat(with_reducible first|refine Ev.ip ?_|refine Ev.iq ?_)
    exact hR (allN_iff.2 hall)
   ·have hv:=O.val ha hb
    have hle:leI U (a:Int) (b:Int)=leB U a b:=by simp [leI]
    have hone:((at2 U a b==1):Bool)=leB U a b:=rfl
    refine Ev.succ ?_
    simp only [spec_FullOk.l1,rdL_nat,rd_nat,rd_row,hra,hone]
    repeat(with_reducible first|refine Ev.ip ?_|refine Ev.iq ?_)
    rw [hle] at hR2 ⊢
    refine Ev.loop (g:=fun k x i=>spec_FullOk.l2 k (stL U N) (a:Int) (b:Int) x i U N) (stL U N).length (fun i x=>x=(leB U a b||((stN U N).take i).any (fulT a b))) (by omega) (fun x h=>?_) (fun i x hi h=>?_) _ (by simp)
    ·subst h
     rw [hlen,List.take_length]
     refine Ev.succ ?_
     simp only [spec_FullOk.l2,hlen]
     repeat(with_reducible first|refine Ev.ip ?_|refine Ev.iq ?_)
     cases hfin:(leB U a b||(stN U N).any (fulT a b)) with
     |true=>
      rw [if_pos rfl]
      repeat(with_reducible first|refine Ev.ip ?_|refine Ev.iq ?_)
      exact hR2 hfin
     |false=>
      rw [if_neg (by simp)]
      repeat(with_reducible first|refine Ev.ip ?_|refine Ev.iq ?_)
      exact Ev.now _
    ·subst h
     refine⟨_,rfl,fun K=>Ev.succ ?_⟩
     rw [any_succ _ _ (show i<(stN U N).length by omega),← Bool.or_assoc] at K
     have hat:at1 (stL U N) i=(((stN U N).getD i 0:Nat):Int):=filI_at _ _ i
     simp only [spec_FullOk.l2,rd_nat,hat,smod_nat _ (show a≤64 by omega),smod_nat _ (show b≤64 by omega)]
     repeat(with_reducible first|refine Ev.ip ?_|refine Ev.iq ?_)
     cases hx:(leB U a b||((stN U N).take i).any (fulT a b)) with
     |true=>
      rw [hx,Bool.true_or] at K
      repeat(with_reducible first|refine Ev.ip ?_|refine Ev.iq ?_)
      exact K
     |false=>
      rw [hx,Bool.false_or] at K
      repeat(with_reducible first|refine Ev.ip ?_|refine Ev.iq ?_)
      unfold fulT at K
      rw [Int.toNat_natCast,Int.toNat_natCast] at K
      cases h1:((stN U N).getD i 0).testBit a with
      |false=>
       rw [h1,Bool.false_and] at K
       repeat(with_reducible first|refine Ev.ip ?_|refine Ev.iq ?_)
       exact K
      |true=>
       rw [h1,Bool.true_and] at K
       repeat(with_reducible first|refine Ev.ip ?_|refine Ev.iq ?_)
       cases h2:((stN U N).getD i 0).testBit b with
       |true=>rw [h2] at K;exact K
       |false=>rw [h2] at K;exact K
section
def hiP (U : List (List Int)) (f : Nat → Nat) (a : Nat) : Nat → Nat
 | 0 => 0
 | i + 1 => if i ≠ a ∧ leB U i a = true then (if hiP U f a i < f i + 1 then f i + 1 else hiP U f a i) else hiP U f a i
def hiF (U : List (List Int)) : Nat → Nat → Nat
 | 0, _ => 0
 | k + 1, a => hiP U (hiF U k) a U.length
theorem hiP_congr {U : List (List Int)} {f f' : Nat → Nat} {a : Nat} : ∀ i, (∀ b, b < i → b ≠ a → leB U b a = true → f b = f' b) → hiP U f a i = hiP U f' a i
 |0,_=>rfl
 |i+1,h=>by
  have e:=hiP_congr i (fun b hb=>h b (by omega))
  unfold hiP
  by_cases c:i≠a∧leB U i a=true
  ·rw [if_pos c,if_pos c,e,h i (by omega) c.1 c.2]
  ·rw [if_neg c,if_neg c,e]
theorem hiP_none {U : List (List Int)} {f : Nat → Nat} {a : Nat} : ∀ i, (∀ b, b < i → b ≠ a → leB U b a = false) → hiP U f a i = 0
 |0,_=>rfl
 |i+1,h=>by
  unfold hiP
  rw [if_neg (fun c=>by rw [h i (by omega) c.1] at c;exact absurd c.2 (by simp))]
  exact hiP_none i (fun b hb=>h b (by omega))
def Deep (U : List (List Int)) : Nat → Nat → Prop
 | 0, a => ∀ b, b < U.length → b ≠ a → leB U b a = false
 | k + 1, a => ∀ b, b < U.length → b ≠ a → leB U b a = true → Deep U k b
theorem filt_lt {p q : Nat → Bool} : ∀ l : List Nat, (∀ x, x ∈ l → p x = true → q x = true) → (∃ x, x ∈ l ∧ q x = true ∧ p x = false) → (l.filter p).length < (l.filter q).length
 | [],_,⟨x,hx,_⟩=>absurd hx (by simp)
 |y :: l,h,⟨x,hx,h1,h2⟩=>by
  have hle: ∀l:List Nat,(∀x,x ∈ l→p x=true→q x=true)→(l.filter p).length≤(l.filter q).length:=by
   intro l
   induction l with
   |nil=>intro _;exact Nat.le_refl _
   |cons z l ih=>
    intro hh
    have:=ih fun x hx=>hh x (List.mem_cons_of_mem _ hx)
    cases hz:p z with
    |true=>simp [hz,hh z (by simp) hz];exact this
    |false=>cases hq:q z <;> simp [hz,hq] <;> omega
  have hl:=hle l fun x hx=>h x (List.mem_cons_of_mem _ hx)
  rcases List.mem_cons.1 hx with rfl|hx
  ·simp [h1,h2];omega
  ·have:=filt_lt l (fun x hx=>h x (List.mem_cons_of_mem _ hx)) ⟨x,hx,h1,h2⟩
   cases hz:p y with
   |true=>simp [hz,h y (by simp) hz];exact this
   |false=>cases hq:q y <;> simp [hz,hq] <;> omega
def cntB (U : List (List Int)) (a : Nat) : Nat := ((List.range U.length).filter fun b => !(b == a) && leB U b a).length
theorem cntB_lt {U : List (List Int)} (O : Order U) {a b : Nat} (ha : a < U.length) (hb : b < U.length) (hne : b ≠ a) (hle : leB U b a = true) : cntB U b < cntB U a := by
 refine filt_lt _ (fun x hx h=>?_) ⟨b,by simpa using hb,by simp [hne,hle],by simp⟩
 simp only [Bool.and_eq_true,Bool.not_eq_true',beq_eq_false_iff_ne] at h ⊢
 have hx':x<U.length:=by simpa using hx
 refine⟨fun e=>?_,O.trans x b a hx' hb ha h.2 hle⟩
 subst e
 exact h.1 (O.anti x b hx' hb h.2 hle)
theorem deep_cnt {U : List (List Int)} (O : Order U) : ∀ k a, a < U.length → cntB U a ≤ k → Deep U k a
 |0,a,ha,h=>fun b hb hne=>by
  cases e:leB U b a with
  |false=>rfl
  |true=>have:=cntB_lt O ha hb hne e;omega
 |k+1,a,ha,h=>fun b hb hne hle=>deep_cnt O k b hb (by have:=cntB_lt O ha hb hne hle;omega)
theorem hiP_ge {U : List (List Int)} {f : Nat → Nat} {a : Nat} : ∀ m i, i < m → i ≠ a → leB U i a = true → f i + 1 ≤ hiP U f a m
 |0,i,h,_,_=>absurd h (Nat.not_lt_zero _)
 |m+1,i,h,hne,hle=>by
  unfold hiP
  by_cases e:i=m
  ·subst e
   rw [if_pos ⟨hne,hle⟩]
   split <;> omega
  ·have:=hiP_ge (f:=f) m i (by omega) hne hle
   split
   ·split <;> omega
   ·exact this
theorem hiP_at {U : List (List Int)} {f : Nat → Nat} {a : Nat} : ∀ m, hiP U f a m ≠ 0 → ∃ i, i < m ∧ i ≠ a ∧ leB U i a = true ∧ hiP U f a m = f i + 1
 |0,h=>absurd rfl h
 |m+1,h=>by
  unfold hiP at h ⊢
  by_cases c:m≠a∧leB U m a=true
  ·rw [if_pos c] at h ⊢
   by_cases d:hiP U f a m<f m+1
   ·rw [if_pos d]
    exact⟨m,by omega,c.1,c.2,rfl⟩
   ·rw [if_neg d] at h ⊢
    obtain⟨i,h1,h2⟩:=hiP_at m h
    exact⟨i,by omega,h2⟩
  ·rw [if_neg c] at h ⊢
   obtain⟨i,h1,h2⟩:=hiP_at m h
   exact⟨i,by omega,h2⟩
theorem deep_stable {U : List (List Int)} : ∀ k a, Deep U k a → ∀ j, hiF U (k + j) a = hiF U k a
 |0,a,h,0=>rfl
 |0,a,h,j+1=>by
  rw [Nat.zero_add]
  show hiP U (hiF U j) a U.length=0
  exact hiP_none _ (fun b hb hne=>h b hb hne)
 |k+1,a,h,j=>by
  rw [show k+1+j=(k+j)+1 by omega]
  show hiP U (hiF U (k+j)) a U.length=hiP U (hiF U k) a U.length
  exact hiP_congr _ (fun b hb hne hle=>deep_stable k b (h b hb hne hle) j)
def hi (U : List (List Int)) (x : Fin U.length) : Nat := hiF U U.length x.1
section
variable {U : List (List Int)} {N : List Int} (L : Logic U N)
include L
theorem hi_below {a b : Nat} (ha : a < U.length) (hb : b < U.length) (hne : b ≠ a) (hle : leB U b a = true) : hiF U (U.length - 1) b = hiF U U.length b := by
 have h1:=cntB_lt L.toOrder ha hb hne hle
 have h2:cntB U a≤U.length:=by unfold cntB;exact Nat.le_trans (List.length_filter_le _ _) (by simp)
 have h3:=deep_stable _ _ (deep_cnt L.toOrder (U.length - 1) b hb (by omega)) 1
 rw [show U.length - 1+1=U.length by have:=L.pos;omega] at h3
 exact h3.symm
theorem hi_unfold (a : Nat) : hiF U U.length a = hiP U (hiF U (U.length - 1)) a U.length := by
 obtain⟨m,hm⟩: ∃m,U.length=m+1:=⟨U.length - 1,by have:=L.pos;omega⟩
 rw [hm]
 show hiP U (hiF U m) a U.length=_
 rw [hm];rfl
theorem hi_high : L.ol.High (hi U) where
 mono:=fun x y hxy hne=>by
  have hn:x.1≠y.1:=fun e=>hne (Fin.ext e)
  show hiF U U.length x.1<hiF U U.length y.1
  rw [← hi_below L y.2 x.2 hn hxy,hi_unfold L y.1]
  exact hiP_ge _ _ x.2 hn hxy
 step:=fun y hy=>by
  have hy':hiF U U.length y.1≠0:=hy
  rw [hi_unfold L] at hy'
  obtain⟨i,h1,h2,h3,h4⟩:=hiP_at _ hy'
  refine⟨⟨i,h1⟩,h3,fun e=>h2 (congrArg Fin.val e),?_⟩
  show hiF U U.length i+1=hiF U U.length y.1
  rw [hi_unfold L y.1,h4,hi_below L y.2 h1 h2 h3]
end
end
def cN (p : Nat → Bool) : Nat → Nat
 | 0 => 0
 | m + 1 => cN p m + if p m = true then 1 else 0
section
section
variable {U : List (List Int)} {N : List Int} (L : Logic U N)
include L
theorem atom_below : ∀ (m : Nat) (x : Fin U.length), hi U x ≤ m → x ≠ L.ol.bot → ∃ p, L.ol.Atom p ∧ L.ol.le p x := by
 intro m
 have H:=hi_high L
 induction m with
 |zero=>intro x h hx;exact absurd ((H.bot_iff x).1 (by omega)) hx
 |succ m ih=>
  intro x h hx
  by_cases ha:L.ol.Atom x
  ·exact⟨x,ha,L.ol.le_refl x⟩
  ·obtain⟨b,h1,h2,h3⟩: ∃b,L.ol.le b x∧b≠L.ol.bot∧b≠x:=by
    apply Classical.byContradiction
    intro hne
    apply ha
    refine⟨hx,fun b hb=>?_⟩
    apply Classical.byContradiction
    intro hn
    rw [not_or] at hn
    exact hne ⟨b,hb,hn.1,hn.2⟩
   have h4:=H.mono b x h1 h3
   obtain⟨p,hp,hpb⟩:=ih b (by omega) h2
   exact⟨p,hp,L.ol.le_trans _ _ _ hpb h1⟩
theorem atoms_le (B : L.ol.Boolean) {x y : Fin U.length} (h : ∀ p, L.ol.Atom p → L.ol.le p x → L.ol.le p y) : L.ol.le x y := by
 apply Classical.byContradiction
 intro hn
 have h1:L.ol.meet x (L.ol.neg y)≠L.ol.bot:=fun e=>by
  apply hn
  have h2:=B x y (L.ol.neg y)
  unfold OL.Split at h2
  rw [L.ol.join_neg,L.ol.meet_top,e,L.ol.join_bot] at h2
  exact(L.ol.meet_eq_l x y).1 h2.symm
 obtain⟨p,hp,hpx⟩:=atom_below L _ _ (Nat.le_refl _) h1
 have h3:=h p hp (L.ol.le_trans _ _ _ hpx (L.ol.meet_l _ _))
 have h4:=L.ol.le_trans _ _ _ hpx (L.ol.meet_r _ _)
 have h5:=L.ol.le_meet _ _ _ h3 h4
 rw [L.ol.meet_neg] at h5
 exact hp.1 (L.ol.le_bot h5)
end
end
section
section
variable {U : List (List Int)} {N : List Int} (L : Logic U N)
include L
theorem splitB_fin (x y z : Fin U.length) : splitB U x.1 y.1 z.1 = true ↔ L.ol.Split x y z := by
 unfold splitB OL.Split
 rw [or_fin L,and_fin L,and_fin L,and_fin L,or_fin L,fin_beq,decide_eq_true_eq]
theorem booB_iff : booB U = true ↔ L.ol.Boolean := by
 unfold booB OL.Boolean
 rw [allN_fin]
 constructor
 ·intro h a b c
  exact(splitB_fin L a b c).1 (allN_fin.1 (allN_fin.1 (h a) b) c)
 ·intro h a
  exact allN_fin.2 fun b=>allN_fin.2 fun c=>(splitB_fin L a b c).2 (h a b c)
end
end
section
section
variable {U : List (List Int)} {N : List Int} (L : Logic U N)
include L
theorem at2_fin (x y : Fin U.length) : (at2 U x.1 y.1 = 1 ↔ L.ol.le x y) ∧ (at2 U x.1 y.1 = 0 ↔ ¬ L.ol.le x y) := by
 have h:L.ol.le x y↔at2 U x.1 y.1=1:=by
  rw [← leB_fin L];unfold leB;exact beq_iff_eq
 refine⟨h.symm,?_⟩
 rw [h]
 rcases L.bit x.1 y.1 x.2 y.2 with e|e <;> omega
theorem keepB_iff : keepB U N = true ↔ L.ol.Keeps := by
 unfold keepB OL.Keeps
 rw [allN_fin]
 have key: ∀x y:Fin U.length,keepT U N x.1 y.1=true↔(L.ol.le x y→L.ol.join x (L.ol.meet y (L.ol.neg x))=y):=fun x y=>by
  unfold keepT
  rw [Int.toNat_natCast,Int.toNat_natCast,not_fin L,and_fin L,or_fin L,fin_beq,Bool.or_eq_true,beq_iff_eq,decide_eq_true_eq,(at2_fin L x y).2]
  exact⟨fun h k=>h.resolve_left (fun n=>n k),fun h=>(Classical.em (L.ol.le x y)).elim (fun k=> .inr (h k)) .inl⟩
 constructor
 ·intro h x y
  exact(key x y).1 (allN_fin.1 (h x) y)
 ·intro h x
  exact allN_fin.2 fun y=>(key x y).2 (h x y)
end
end
section
theorem mem_stN {U : List (List Int)} {N : List Int} {s : Nat} : s ∈ stN U N ↔ s < 2 ^ U.length ∧ stB U N s = true := by
 unfold stN isSt
 rw [List.mem_filter,List.mem_range]
 constructor
 ·rintro ⟨h1,h2⟩
  simp only [Bool.and_eq_true,Int.toNat_natCast] at h2
  exact⟨h1,h2.2.2⟩
 ·rintro ⟨h1,h2⟩
  exact⟨h1,by rw [decide_eq_true (by omega),decide_eq_true (by omega),Int.toNat_natCast,h2];rfl⟩
section
variable {U : List (List Int)} {N : List Int} (L : Logic U N)
include L
theorem ful_fin : fulB U N = true ↔ ∀ a b : Fin U.length, ¬ L.ol.le a b → ∃ s, s ∈ stN U N ∧ s.testBit a.1 = true ∧ s.testBit b.1 = false := by
 unfold fulB
 have key: ∀a b:Fin U.length,(leI U ((a.1:Nat):Int) ((b.1:Nat):Int)||(stN U N).any (fulT ((a.1:Nat):Int) ((b.1:Nat):Int)))=true↔(¬L.ol.le a b→ ∃s,s ∈ stN U N∧s.testBit a.1=true∧s.testBit b.1=false):=by
  intro a b
  rw [Bool.or_eq_true,le_fin L,List.any_eq_true]
  unfold fulT
  simp only [Int.toNat_natCast,Bool.and_eq_true,Bool.not_eq_true']
  exact⟨fun h n=>h.resolve_left n,fun h=>(Classical.em (L.ol.le a b)).imp id h⟩
 rw [allN_fin]
 exact⟨fun h a b=>(key a b).1 (allN_fin.1 (h a) b),fun h a=>allN_fin.2 fun b=>(key a b).2 (h a b)⟩
theorem ful_keep (h : fulB U N = true) : keepB U N = true := by
 refine(keepB_iff L).2 (OL.full_keeps fun a b hn=>?_)
 obtain⟨s,hs,h1,h2⟩:=(ful_fin L).1 h a b hn
 exact⟨fun x=>s.testBit x.1,(stB_iff L s).1 (mem_stN.1 hs).2,h1,h2⟩
def upN (U : List (List Int)) (p : Nat) : Nat := setB U.length fun i => leB U p i
omit L in
theorem upN_bit (p : Nat) (x : Fin U.length) : (upN U p).testBit x.1 = leB U p x.1 := by
 unfold upN; rw [setB_bit, decide_eq_true x.2, Bool.true_and]
theorem upN_state (B : L.ol.Boolean) {p : Fin U.length} (hp : L.ol.Atom p) : upN U p.1 ∈ stN U N := by
 refine mem_stN.2 ⟨setB_lt _ _,(stB_iff L _).2 (B.atom_state hp _ fun a=>?_)⟩
 show (upN U p.1).testBit a.1=true↔_
 rw [upN_bit];exact Iff.rfl
theorem boo_ful (h : booB U = true) : fulB U N = true := by
 have B:=(booB_iff L).1 h
 refine(ful_fin L).2 fun a b hn=>?_
 obtain⟨p,hp,h1,h2⟩: ∃p,L.ol.Atom p∧L.ol.le p a∧ ¬L.ol.le p b:=by
  apply Classical.byContradiction
  intro hno
  exact hn (atoms_le L B fun p hp h1=>Classical.byContradiction fun h2=>hno ⟨p,hp,h1,h2⟩)
 refine⟨upN U p.1,upN_state L B hp,?_,?_⟩
 ·rw [upN_bit];exact h1
 ·rw [upN_bit];exact Bool.eq_false_iff.2 h2
end
end
theorem four_eq : impl_SetsOf.f 2 = some (sets2.1, sets2.2, true) := rfl
def glued4 : List (List Int) × List Int := (impl_made.f (gluP sets2.1 sets2.2 sets2.1 sets2.2) (fun x => gluQ sets2.1 sets2.2 sets2.1 sets2.2 x.toNat) (gluD sets2.1 sets2.2 sets2.1 sets2.2) 1000 (gluN sets2.1 sets2.2 sets2.1 sets2.2 : Int) 0 0).getD ([], [])
theorem glued_eq : impl_GluedOf.f sets2.1 sets2.2 sets2.1 sets2.2 = some (glued4.1, glued4.2, true) := by kernel_rfl
theorem glued_logic : logicB glued4.1 glued4.2 = true := by kernel_rfl
theorem glued_full : fulB glued4.1 glued4.2 = true := by kernel_rfl
def Bytes (b : List Int) : Prop := ∀ x ∈ b, 0 ≤ x ∧ x ≤ 255
theorem bytes_rd {b : List Int} (h : Bytes b) (i : Int) : 0 ≤ rd b i ∧ rd b i ≤ 255 := by
 by_cases hi:i.toNat<b.length
 ·have e:rd b i=b[i.toNat]:=by
   show b.getD i.toNat 0=_
   rw [List.getD_eq_getElem?_getD,List.getElem?_eq_getElem hi];rfl
  rw [e]
  exact h _ (List.getElem_mem hi)
 ·have e:rd b i=0:=by
   show b.getD i.toNat 0=_
   rw [List.getD_eq_getElem?_getD,List.getElem?_eq_none (by omega)];rfl
  rw [e];omega
theorem ofInt_nat' (a : Nat) (ha : a < 18446744073709551616) : (BitVec.ofInt 64 (a : Int)).toNat = a := by
 rw [BitVec.ofInt_natCast, BitVec.toNat_ofNat]; exact Nat.mod_eq_of_lt (by omega)
theorem bxor_nat (a b : Nat) (ha : a < 4611686018427387904) (hb : b < 4611686018427387904) : Go.bits .xor .i64 (a : Int) (b : Int) = ((a ^^^ b : Nat) : Int) := by
 have hx:a ^^^ b<2 ^ 62:=Nat.xor_lt_two_pow (by omega) (by omega)
 show IntKind.i64.wrap ((BitVec.ofInt 64 (a:Int) ^^^ BitVec.ofInt 64 (b:Int)).toNat:Int)=_
 rw [BitVec.toNat_xor,ofInt_nat' a (by omega),ofInt_nat' b (by omega),i64_w]
 unfold wrap64;omega
theorem pick_mod {x n : Int} (hx : 0 ≤ x) (hn : 1 ≤ n) : 0 ≤ Int.tmod x n ∧ Int.tmod x n < n := by
 rw [Int.tmod_eq_emod_of_nonneg hx]
 exact⟨Int.emod_nonneg _ (by omega),Int.emod_lt_of_pos _ (by omega)⟩
theorem wrap_pos {x : Int} (h : 0 ≤ x) (h2 : x ≤ 4611686018427387904) : wrap64 x = x := by unfold wrap64; omega
theorem pick_ev {b : List Int} (hb : Bytes b) (hl : b.length ≤ 2000) {p : Int} (h0 : 0 ≤ p) (h1 : p ≤ 1000000000) (n : Int) : ∃ v, Ev (fun k => spec_l20Rd_pick.f k b p n) (v, p + 1) ∧ 0 ≤ v ∧ (1 ≤ n → v < n) := by
 have w1:wrap64 (p+1)=p+1:=wrap_pos (by omega) (by omega)
 have w2:wrap64 (p+1 - 1)=p:=by rw [Int.add_sub_cancel];exact wrap_pos (by omega) (by omega)
 have hz:Ev (fun k=>spec_l20Rd_pick.j0 k n true b (p+1)) (0,p+1):=by
  refine Ev.succ ?_
  simp only [spec_l20Rd_pick.j0]
  repeat(with_reducible first|refine Ev.ip ?_|refine Ev.iq ?_)
  exact Ev.now _
 unfold spec_l20Rd_pick.f
 rw [w1]
 by_cases hn:n<1
 ·exact⟨0,Ev.ite_pos hn hz,by omega,fun h=>by omega⟩
 by_cases hlen:b.length=0
 ·refine⟨0,Ev.ite_neg hn ?_,by omega,fun h=>by omega⟩
  rw [show ((b.length:Int)==0)=true by rw [hlen];rfl]
  exact hz
 have hbf:((b.length:Int)==0)=false:=by rw [beq_eq_false_iff_ne];omega
 by_cases hp:p<(b.length:Int)
 ·obtain⟨r0,r1⟩:=bytes_rd hb p
  have hm:=pick_mod (x:=rd b p) (n:=n) r0 (by omega)
  refine⟨Int.tmod (rd b p) n,Ev.ite_neg hn ?_,hm.1,fun _=>hm.2⟩
  rw [hbf]
  refine Ev.succ ?_
  simp only [spec_l20Rd_pick.j0,w2]
  rw [wrap_pos (x:=rd b p) r0 (by omega)]
  refine Ev.ite_neg (by simp) (Ev.ite_pos hp (Ev.ite_pos h0 (Ev.ite_neg (by omega) (Ev.now _))))
 ·have m1:=pick_mod (x:=p) (n:=(b.length:Int)) h0 (by omega)
  have w3:wrap64 (wrap64 (p*7)+3)=p*7+3:=by
   rw [wrap_pos (x:=p*7) (by omega) (by omega)]
   exact wrap_pos (by omega) (by omega)
  have m2:=pick_mod (x:=p*7+3) (n:=(b.length:Int)) (by omega) (by omega)
  obtain⟨a0,a1⟩:=bytes_rd hb (Int.tmod p b.length)
  obtain⟨c0,c1⟩:=bytes_rd hb (Int.tmod (p*7+3) b.length)
  have hd:0≤Int.tdiv p b.length∧Int.tdiv p b.length≤p:=by
   rw [Int.tdiv_eq_ediv_of_nonneg h0]
   exact⟨Int.ediv_nonneg h0 (by omega),Int.ediv_le_self _ h0⟩
  generalize hA:rd b (Int.tmod p b.length)=A at a0 a1
  generalize hC:rd b (Int.tmod (p*7+3) b.length)=C at c0 c1
  generalize hD:Int.tdiv p b.length=D at hd
  obtain⟨x,hx⟩: ∃x:Nat,A*131+C*1117+p*29+D*53=(x:Int):=⟨(A*131+C*1117+p*29+D*53).toNat,by omega⟩
  have hx2:x≤1000000000000:=by omega
  obtain⟨y,hy⟩: ∃y:Nat,Int.tdiv (x:Int) 64=(y:Int):=⟨x / 64,by rw [Int.tdiv_eq_ediv_of_nonneg (by omega)];omega⟩
  have hy2:y≤1000000000000:=by
   have:Int.tdiv (x:Int) 64≤x:=by rw [Int.tdiv_eq_ediv_of_nonneg (by omega)];omega
   omega
  have hm:=pick_mod (x:=((x ^^^ y:Nat):Int)) (n:=n) (by omega) (by omega)
  refine⟨Int.tmod ((x ^^^ y:Nat):Int) n,Ev.ite_neg hn ?_,hm.1,fun _=>hm.2⟩
  rw [hbf]
  refine Ev.succ ?_
  simp only [spec_l20Rd_pick.j0,w2,w3,hA,hC,hD]
  rw [wrap_pos (x:=A) a0 (by omega),wrap_pos (x:=C) c0 (by omega),wrap_pos (x:=A*131) (by omega) (by omega),wrap_pos (x:=C*1117) (by omega) (by omega),wrap_pos (x:=A*131+C*1117) (by omega) (by omega),wrap_pos (x:=p*29) (by omega) (by omega),wrap_pos (x:=A*131+C*1117+p*29) (by omega) (by omega),wrap_pos (x:=D) hd.1 (by omega),wrap_pos (x:=D*53) (by omega) (by omega),wrap_pos (x:=A*131+C*1117+p*29+D*53) (by omega) (by omega),hx,hy,wrap_pos (x:=(y:Int)) (by omega) (by omega),bxor_nat x y (by omega) (by omega)]
  exact Ev.ite_neg (by simp) (Ev.ite_neg hp (Ev.ite_neg (by omega) (Ev.ite_pos m1.1 (Ev.ite_pos m1.2 (Ev.ite_pos m2.1 (Ev.ite_pos m2.2 (Ev.ite_neg (by omega) (Ev.now _))))))))
theorem odd_ev {b : List Int} (hb : Bytes b) (hl : b.length ≤ 2000) {p : Int} (h0 : 0 ≤ p) (h1 : p ≤ 1000000000) (n : Int) : ∃ v q, Ev (fun k => spec_l20Rd_odd.f k b p n) (v, q) ∧ p ≤ q ∧ q ≤ p + 1 := by
 unfold spec_l20Rd_odd.f
 by_cases hn:n>0
 ·obtain⟨v,hv,_,_⟩:=pick_ev hb hl h0 h1 n
  exact⟨_,_,Ev.ite_pos hn (Ev.bind hv (Ev.now _)),by omega,by omega⟩
 ·exact⟨_,_,Ev.ite_neg hn (Ev.now _),by omega,by omega⟩
theorem open_ev {l : List Int} (h : Bytes l) : ∃ b, Bytes b ∧ b.length ≤ 2000 ∧ spec_l20Open.f l = some (b, 0) := by
 unfold spec_l20Open.f
 by_cases hl:(l.length:Int)>2000
 ·rw [if_pos hl,if_pos (by omega)]
  exact⟨l.take 2000,fun x hx=>h x (List.mem_of_mem_take hx),by rw [List.length_take];omega,rfl⟩
 ·rw [if_neg hl]
  exact⟨l,h,by omega,rfl⟩
structure Sq (n : Nat) (U : List (List Int)) (N : List Int) : Prop where
 pos:1≤n
 small:n≤100
 len:U.length=n
 row: ∀r ∈ U,r.length=n
 lenN:N.length=n
 ran: ∀x ∈ N,0≤x∧x<(n:Int)
def sqB (r : List (List Int) × List Int) : Bool := decide (1 ≤ r.2.length) && (decide (r.2.length ≤ 100) && ((r.1.length == r.2.length) && (r.1.all (fun x => x.length == r.2.length) && r.2.all (fun x => decide (0 ≤ x) && decide (x < (r.2.length : Int))))))
theorem sq_of {r : List (List Int) × List Int} (h : sqB r = true) : Sq r.2.length r.1 r.2 := by
 unfold sqB at h
 simp only [Bool.and_eq_true,decide_eq_true_eq,beq_iff_eq,List.all_eq_true] at h
 obtain⟨h1,h2,h3,h4,h5⟩:=h
 exact⟨h1,h2,h3,h4,rfl,h5⟩
def gB (x : Int) : List (List Int) × List Int := (spec_l20Boole.f 150 x).getD ([], [])
set_option maxRecDepth 100000 in
theorem gB_ev {x : Int} (h0 : 0 ≤ x) (h1 : x < 4) : Ev (fun k => spec_l20Boole.f k x) ((gB x).1, (gB x).2) ∧ sqB (gB x) = true := by
 have hx:x=0∨x=1∨x=2∨x=3:=by omega
 rcases hx with rfl|rfl|rfl|rfl
 ·exact⟨Ev.of (spec_l20Boole.mono _) (k:=150) zqk,by kernel_rfl⟩
 ·exact⟨Ev.of (spec_l20Boole.mono _) (k:=150) zqk,by kernel_rfl⟩
 ·exact⟨Ev.of (spec_l20Boole.mono _) (k:=150) zqk,by kernel_rfl⟩
 ·exact⟨Ev.of (spec_l20Boole.mono _) (k:=150) zqk,by kernel_rfl⟩
def gG (a b : List (List Int) × List Int) : List (List Int) × List Int := (spec_l20Glued.f 900 a.1 a.2 b.1 b.2).getD ([], [])
def gS : List (List Int) × List Int := spec_l20Six.f.getD ([], [])
def gP : List (List Int) × List Int := (spec_l20Pasted.f 900).getD ([], [])
set_option maxRecDepth 100000 in
theorem g22 : Ev (fun k => spec_l20Glued.f k (gB 2).1 (gB 2).2 (gB 2).1 (gB 2).2) ((gG (gB 2) (gB 2)).1, (gG (gB 2) (gB 2)).2) ∧ sqB (gG (gB 2) (gB 2)) = true :=
 ⟨Ev.of (spec_l20Glued.mono _ _ _ _) (k:=900) zqk,by kernel_rfl⟩
set_option maxRecDepth 100000 in
theorem g23 : Ev (fun k => spec_l20Glued.f k (gB 2).1 (gB 2).2 (gB 3).1 (gB 3).2) ((gG (gB 2) (gB 3)).1, (gG (gB 2) (gB 3)).2) ∧ sqB (gG (gB 2) (gB 3)) = true :=
 ⟨Ev.of (spec_l20Glued.mono _ _ _ _) (k:=900) zqk,by kernel_rfl⟩
set_option maxRecDepth 100000 in
theorem g222 : Ev (fun k => spec_l20Glued.f k (gG (gB 2) (gB 2)).1 (gG (gB 2) (gB 2)).2 (gB 2).1 (gB 2).2) ((gG (gG (gB 2) (gB 2)) (gB 2)).1, (gG (gG (gB 2) (gB 2)) (gB 2)).2) ∧ sqB (gG (gG (gB 2) (gB 2)) (gB 2)) = true :=
 ⟨Ev.of (spec_l20Glued.mono _ _ _ _) (k:=900) zqk,by kernel_rfl⟩
set_option maxRecDepth 100000 in
theorem gS2 : Ev (fun k => spec_l20Glued.f k gS.1 gS.2 (gB 2).1 (gB 2).2) ((gG gS (gB 2)).1, (gG gS (gB 2)).2) ∧ sqB (gG gS (gB 2)) = true :=
 ⟨Ev.of (spec_l20Glued.mono _ _ _ _) (k:=900) zqk,by kernel_rfl⟩
theorem gS_ev : spec_l20Six.f = some (gS.1, gS.2) ∧ sqB gS = true := ⟨by kernel_rfl, by kernel_rfl⟩
set_option maxRecDepth 100000 in
theorem gP_ev : Ev (fun k => spec_l20Pasted.f k) (gP.1, gP.2) ∧ sqB gP = true := ⟨Ev.of spec_l20Pasted.mono (k := 900) (by kernel_rfl), by kernel_rfl⟩
theorem Ev.run {σ ρ : Type} {g : Nat → σ → Int → Option ρ} (n : Nat) (I : Nat → σ → Prop) (hn : n < 4611686018427387904)
 (hstep: ∀i s,i<n→I i s→ ∃s',I (i+1) s'∧ ∀R,Ev (fun k=>g k s' (wrap64 ((i:Int)+1))) R→Ev (fun k=>g k s (i:Int)) R): ∀s,I 0 s→ ∃s',I n s'∧ ∀R,Ev (fun k=>g k s' (n:Int)) R→Ev (fun k=>g k s 0) R:=by
 have key: ∀i,i≤n→ ∀s,I 0 s→ ∃s',I i s'∧ ∀R,Ev (fun k=>g k s' (i:Int)) R→Ev (fun k=>g k s 0) R:=by
  intro i
  induction i with
  |zero=>intro _ s hs;exact⟨s,hs,fun R h=>h⟩
  |succ i ih=>
   intro hi s hs
   obtain⟨s1,h1,k1⟩:=ih (by omega) s hs
   obtain⟨s2,h2,k2⟩:=hstep i s1 (by omega) h1
   refine⟨s2,h2,fun R h=>k1 R (k2 R ?_)⟩
   rw [wrap_nat (by omega)]
   exact h
 exact fun s hs=>key n (Nat.le_refl _) s hs
theorem rd_mem {xs : List Int} {i : Int} (h0 : 0 ≤ i) (h1 : i < (xs.length : Int)) : rd xs i ∈ xs := by
 have hi:i.toNat<xs.length:=by omega
 have e:rd xs i=xs[i.toNat]:=by
  show xs.getD i.toNat 0=_
  rw [List.getD_eq_getElem?_getD,List.getElem?_eq_getElem hi];rfl
 rw [e];exact List.getElem_mem hi
theorem rdL_mem {xs : List (List Int)} {i : Int} (h0 : 0 ≤ i) (h1 : i < (xs.length : Int)) : rd_L2 xs i ∈ xs := by
 obtain⟨m,rfl⟩: ∃m:Nat,i=(m:Int):=⟨i.toNat,by omega⟩
 have hi:m<xs.length:=by omega
 rw [rdL_nat,List.getD_eq_getElem?_getD,List.getElem?_eq_getElem hi]
 exact List.getElem_mem hi
structure Sh (n : Nat) (U : List (List Int)) (N : List Int) : Prop where
 len : U.length = n
 row : ∀ r ∈ U, r.length = n
 lenN : N.length = n
theorem Sq.sh {n : Nat} {U : List (List Int)} {N : List Int} (h : Sq n U N) : Sh n U N := ⟨h.len, h.row, h.lenN⟩
theorem rename_ev {n : Nat} {U : List (List Int)} {N : List Int} (S : Sq n U N) {o : List Int} (ho : o.length = n) (hr : ∀ x ∈ o, 0 ≤ x ∧ x < (n : Int)) : ∃ V M, Sh n V M ∧ Ev (fun k => spec_l20Rename.f k U N o) (V, M) := by
 have hn:=S.pos
 have hs:=S.small
 have hU:=S.len
 have hN:=S.lenN
 obtain⟨back,hb,kb⟩:=Ev.run (ρ:=List (List Int) × List Int) (g:=fun k (s:List Int) i=>spec_l20Rename.l0 k o s i U N) n (fun _ s=>s.length=n) (by omega) (fun i s hi hl=>by
  have r1:=hr _ (rd_mem (xs:=o) (i:=(i:Int)) (by omega) (by omega))
  have r2:=r1.1
  have r3:=r1.2
  refine⟨s.set (rd o (i:Int)).toNat (i:Int),by rw [List.length_set];exact hl,fun R h=>Ev.succ ?_⟩
  simp only [spec_l20Rename.l0]
  exact Ev.ite_pos (by omega) (Ev.ite_pos (by omega) (Ev.ite_pos r2 (Ev.ite_pos (by omega) h)))) (List.replicate ((o.length:Int)).toNat 0) (by simp [ho])
 have hrow: ∀(i:Nat) (V:List (List Int)) (M:List Int),i<n→ ∃row:List Int,row.length=n∧ ∀R,Ev (fun k=>spec_l20Rename.l2 k o back (i:Int) row (n:Int) U N V M) R→Ev (fun k=>spec_l20Rename.l2 k o back (i:Int) [] 0 U N V M) R:=by
  intro i V M hi
  have r1:=hr _ (rd_mem (xs:=o) (i:=(i:Int)) (by omega) (by omega))
  have r2:=r1.1
  have r3:=r1.2
  have rl:=S.row _ (rdL_mem (xs:=U) (i:=rd o (i:Int)) r2 (by omega))
  exact Ev.run (ρ:=List (List Int) × List Int) (g:=fun k (s:List Int) j=>spec_l20Rename.l2 k o back (i:Int) s j U N V M) n (fun j s=>s.length=j) (by omega) (fun j s hj hl=>by
   have q1:=hr _ (rd_mem (xs:=o) (i:=(j:Int)) (by omega) (by omega))
   have q2:=q1.1
   have q3:=q1.2
   refine⟨s ++ [rd (rd_L2 U (rd o (i:Int))) (rd o (j:Int))],by rw [List.length_append,hl];rfl,fun R h=>Ev.succ ?_⟩
   simp only [spec_l20Rename.l2]
   exact Ev.ite_pos (by omega) (Ev.ite_pos (by omega) (Ev.ite_pos (by omega) (Ev.ite_pos r2 (Ev.ite_pos (by omega) (Ev.ite_pos (by omega) (Ev.ite_pos q2 (Ev.ite_pos (by omega) (Ev.ite_pos (by omega) h))))))))) [] rfl
 obtain⟨⟨V,M⟩,⟨hV,hVr,hM⟩,kV⟩:=Ev.run (ρ:=List (List Int) × List Int) (g:=fun k (s:List (List Int) × List Int) i=>spec_l20Rename.l1 k o back i U N s.1 s.2) n (fun i s=>s.1.length=i∧(∀r ∈ s.1,r.length=n)∧s.2.length=i) (by omega) (fun i s hi hl=>by
  obtain⟨V,M⟩:=s
  obtain⟨h1,h2,h3⟩:=hl
  have h1':V.length=i:=h1
  have h3':M.length=i:=h3
  have r1:=hr _ (rd_mem (xs:=o) (i:=(i:Int)) (by omega) (by omega))
  have r2:=r1.1
  have r3:=r1.2
  have n1:=S.ran _ (rd_mem (xs:=N) (i:=rd o (i:Int)) r2 (by omega))
  have n2:=n1.1
  have n3:=n1.2
  obtain⟨row,hrl,kr⟩:=hrow i V M hi
  refine⟨(V ++ [row],M ++ [rd back (rd N (rd o (i:Int)))]),⟨by simp [h1'],?_,by simp [h3']⟩,fun R h=>Ev.succ ?_⟩
  ·intro r hr'
   rcases List.mem_append.1 hr' with hr'|hr'
   ·exact h2 r hr'
   ·rw [List.mem_singleton.1 hr'];exact hrl
  ·simp only [spec_l20Rename.l1]
   refine Ev.ite_pos (by omega) (kr R (Ev.succ ?_))
   simp only [spec_l20Rename.l2]
   exact Ev.ite_neg (by omega) (Ev.ite_pos (by omega) (Ev.ite_pos (by omega) (Ev.ite_pos (by omega) (Ev.ite_pos r2 (Ev.ite_pos (by omega) (Ev.ite_pos n2 (Ev.ite_pos (by omega) (Ev.ite_pos (by omega) h))))))))) ([],[]) ⟨rfl,(fun _ h=>by cases h),rfl⟩
 refine⟨V,M,⟨hV,hVr,hM⟩,?_⟩
 unfold spec_l20Rename.f
 refine Ev.ite_pos (by omega) (Ev.ite_pos (by omega) (kb _ (Ev.succ ?_)))
 simp only [spec_l20Rename.l0]
 refine Ev.ite_neg (by omega) (kV _ (Ev.succ ?_))
 simp only [spec_l20Rename.l1]
 exact Ev.ite_neg (by omega) (Ev.now _)
section
section
variable {b : List Int} (hb : Bytes b) (hl : b.length ≤ 2000)
include hb hl
theorem lg_j5 {m : Nat} (hm : 1 ≤ m) (hm2 : m ≤ 100) {U : List (List Int)} {N : List Int} (S : Sh m U N) {p : Int} (h0 : 0 ≤ p) (h1 : p ≤ 999999900) (n : Int) :
 ∃V M q,Ev (fun k=>spec_l20Logic.j5 k n b p U N) (V,M,q)∧p≤q∧q≤p+4:=by
 have hU:=S.len
 have hN:=S.lenN
 obtain⟨o,p1,ho,q1,q2⟩:=odd_ev hb hl h0 (by omega) n
 cases o with
 |false=>
  refine⟨U,N,p1,Ev.succ ?_,by omega,by omega⟩
  simp only [spec_l20Logic.j5]
  refine Ev.bind ho ?_
  dsimp only
  exact Ev.ite_neg (by decide) (Ev.now _)
 |true=>
  obtain⟨v,hv,v0,v1⟩:=pick_ev hb hl (p:=p1) (by omega) (by omega) 4
  have v2:=v1 (by omega)
  by_cases e0:v=0
  ·refine⟨[],[],p1+1,Ev.succ ?_,?_,?_⟩
   ·simp only [spec_l20Logic.j5]
    refine Ev.bind ho ?_
    dsimp only
    refine Ev.ite_pos rfl (Ev.bind hv ?_)
    dsimp only
    exact Ev.ite_pos e0 (Ev.now _)
   ·omega
   ·omega
  by_cases e1:v=1
  ·refine⟨U,N.drop (1:Int).toNat,p1+1,Ev.succ ?_,?_,?_⟩
   ·simp only [spec_l20Logic.j5]
    refine Ev.bind ho ?_
    dsimp only
    refine Ev.ite_pos rfl (Ev.bind hv ?_)
    dsimp only
    exact Ev.ite_neg e0 (Ev.ite_pos e1 (Ev.ite_pos (by omega) (Ev.now _)))
   ·omega
   ·omega
  by_cases e2:v=2
  ·obtain⟨x,hx,x0,x1⟩:=pick_ev hb hl (p:=p1+1) (by omega) (by omega) (N.length:Int)
   have x2:=x1 (by omega)
   obtain⟨y,hy,y0,y1⟩:=pick_ev hb hl (p:=p1+1+1) (by omega) (by omega) (wrap64 ((N.length:Int)+1))
   refine⟨U,N.set (x:Int).toNat y,p1+1+1+1,Ev.succ ?_,?_,?_⟩
   ·simp only [spec_l20Logic.j5]
    refine Ev.bind ho ?_
    dsimp only
    refine Ev.ite_pos rfl (Ev.bind hv ?_)
    dsimp only
    refine Ev.ite_neg e0 (Ev.ite_neg e1 (Ev.ite_pos e2 (Ev.bind hx (Ev.bind hy ?_))))
    dsimp only
    exact Ev.ite_pos x0 (Ev.ite_pos x2 (Ev.now _))
   ·omega
   ·omega
  ·have w1:wrap64 ((U.length:Int) - 1)=(U.length:Int) - 1:=wrap_pos (by omega) (by omega)
   have rl:=S.row _ (rdL_mem (xs:=U) (i:=(U.length:Int) - 1) (by omega) (by omega))
   refine⟨U.set ((U.length:Int) - 1).toNat ((rd_L2 U ((U.length:Int) - 1)).set (0:Int).toNat 1),N,p1+1,Ev.succ ?_,?_,?_⟩
   ·simp only [spec_l20Logic.j5]
    refine Ev.bind ho ?_
    dsimp only
    refine Ev.ite_pos rfl (Ev.bind hv ?_)
    dsimp only
    refine Ev.ite_neg e0 (Ev.ite_neg e1 (Ev.ite_neg e2 ?_))
    simp only [w1]
    exact Ev.ite_pos (by omega) (Ev.ite_pos (by omega) (Ev.ite_pos (by omega) (Ev.now _)))
   ·omega
   ·omega
theorem lg_l1 {U : List (List Int)} {N : List Int} {m i : Nat} (him : i < m) (hm : m ≤ 100) (n q v : Int) (v0 : 0 ≤ v) : ∀ (d : Nat) (o : List Int) (j : Int), j = v + d → j ≤ i → o.length = i + 1 → (∀ x ∈ o, 0 ≤ x ∧ x < (m : Int)) →
 ∃o':List Int,o'.length=i+1∧(∀x ∈ o',0≤x∧x<(m:Int))∧ ∀R,Ev (fun k=>spec_l20Logic.l1 k n o' (i:Int) v v b q U N) R→Ev (fun k=>spec_l20Logic.l1 k n o (i:Int) v j b q U N) R:=by
 intro d
 induction d with
 |zero=>
  intro o j hj _ hlen hr
  obtain rfl:j=v:=by omega
  exact⟨o,hlen,hr,fun R h=>h⟩
 |succ d ih=>
  intro o j hj hji hlen hr
  have w1:wrap64 (j - 1)=j - 1:=wrap_pos (by omega) (by omega)
  have hr1:=hr _ (rd_mem (xs:=o) (i:=j - 1) (by omega) (by omega))
  obtain⟨o',k1,k2,k3⟩:=ih (o.set j.toNat (rd o (j - 1))) (j - 1) (by omega) (by omega) (by rw [List.length_set];exact hlen) (fun x hx=>by
   rcases List.mem_or_eq_of_mem_set hx with hx|rfl
   ·exact hr x hx
   ·exact hr1)
  refine⟨o',k1,k2,fun R h=>Ev.succ ?_⟩
  simp only [spec_l20Logic.l1,w1]
  exact Ev.ite_pos (by omega) (Ev.ite_pos (by omega) (Ev.ite_pos (by omega) (Ev.ite_pos (by omega) (Ev.ite_pos (by omega) (k3 R h)))))
theorem lg_j2 {m : Nat} {U : List (List Int)} {N : List Int} (S : Sq m U N) {p : Int} (h0 : 0 ≤ p) (h1 : p ≤ 999999700) (n : Int) :
 ∃V M q,Ev (fun k=>spec_l20Logic.j2 k n b p U N) (V,M,q)∧p≤q∧q≤p+110:=by
 have hm:=S.pos
 have hm2:=S.small
 have hU:=S.len
 have hN:=S.lenN
 obtain⟨⟨o,p1⟩,⟨i1,i2,i3,i4⟩,ko⟩:=Ev.run (ρ:=List (List Int) × List Int × Int) (g:=fun k (s:List Int × Int) i=>spec_l20Logic.l0 k n s.1 i b s.2 U N) m (fun i s=>s.1.length=i∧(∀x ∈ s.1,0≤x∧x<(m:Int))∧p≤s.2∧s.2≤p+(i:Int)) (by omega) (fun i s hi hs=>by
  obtain⟨o,q⟩:=s
  obtain⟨j1,j2,j3,j4⟩:=hs
  have j1':o.length=i:=j1
  have j3':p≤q:=j3
  have j4':q≤p+(i:Int):=j4
  have w1:wrap64 ((i:Int)+1)=(i:Int)+1:=wrap_pos (by omega) (by omega)
  obtain⟨v,hv,v0,v1⟩:=pick_ev hb hl (p:=q) (by omega) (by omega) ((i:Int)+1)
  have v2:=v1 (by omega)
  obtain⟨o',k1,k2,k3⟩:=lg_l1 hb hl (U:=U) (N:=N) hi hm2 n (q+1) v v0 ((i:Int) - v).toNat (o ++ [(i:Int)]) (i:Int) (by omega) (by omega) (by rw [List.length_append,j1'];rfl) (fun x hx=>by
   rcases List.mem_append.1 hx with hx|hx
   ·exact j2 x hx
   ·rw [List.mem_singleton.1 hx];omega)
  refine⟨(o'.set v.toNat (i:Int),q+1),⟨by rw [List.length_set];exact k1,fun x hx=>?_,by show p≤q+1;omega,by show q+1≤p+((i+1:Nat):Int);omega⟩,fun R h=>Ev.succ ?_⟩
  ·rcases List.mem_or_eq_of_mem_set hx with hx|rfl
   ·exact k2 x hx
   ·omega
  ·rw [w1] at h
   simp only [spec_l20Logic.l0,w1]
   refine Ev.ite_pos (by omega) (Ev.bind hv ?_)
   dsimp only
   refine Ev.ite_pos (by omega) (k3 R (Ev.succ ?_))
   simp only [spec_l20Logic.l1,w1]
   exact Ev.ite_neg (by omega) (Ev.ite_pos (by omega) (Ev.ite_pos (by omega) h))) ([],p) ⟨rfl,(fun _ h=>by cases h),Int.le_refl _,by show p≤p+((0:Nat):Int);omega⟩
 have i1':o.length=m:=i1
 have i3':p≤p1:=i3
 have i4':p1≤p+(m:Int):=i4
 obtain⟨v,hv,v0,v1⟩:=pick_ev hb hl (p:=p1) (by omega) (by omega) 2
 have fin: ∀V M,Sh m V M→ ∃V' M' q,Ev (fun k=>spec_l20Logic.j5 k n b (p1+1) V M) (V',M',q)∧p≤q∧q≤p+110:=fun V M hS=>by
  obtain⟨V',M',q,h,k1,k2⟩:=lg_j5 hb hl hm hm2 hS (p:=p1+1) (by omega) (by omega) n
  exact⟨V',M',q,h,by omega,by omega⟩
 by_cases e:v=0
 ·obtain⟨V,M,hS,hR⟩:=rename_ev S i1' i2
  obtain⟨V',M',q,h,k1,k2⟩:=fin V M hS
  refine⟨V',M',q,Ev.succ ?_,k1,k2⟩
  simp only [spec_l20Logic.j2]
  refine ko _ (Ev.succ ?_)
  simp only [spec_l20Logic.l0]
  refine Ev.ite_neg (by omega) (Ev.bind hv ?_)
  dsimp only
  exact Ev.ite_pos e (Ev.bind hR h)
 ·obtain⟨V',M',q,h,k1,k2⟩:=fin U N S.sh
  refine⟨V',M',q,Ev.succ ?_,k1,k2⟩
  simp only [spec_l20Logic.j2]
  refine ko _ (Ev.succ ?_)
  simp only [spec_l20Logic.l0]
  refine Ev.ite_neg (by omega) (Ev.bind hv ?_)
  dsimp only
  exact Ev.ite_neg e h
theorem lg_j2' {r : List (List Int) × List Int} (S : sqB r = true) {p : Int} (h0 : 0 ≤ p) (h1 : p ≤ 999999700) (n : Int) :
 ∃V M q,Ev (fun k=>spec_l20Logic.j2 k n b p r.1 r.2) (V,M,q)∧p≤q∧q≤p+110:=lg_j2 hb hl (sq_of S) h0 h1 n
theorem logic_ev {p : Int} (h0 : 0 ≤ p) (h1 : p ≤ 999999600) (n : Int) : ∃ V M q, Ev (fun k => spec_l20Logic.f k b p n) (V, M, q) ∧ p ≤ q ∧ q ≤ p + 120 := by
 obtain⟨v,hv,v0,v1⟩:=pick_ev hb hl h0 (by omega) 9
 have v2:=v1 (by omega)
 have key: ∃V M q,Ev (fun k=>spec_l20Logic.j0 k n v (if v=0 then(v==0) else(v==1)) b (p+1)) (V,M,q)∧p≤q∧q≤p+120:=by
  have hj1: ¬(v=0)→ ¬(v=1)→(∃V M q,Ev (fun k=>spec_l20Logic.j1 k n v (if v=2 then(v==2) else(v==3)) b (p+1)) (V,M,q)∧p≤q∧q≤p+120)→ ∃V M q,Ev (fun k=>spec_l20Logic.j0 k n v (if v=0 then(v==0) else(v==1)) b (p+1)) (V,M,q)∧p≤q∧q≤p+120:=by
   rintro e0 e1 ⟨V,M,q,h,k⟩
   refine⟨V,M,q,Ev.succ ?_,k⟩
   simp only [spec_l20Logic.j0]
   rw [if_neg e0]
   refine Ev.ite_neg (by simpa using e1) ?_
   by_cases e2:v=2
   ·rw [if_pos e2] at h
    exact Ev.ite_pos e2 h
   ·rw [if_neg e2] at h
    exact Ev.ite_neg e2 h
  have hend: ∀r,sqB r=true→ ∃V M q,Ev (fun k=>spec_l20Logic.j2 k n b (p+1) r.1 r.2) (V,M,q)∧p≤q∧q≤p+120:=fun r hr=>by
   obtain⟨V,M,q,h,k1,k2⟩:=lg_j2' hb hl hr (p:=p+1) (by omega) (by omega) n
   exact⟨V,M,q,h,by omega,by omega⟩
  have B2:=(gB_ev (x:=2) (by omega) (by omega)).1
  have B3:=(gB_ev (x:=3) (by omega) (by omega)).1
  have hvs:(v=0∨v=1)∨(v=2∨v=3)∨v=4∨v=5∨v=6∨v=7∨v=8:=by omega
  rcases hvs with e|e|e|e|e|e|e
  ·obtain⟨x,hx,x0,x1⟩:=pick_ev hb hl (p:=p+1) (by omega) (by omega) 4
   obtain⟨g1,g2⟩:=gB_ev x0 (x1 (by omega))
   obtain⟨V,M,q,h,k1,k2⟩:=lg_j2' hb hl g2 (p:=p+1+1) (by omega) (by omega) n
   refine⟨V,M,q,Ev.succ ?_,by omega,by omega⟩
   simp only [spec_l20Logic.j0]
   refine Ev.ite_pos (by rcases e with rfl|rfl <;> rfl) (Ev.bind hx (Ev.bind g1 h))
  ·obtain⟨V,M,q,h,k⟩:=hend _ g22.2
   refine hj1 (by omega) (by omega) ⟨V,M,q,Ev.succ ?_,k⟩
   simp only [spec_l20Logic.j1]
   exact Ev.ite_pos (by rcases e with rfl|rfl <;> rfl) (Ev.bind B2 (Ev.bind B2 (Ev.bind g22.1 h)))
  ·obtain⟨V,M,q,h,k⟩:=hend _ g23.2
   subst e
   refine hj1 (by omega) (by omega) ⟨V,M,q,Ev.succ ?_,k⟩
   simp only [spec_l20Logic.j1]
   exact Ev.ite_neg (by simp) (Ev.ite_pos (by simp) (Ev.bind B2 (Ev.bind B3 (Ev.bind g23.1 h))))
  ·obtain⟨V,M,q,h,k⟩:=hend _ g222.2
   subst e
   refine hj1 (by omega) (by omega) ⟨V,M,q,Ev.succ ?_,k⟩
   simp only [spec_l20Logic.j1]
   exact Ev.ite_neg (by simp) (Ev.ite_neg (by simp) (Ev.ite_pos (by simp) (Ev.bind B2 (Ev.bind B2 (Ev.bind g22.1 (Ev.bind B2 (Ev.bind g222.1 h)))))))
  ·obtain⟨V,M,q,h,k⟩:=hend _ gS_ev.2
   subst e
   refine hj1 (by omega) (by omega) ⟨V,M,q,Ev.succ ?_,k⟩
   simp only [spec_l20Logic.j1]
   exact Ev.ite_neg (by simp) (Ev.ite_neg (by simp) (Ev.ite_neg (by simp) (Ev.ite_pos (by simp) (Ev.pbind gS_ev.1 h))))
  ·obtain⟨V,M,q,h,k⟩:=hend _ gS2.2
   subst e
   refine hj1 (by omega) (by omega) ⟨V,M,q,Ev.succ ?_,k⟩
   simp only [spec_l20Logic.j1]
   exact Ev.ite_neg (by simp) (Ev.ite_neg (by simp) (Ev.ite_neg (by simp) (Ev.ite_neg (by simp) (Ev.ite_pos (by simp) (Ev.pbind gS_ev.1 (Ev.bind B2 (Ev.bind gS2.1 h)))))))
  ·obtain⟨V,M,q,h,k⟩:=hend _ gP_ev.2
   subst e
   refine hj1 (by omega) (by omega) ⟨V,M,q,Ev.succ ?_,k⟩
   simp only [spec_l20Logic.j1]
   exact Ev.ite_neg (by simp) (Ev.ite_neg (by simp) (Ev.ite_neg (by simp) (Ev.ite_neg (by simp) (Ev.ite_neg (by simp) (Ev.bind gP_ev.1 h)))))
 obtain⟨V,M,q,h,k⟩:=key
 refine⟨V,M,q,?_,k⟩
 unfold spec_l20Logic.f
 refine Ev.bind hv ?_
 dsimp only
 by_cases e:v=0
 ·rw [if_pos e] at h
  exact Ev.ite_pos e h
 ·rw [if_neg e] at h
  exact Ev.ite_neg e h
end
end
end Go.Proofs.Ytcbjpdaogicibaa.Print
end
