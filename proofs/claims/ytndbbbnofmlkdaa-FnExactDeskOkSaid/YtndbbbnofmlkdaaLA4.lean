/- Part 4 of what is common to several claims of this seat: DkL. -/
import Derived.Test.YtndbbbnofmlkdaaLA3
import Derived.Below
import Derived.Deep.Draws
import Derived.Deep.AppendLies
import Derived.Maps.AppendAt
import Derived.OwnWalk
import Derived.Laws.BytesArg
import Derived.Laws.MakeOwn
import Derived.Laws.OwnMore
import Derived.Deep.OwnRows
import Derived.Tactics
import Derived.Lib.ConvBytes
import Derived.Laws.Slices
import Derived.WalkKit
import Derived.KernelRfl
import Derived.RowKit3
import Derived.Deep.LoopGhost
import Derived.Deep.QuietTactic
import Derived.BigQuiet
import Derived.WideLaws
import Derived.Deep.DeepCutAuto
import Derived.Deep.CutBlock
import Derived.Deep.RegionHeld3
import Derived.Laws.Rows
import Derived.Lib.AppendStr
import Derived.ArgAppend
import Derived.Laws.IdiomCopy
import Derived.RowKit
import Derived.OrdersHeld
import Derived.Laws.BitsLemmas
import Derived.Test.YtndbbbnofmlkdaaProg
import Derived.Deep.Matrix
import Derived.Lib.SmallJoins
import Derived.Deep.Slices
set_option linter.all false
section
namespace Go.Proofs.Ytndbbbnofmlkdaa.Print
open Go.RowKit Go.Proofs.YtndbbbnofmlkdaaW.PrintWords Go.Proofs.YtndbbbnofmlkdaaW.PrintLast Go.Proofs.YtndbbbnofmlkdaaW.PrintMore
open Oml
def SmallL (U : List (List Int)) (N : List Int) : Prop := U.length ≤ 1048576 ∧ (∀ r ∈ U, r.length ≤ 1048576) ∧ N.length ≤ 1048576
def FitL (U : List (List Int)) (N : List Int) : Prop := U.length ≤ 9223372036854775807 ∧ (∀ r ∈ U, r.length ≤ 9223372036854775807) ∧ N.length ≤ 9223372036854775807
theorem rowmem {U : List (List Int)} {i : Nat} (h : i < U.length) : U.getD i [] ∈ U := by simp [h]
theorem szIntS_eq (xs : List Int) {a : Int} (ha : 0 ≤ a) (hb : a ≤ 1048576) (hx : xs.length ≤ 9223372036854775807) : laws_szIntS.f xs a = some (if a - xs.length < 0 then -1 else a - xs.length) := by
 unfold laws_szIntS.f
 rw [show wrap64 (a - (xs.length:Int))=a - xs.length by unfold wrap64;omega]
 split <;> rfl
theorem szIntSS_ev (U : List (List Int)) {a : Int} (hb : a ≤ 1048576) (ha : 0 ≤ a) (hx : U.length ≤ 9223372036854775807) (hr : ∀ r ∈ U, r.length ≤ 9223372036854775807) :
 ∃s,Ev (fun k=>laws_szIntSS.f k U a) s∧s≤1048576∧(0≤s→U.length≤1048576∧ ∀r ∈ U,r.length≤1048576):=by
 unfold laws_szIntSS.f
 rw [show wrap64 (a - (U.length:Int))=a - U.length by unfold wrap64;omega]
 by_cases hneg:a - (U.length:Int)<0
 ·refine⟨-1,?_,by omega,fun h=>by omega⟩
  repeat(with_reducible first|refine Ev.ip ?_|refine Ev.iq ?_)
  exact Ev.now _
 ·have key: ∀d i,i+d=U.length→ ∀x:Int,0≤x→x≤1048576→ ∃s,Ev (fun k=>laws_szIntSS.l0 k U x (i:Int)) s∧s≤1048576∧(0≤s→ ∀j,i≤j→j<U.length→(U.getD j []).length≤1048576):=by
   intro d
   induction d with
   |zero=>
    intro i hi x h0 h1
    refine⟨x,Ev.succ ?_,h1,fun _ j h k=>by omega⟩
    simp only [laws_szIntSS.l0]
    repeat(with_reducible first|refine Ev.ip ?_|refine Ev.iq ?_)
    exact Ev.now _
   |succ d ih=>
    intro i hi x h0 h1
    have hl:=hr _ (rowmem (show i<U.length by omega))
    by_cases hn:x - ((U.getD i []).length:Int)<0
    ·refine⟨-1,Ev.succ ?_,by omega,fun h=>by omega⟩
     simp only [laws_szIntSS.l0,rdL_nat]
     repeat(with_reducible first|refine Ev.ip ?_|refine Ev.iq ?_)
     refine Ev.pbind (szIntS_eq _ h0 h1 hl) ?_
     rw [if_pos hn]
     repeat(with_reducible first|refine Ev.ip ?_|refine Ev.iq ?_)
     exact Ev.now _
    ·obtain⟨s,e1,e2,e3⟩:=ih (i+1) (by omega) (x - ((U.getD i []).length:Int)) (by omega) (by omega)
     refine⟨s,Ev.succ ?_,e2,fun h j hj hk=>?_⟩
     ·simp only [laws_szIntSS.l0,rdL_nat]
      repeat(with_reducible first|refine Ev.ip ?_|refine Ev.iq ?_)
      refine Ev.pbind (szIntS_eq _ h0 h1 hl) ?_
      rw [if_neg hn,wrap_nat (show i<4611686018427387904 by omega)]
      repeat(with_reducible first|refine Ev.ip ?_|refine Ev.iq ?_)
      exact e1
     ·rcases Nat.lt_or_ge i j with h'|h'
      ·exact e3 h j h' hk
      ·obtain rfl:i=j:=by omega
       omega
  obtain⟨s,e1,e2,e3⟩:=key U.length 0 (by omega) (a - U.length) (by omega) (by omega)
  refine⟨s,?_,e2,fun h=>⟨by omega,fun r hr'=>?_⟩⟩
  ·repeat(with_reducible first|refine Ev.ip ?_|refine Ev.iq ?_)
   exact e1
  ·obtain⟨i,hi,rfl⟩:=List.getElem_of_mem hr'
   have:=e3 h i (by omega) hi
   simpa [hi] using this
theorem toIntS_ev (xs : List Int) (h : xs.length ≤ 1048576) : Ev (fun k => laws_toIntS.f k xs) xs := by
 unfold laws_toIntS.f
 repeat(with_reducible first|refine Ev.ip ?_|refine Ev.iq ?_)
 rw [Int.toNat_natCast]
 repeat(with_reducible first|refine Ev.ip ?_|refine Ev.iq ?_)
 have key: ∀d i,i+d=xs.length→ ∀ys:List Int,ys.length=xs.length→(∀j,j<i→ys.getD j 0=xs.getD j 0)→Ev (fun k=>laws_toIntS.l0 k xs ys (i:Int)) xs:=by
  intro d
  induction d with
  |zero=>
   intro i hi ys hl hy
   refine Ev.succ ?_
   simp only [laws_toIntS.l0]
   repeat(with_reducible first|refine Ev.ip ?_|refine Ev.iq ?_)
   refine Ev.eq (Ev.now ys) (List.ext_getElem hl fun j h1 h2=>?_)
   have:=hy j (by omega)
   simpa [h1,h2] using this
  |succ d ih=>
   intro i hi ys hl hy
   refine Ev.succ ?_
   simp only [laws_toIntS.l0,rd_nat,Int.toNat_natCast,wrap_nat (show i<4611686018427387904 by omega)]
   repeat(with_reducible first|refine Ev.ip ?_|refine Ev.iq ?_)
   refine ih (i+1) (by omega) _ (by simp [hl]) fun j hj=>?_
   rcases Nat.lt_or_ge j i with h'|h'
   ·rw [← hy j h']
    simp [List.getElem?_set,show¬(i=j) by omega]
   ·obtain rfl:j=i:=by omega
    simp [at1,show j<ys.length by omega]
 exact key xs.length 0 (by omega) _ (by simp) fun j h=>absurd h (Nat.not_lt_zero _)
theorem toIntSS_ev (U : List (List Int)) (h : U.length ≤ 1048576) (hr : ∀ r ∈ U, r.length ≤ 1048576) : Ev (fun k => laws_toIntSS.f k U) U := by
 unfold laws_toIntSS.f
 repeat(with_reducible first|refine Ev.ip ?_|refine Ev.iq ?_)
 rw [Int.toNat_natCast]
 repeat(with_reducible first|refine Ev.ip ?_|refine Ev.iq ?_)
 refine Ev.loop (g:=fun k s i=>laws_toIntSS.l0 k U s i) U.length (fun i s=>s.length=U.length∧ ∀a,a<i→s.getD a []=U.getD a []) (by omega) (fun s h=>?_) (fun i s hi h=>?_) _ ⟨by simp,fun a h=>absurd h (Nat.not_lt_zero _)⟩
 ·refine Ev.succ ?_
  simp only [laws_toIntSS.l0]
  repeat(with_reducible first|refine Ev.ip ?_|refine Ev.iq ?_)
  refine Ev.eq (Ev.now s) (List.ext_getElem h.1 fun a h1 h2=>?_)
  have:=h.2 a (by omega)
  simpa [h1,h2] using this
 ·obtain⟨h1,h2⟩:=h
  refine⟨s.set i (U.getD i []),⟨by simp [h1],fun a ha=>?_⟩,fun K=>Ev.succ ?_⟩
  ·rw [getD_set _ _ _ _ _ (by omega)]
   by_cases e:a=i
   ·rw [if_pos e,e]
   ·rw [if_neg e];exact h2 a (by omega)
  ·simp only [laws_toIntSS.l0,rdL_nat,h1,Int.toNat_natCast]
   repeat(with_reducible first|refine Ev.ip ?_|refine Ev.iq ?_)
   refine Ev.bind (toIntS_ev _ (hr _ (rowmem hi))) ?_
   repeat(with_reducible first|refine Ev.ip ?_|refine Ev.iq ?_)
   exact K
theorem toLogic_ev {U : List (List Int)} {N : List Int} (h : SmallL U N) : Ev (fun k => laws_toLogic.f k U N) (U, N) := by
 unfold laws_toLogic.f
 exact Ev.bind (toIntSS_ev U h.1 h.2.1) (Ev.bind (toIntS_ev N h.2.2) (Ev.now _))
theorem eqIntS_ev (xs : List Int) (h : xs.length ≤ 1048576) : Ev (fun k => laws_eqIntS.f k xs xs) true := by
 unfold laws_eqIntS.f
 repeat(with_reducible first|refine Ev.ip ?_|refine Ev.iq ?_)
 refine Ev.eq (Ev.all (n:=xs.length) (g:=fun k i=>laws_eqIntS.l0 k xs xs i) (fun _=>true) (go:=true) (stop:=true) (by omega) (fun _=>?_) fun i hi _ R hR=>?_) (by split <;> rfl)
 ·refine Ev.succ ?_
  simp only [laws_eqIntS.l0]
  repeat(with_reducible first|refine Ev.ip ?_|refine Ev.iq ?_)
  exact Ev.now _
 ·refine Ev.succ ?_
  simp only [laws_eqIntS.l0]
  repeat(with_reducible first|refine Ev.ip ?_|refine Ev.iq ?_)
  exact hR rfl
theorem eqLogic_ev {U : List (List Int)} {N : List Int} (h : SmallL U N) : Ev (fun k => laws_eqLogic.f k U N U N) true := by
 unfold laws_eqLogic.f
 have h1:=h.1
 refine Ev.bind (a:=true) ?_ ?_
 ·unfold laws_eqIntSS.f
  repeat(with_reducible first|refine Ev.ip ?_|refine Ev.iq ?_)
  refine Ev.eq (Ev.all (n:=U.length) (g:=fun k i=>laws_eqIntSS.l0 k U U i) (fun _=>true) (go:=true) (stop:=true) (by omega) (fun _=>?_) fun i hi _ R hR=>?_) (by split <;> rfl)
  ·refine Ev.succ ?_
   simp only [laws_eqIntSS.l0]
   repeat(with_reducible first|refine Ev.ip ?_|refine Ev.iq ?_)
   exact Ev.now _
  ·refine Ev.succ ?_
   simp only [laws_eqIntSS.l0,rdL_nat]
   repeat(with_reducible first|refine Ev.ip ?_|refine Ev.iq ?_)
   refine Ev.bind (eqIntS_ev _ (h.2.1 _ (rowmem hi))) ?_
   repeat(with_reducible first|refine Ev.ip ?_|refine Ev.iq ?_)
   exact hR rfl
 ·repeat(with_reducible first|refine Ev.ip ?_|refine Ev.iq ?_)
  refine Ev.bind (eqIntS_ev _ h.2.2) ?_
  repeat(with_reducible first|refine Ev.ip ?_|refine Ev.iq ?_)
  exact Ev.now _
end Go.Proofs.Ytndbbbnofmlkdaa.Print
end
section
namespace Go.Proofs.Ytndbbbnofmlkdaa.Print
open Go.RowKit Go.Proofs.YtndbbbnofmlkdaaW.PrintWords Go.Proofs.YtndbbbnofmlkdaaW.PrintLast Go.Proofs.YtndbbbnofmlkdaaW.PrintMore
open Oml Go.ChangeShapes Go.WideShapes Go.ChangeAt Go.Deep Go.Joins
theorem ints_in {H : Type} {enc : TypeId × Value → H} {W : World} {base fuel : Nat} {held : Bool} {v : Value} {x : DataW H × List MemPlace} (h : DataW.trod enc Try.prog W base (fun _ => true) held fuel 23 [v] = some x) :
 ∃A c N,v= .slice A N.length c∧N.length≤c∧N.length≤9223372036854775807∧Kd.C (Kd.int .i64) W A N.length N:=by
 rcases open_ints Try.underlying23 Try.underlying3 zqk h with ⟨hcs,_⟩|⟨a,l,c,zs,hcs,_,hl,hm,hz,_,hcell,_⟩
 ·simp at hcs
  exact⟨none,0,[],hcs,Nat.le_refl _,Nat.zero_le _,rfl,Nat.zero_le _,fun h=>absurd h (Nat.not_lt_zero _)⟩
 ·simp at hcs hz
  have hl':(zs.take l).length=l:=by rw [List.length_take];omega
  have hmax:c≤9223372036854775807:=hm
  refine⟨some a,c,zs.take l,by rw [hl'];exact hcs,by omega,by omega,by rw [hl'],by omega,fun _=>⟨a,rfl,fun j p hp=>?_⟩⟩
  have hj:j<l:=by
   have:=(List.getElem?_eq_some_iff.1 hp).1
   rw [hl'] at this;exact this
  refine⟨[.int .i64 p],rfl,rfl,fun i u hu=>?_⟩
  rcases i with _|i
  ·have hu':Value.int .i64 p=u:=by simpa using hu
   have hc:=hcell j (by omega)
   have hp':zs.getD j 0=p:=by
    rw [List.getElem?_take,if_pos hj] at hp
    rw [List.getD_eq_getElem?_getD,hp];rfl
   show W.cell? (a.add (j*1+0))=some u
   rw [Nat.mul_one,Nat.add_zero,hc,hp',hu']
  ·simp at hu
theorem rows_in {H : Type} {enc : TypeId × Value → H} {W : World} {base fuel : Nat} {held : Bool} {v : Value} {x : DataW H × List MemPlace} (h : DataW.trod enc Try.prog W base (fun _ => true) held fuel 22 [v] = some x) :
 ∃A c U,v= .slice A U.length c∧U.length≤c∧U.length≤9223372036854775807∧(∀r ∈ U,r.length≤9223372036854775807)∧Kd.C (Kd.slice 3 (Kd.int .i64)) W A U.length U:=by
 rcases open_int_rows Try.underlying22 Try.underlying23 Try.underlying3 zqk zqk h with ⟨hcs,_⟩|⟨a,l,c,A,L,C,Z,hcs,_,hl,hm,_,hr⟩
 ·simp at hcs
  exact⟨none,0,[],hcs,Nat.le_refl _,Nat.zero_le _,by simp,rfl,Nat.zero_le _,fun h=>absurd h (Nat.not_lt_zero _)⟩
 ·simp at hcs
  have hmax:c≤9223372036854775807:=hm
  have hlr: ∀r,r<c→((Z r).take (L r)).length=L r:=fun r h=>by
   obtain⟨_,h1,_,h2,_⟩:=hr r h
   rw [List.length_take];omega
  have hU:((List.range l).map fun r=>(Z r).take (L r)).length=l:=by simp
  refine⟨some a,c,(List.range l).map fun r=>(Z r).take (L r),by rw [hU];exact hcs,by omega,by omega,fun r hr'=>?_,by rw [hU],by omega,fun _=>⟨a,rfl,fun j p hp=>?_⟩⟩
  ·obtain⟨i,hi,rfl⟩:=List.mem_map.1 hr'
   have hi':i<c:=by have:=List.mem_range.1 hi;omega
   rw [hlr i hi']
   have h1:L i≤C i:=(hr i hi').2.1
   have h2:C i≤9223372036854775807:=(hr i hi').2.2.1
   omega
  ·have hj:j<l:=by
    have:=(List.getElem?_eq_some_iff.1 hp).1
    rw [hU] at this;exact this
   have hp':p=(Z j).take (L j):=by
    rw [List.getElem?_map,List.getElem?_range hj] at hp
    simpa using hp.symm
   obtain⟨hcell,h1,h2,h3,h4,h5,h6⟩:=hr j (by omega)
   have h2':C j≤9223372036854775807:=h2
   have hlj:=hlr j (by omega)
   refine⟨[.slice (A j) p.length (C j)],rfl,⟨A j,C j,rfl,by rw [hp',hlj];exact h1,rfl,by rw [hp',hlj];omega,fun hpos=>?_⟩,fun i u hu=>?_⟩
   ·rw [hp',hlj] at hpos
    cases hA:A j with
    |none=>have:=h5 hA;omega
    |some a'=>
     refine⟨a',rfl,fun i q hq=>?_⟩
     have hi:i<L j:=by
      have:=(List.getElem?_eq_some_iff.1 hq).1
      rw [hp',hlj] at this;exact this
     refine⟨[.int .i64 q],rfl,rfl,fun i' u hu=>?_⟩
     rcases i' with _|i'
     ·have hu':Value.int .i64 q=u:=by simpa using hu
      have hc:=(h6 a' hA).2 i (by omega)
      have hq':(Z j).getD i 0=q:=by
       rw [hp',List.getElem?_take,if_pos hi] at hq
       rw [List.getD_eq_getElem?_getD,hq];rfl
      show W.cell? (a'.add (i*1+0))=some u
      rw [Nat.mul_one,Nat.add_zero,hc,hq',hu']
     ·simp at hu
   ·rcases i with _|i
    ·have hu':Value.slice (A j) p.length (C j)=u:=by simpa using hu
     show W.cell? (a.add (j*1+0))=some u
     rw [Nat.mul_one,Nat.add_zero,hcell,← hu',hp',hlj]
    ·simp at hu
set_option maxRecDepth 100000 in
theorem logic_cells {H : Type} {enc : TypeId × Value → H} {W : World} {base n : Nat} {held : Bool} {cs : List Value} {y : DataW H × List MemPlace} (hl : cs.length = 2) (h : DataW.trod enc Try.prog W base (fun _ => true) held n 34 cs = some y) :
 ∃A0 c0 U A1 c1 N,cs= [.slice A0 U.length c0,.slice A1 N.length c1]∧U.length≤c0∧N.length≤c1∧FitL U N∧Kd.C (Kd.slice 3 (Kd.int .i64)) W A0 U.length U∧Kd.C (Kd.int .i64) W A1 N.length N:=by
 obtain⟨xs,k,hk,hxy,_,hxl,hf⟩:=DataW.trod_struct Try.underlying34 h
 match cs,hl with
 | [v0,v1],_=>
  have c0:Try.prog.cellsOf 22=1:=by kernel_rfl
  have c1:Try.prog.cellsOf 23=1:=by kernel_rfl
  match xs,hxl with
  | [y0,y1],_=>
   have g0:=hf 0 _ rfl
   have g1:=hf 1 _ rfl
   simp [c0,c1] at g0 g1
   obtain⟨A0,c0,U,rfl,k0,k1,k2,k3⟩:=rows_in g0
   obtain⟨A1,c1,N,rfl,l0,l1,l2⟩:=ints_in g1
   exact⟨A0,c0,U,A1,c1,N,rfl,k0,l0,⟨k1,k2,l1⟩,k3,l2⟩
set_option maxRecDepth 100000 in
theorem logics_in {H : Type} {enc : TypeId × Value → H} {W : World} {base fuel : Nat} {held : Bool} {v : Value} {y : DataW H × List MemPlace} (hb : base = 0) (h : DataW.trod enc Try.prog W base (fun _ => true) held fuel 35 [v] = some y) :
 ∃(A:Option Addr) (c:Nat) (l:List S34),v= .slice A l.length c∧l.length≤c∧l.length≤9223372036854775807∧(∀x ∈ l,FitL x.f0 x.f1)∧Kd.C k34 W A l.length l:=by
 subst hb
 have c3:Try.prog.cellsOf 34=2:=by kernel_rfl
 rcases open_slice Try.underlying35 h with ⟨hcs,_⟩|⟨a,len,cap,m,n,D,Pl,hcs,_,hl,hm,hmm,_,hx⟩
 ·simp at hcs
  subst hcs
  exact⟨none,0,[],rfl,Nat.le_refl _,Nat.zero_le _,fun x hx=>absurd hx (by simp),rfl,Nat.zero_le _,fun h=>absurd h (Nat.not_lt_zero _)⟩
 ·simp at hcs
  subst hcs
  have hlm:len≤m:=by rw [hmm];split <;> omega
  have each: ∀i,i<len→ ∃x:S34,FitL x.f0 x.f1∧ ∃cs,cs.length=2∧Kd.K k34 W x cs∧ ∀j u,cs[j]? =some u→W.cell? (a.add (i*2+j))=some u:=by
   intro i hi
   obtain⟨cs',h1,h2⟩:=hx i (by omega)
   rw [c3] at h1
   obtain⟨_,hlen,hcell⟩:=World.cells?_some h1
   obtain⟨A0,c0,U,A1,c1,N,rfl,k0,l0,hf,hr0,hr1⟩:=logic_cells hlen h2
   refine⟨⟨U,N⟩,hf,_,rfl,⟨[.slice A0 U.length c0],[.slice A1 N.length c1],rfl,⟨A0,c0,rfl,k0,hr0⟩,⟨A1,c1,rfl,l0,hr1⟩⟩,fun j u hu=>?_⟩
   have hj:j<2:=by
    have:=(List.getElem?_eq_some_iff.1 hu).1
    simpa using this
   have e0:=hcell j hj
   rw [Go.Deep.add_add] at e0
   rw [e0];exact hu
  haveI:Inhabited S34:=⟨z34⟩
  obtain⟨f,hf'⟩:=choose_lt each
  have hL:((List.range len).map f).length=len:=by simp
  have hmax:cap≤9223372036854775807:=hm
  refine⟨some a,cap,(List.range len).map f,by rw [hL],by omega,by omega,fun x hx=>?_,by rw [hL],by omega,fun _=>⟨a,rfl,fun j p hp=>?_⟩⟩
  ·obtain⟨i,hi,rfl⟩:=List.mem_map.1 hx
   exact(hf' i (List.mem_range.1 hi)).1
  ·have hj:j<len:=by
    have:=(List.getElem?_eq_some_iff.1 hp).1
    rw [hL] at this;exact this
   have hp':p=f j:=by
    rw [List.getElem?_map,List.getElem?_range hj] at hp
    simpa using hp.symm
   subst hp'
   obtain⟨_,cs,h1,h2,h3⟩:=hf' j hj
   exact⟨cs,h1,h2,h3⟩
set_option maxRecDepth 100000 in
theorem desk_in {H : Type} {enc : TypeId × Value → H} {W : World} {held : Bool} {r : Reach} {b0 : Nat} {v : Value} {d : DataW H} {ps : List MemPlace} (hv : Value.okWide Try.prog W r b0 37 v)
 (h:DataW.Trod enc Try.prog W 0 (fun _=>true) held 37 v d ps):
 ∃A0 c0 U A1 c1 N A2 c2,∃l:List S34,v= .agg #[.slice A0 U.length c0,.slice A1 N.length c1,.slice A2 l.length c2]∧U.length≤c0∧N.length≤c1∧FitL U N∧Kd.C (Kd.slice 3 (Kd.int .i64)) W A0 U.length U∧Kd.C (Kd.int .i64) W A1 N.length N∧
  l.length≤c2∧l.length≤9223372036854775807∧(∀x ∈ l,FitL x.f0 x.f1)∧Kd.C k34 W A2 l.length l:=by
 obtain⟨cs,rfl,hsz⟩:=okWide_struct Try.underlying37 hv
 obtain⟨v0,v1,v2,rfl⟩:=array3 (hsz.trans (show Try.prog.cellsOf 37=3 by kernel_rfl))
 obtain⟨fuel,hf⟩:=h
 obtain⟨xs,k,hk,hxy,_,hxl,hg⟩:=DataW.trod_struct Try.underlying37 hf
 have c0:Try.prog.cellsOf 34=2:=by kernel_rfl
 have c1:Try.prog.cellsOf 35=1:=by kernel_rfl
 match xs,hxl with
 | [y0,y1],_=>
  have g0:=hg 0 _ rfl
  have g1:=hg 1 _ rfl
  simp [c0,c1,Value.cells] at g0 g1
  obtain⟨A0,c0,U,A1,c1,N,e,k0,l0,hfit,hr0,hr1⟩:=logic_cells rfl g0
  injection e with e1 e2
  injection e2 with e2 _
  subst e1;subst e2
  obtain⟨A2,c2,l,rfl,m0,m1,m2,m3⟩:=logics_in rfl g1
  exact⟨A0,c0,U,A1,c1,N,A2,c2,l,rfl,k0,l0,hfit,hr0,hr1,m0,m1,m2,m3⟩
end Go.Proofs.Ytndbbbnofmlkdaa.Print
end
section
namespace Go.Proofs.Ytndbbbnofmlkdaa.Print
open Go.RowKit Go.Proofs.YtndbbbnofmlkdaaW.PrintWords Go.Proofs.YtndbbbnofmlkdaaW.PrintLast Go.Proofs.YtndbbbnofmlkdaaW.PrintMore
open Oml
section
def In (U : List (List Int)) (a : Int) : Prop := 0 ≤ a ∧ a < (U.length : Int)
def andI (U : List (List Int)) (a b : Int) : Int := mI U a.toNat b.toNat
def orI (U : List (List Int)) (a b : Int) : Int := jI U a.toNat b.toNat
def notI (N : List Int) (a : Int) : Int := at1 N a.toNat
def noI (U : List (List Int)) : Int := optI (leastO U)
def yesI (U : List (List Int)) (N : List Int) : Int := notI N (noI U)
structure Adr where
 aU:Addr
 aA:Addr
 aO:Addr
 aN:Addr
 cU:Nat
 cA:Nat
 cO:Nat
 cN:Nat
 rU:Nat→Addr
 rA:Nat→Addr
 rO:Nat→Addr
 qU:Nat→Nat
 qA:Nat→Nat
 qO:Nat→Nat
structure View (W : World) (g : Nat) (U : List (List Int)) (N : List Int) (v : Adr) : Prop where
 blk:W.heap[g]? =some (.cells #[.slice (some v.aU) U.length v.cU,.slice (some v.aA) U.length v.cA,.slice (some v.aO) U.length v.cO,.slice (some v.aN) U.length v.cN,.int .i64 (noI U),.int .i64 (yesI U N)] 72 (0,0))
 len:N.length=U.length
 u: ∀a,In U a→W.cell? (v.aU.add a.toNat)=some (.slice (some (v.rU a.toNat)) U.length (v.qU a.toNat))
 u2: ∀a b,In U a→In U b→W.cell? ((v.rU a.toNat).add b.toNat)=some (.int .i64 (at2 U a.toNat b.toNat))
 m: ∀a,In U a→W.cell? (v.aA.add a.toNat)=some (.slice (some (v.rA a.toNat)) U.length (v.qA a.toNat))
 m2: ∀a b,In U a→In U b→W.cell? ((v.rA a.toNat).add b.toNat)=some (.int .i64 (andI U a b))
 j: ∀a,In U a→W.cell? (v.aO.add a.toNat)=some (.slice (some (v.rO a.toNat)) U.length (v.qO a.toNat))
 j2: ∀a b,In U a→In U b→W.cell? ((v.rO a.toNat).add b.toNat)=some (.int .i64 (orI U a b))
 n: ∀a,In U a→W.cell? (v.aN.add a.toNat)=some (.int .i64 (notI N a))
 capU:U.length≤v.cU
 capR: ∀a,In U a→U.length≤v.qU a.toNat
namespace View
section
variable {W W1 : World} {g : Nat} {U : List (List Int)} {N : List Int} {v : Adr} (h : View W g U N v)
include h
theorem below (hb : Below W.heap.size W W1) : View W1 g U N v where
 blk:=blk_below h.blk hb
 len:=h.len
 u:=fun a ha=>cell_up (h.u a ha) hb rfl
 u2:=fun a b ha hb'=>cell_up (h.u2 a b ha hb') hb rfl
 m:=fun a ha=>cell_up (h.m a ha) hb rfl
 m2:=fun a b ha hb'=>cell_up (h.m2 a b ha hb') hb rfl
 j:=fun a ha=>cell_up (h.j a ha) hb rfl
 j2:=fun a b ha hb'=>cell_up (h.j2 a b ha hb') hb rfl
 n:=fun a ha=>cell_up (h.n a ha) hb rfl
 capU:=h.capU
 capR:=h.capR
theorem f0 : W.cell? ⟨g, 0, none⟩ = some (.slice (some v.aU) U.length v.cU) := (blk_cell h.blk 0).trans rfl
theorem f1 : W.cell? ⟨g, 1, none⟩ = some (.slice (some v.aA) U.length v.cA) := (blk_cell h.blk 1).trans rfl
theorem f2 : W.cell? ⟨g, 2, none⟩ = some (.slice (some v.aO) U.length v.cO) := (blk_cell h.blk 2).trans rfl
theorem f3 : W.cell? ⟨g, 3, none⟩ = some (.slice (some v.aN) U.length v.cN) := (blk_cell h.blk 3).trans rfl
theorem f4 : W.cell? ⟨g, 4, none⟩ = some (.int .i64 (noI U)) := (blk_cell h.blk 4).trans rfl
theorem drewN (n : Nat) : View (W.drewN n) g U N v := h.below (pw_below_drewN (Below.refl _ _) n)
theorem alloc (o : Obj) : View (W.alloc o) g U N v := h.below (below_alloc (Below.refl _ _) o)
end
end View
theorem rows_adr {W : World} {A : Option Addr} {n m : Nat} {xs : List (List Int)} (h : Kd.C (Kd.slice 3 (Kd.int .i64)) W A m xs) (hm : m = n) (hn : 0 < n) (hr : ∀ a, a < n → (xs.getD a []).length = n) :
 ∃(ad:Addr) (r:Nat→Addr) (q:Nat→Nat),A=some ad∧(∀a,a<n→W.cell? (ad.add a)=some (.slice (some (r a)) n (q a)))∧(∀a b,a<n→b<n→W.cell? ((r a).add b)=some (.int .i64 (at2 xs a b)))∧ ∀a,a<n→n≤q a:=by
 subst hm
 obtain⟨ad,_,_,e,_⟩:=mat_cell h hr 0 0 (by omega) (by omega) (by omega) (by omega)
 have key: ∀a:Nat,∃(r:Addr) (q:Nat),a<m→W.cell? (ad.add a)=some (.slice (some r) m q)∧(∀b,b<m→W.cell? (r.add b)=some (.int .i64 (at2 xs a b)))∧m≤q:=by
  intro a
  by_cases ha:a<m
  ·obtain⟨ad1,Ar,cr,e1,hc,hl,hk⟩:=rows_cell h a (by omega) (by omega)
   rw [e] at e1
   injection e1 with e1
   subst e1
   simp only [Int.toNat_natCast] at hc hl hk
   rw [hr a ha] at hc hl hk
   obtain⟨r,e2,_⟩:=ints_cell hk 0 (by omega) (by omega)
   subst e2
   refine⟨r,cr,fun _=>⟨hc,fun b hb=>?_,hl⟩⟩
   obtain⟨r',e3,hc3⟩:=ints_cell hk b (by omega) (by omega)
   cases e3
   simpa [at2,at1] using hc3
  ·exact⟨ad,0,fun h=>absurd h ha⟩
 refine⟨ad,fun a=>Classical.choose (key a),fun a=>Classical.choose (Classical.choose_spec (key a)),e,fun a ha=>?_,fun a b ha hb=>?_,fun a ha=>?_⟩
 ·exact(Classical.choose_spec (Classical.choose_spec (key a)) ha).1
 ·exact(Classical.choose_spec (Classical.choose_spec (key a)) ha).2.1 b hb
 ·exact(Classical.choose_spec (Classical.choose_spec (key a)) ha).2.2
theorem view_of {W : World} {g : Nat} {U : List (List Int)} {N : List Int} (L : Logic U N) (h : AlgOf W g U N) : ∃ v, View W g U N v := by
 obtain⟨A0,c0,A1,c1,A2,c2,A3,c3,h1,hc,k0,k1,k2,k3⟩:=h
 have hn:0<U.length:=L.pos
 rw [tabI_length] at h1 hc k1 k2
 rw [tabI_length,L.len] at h1
 rw [tabI_length,L.len] at hc
 rw [L.len] at k3
 obtain⟨aU,rU,qU,eU,u1,u2,u3⟩:=rows_adr k0 rfl hn L.row
 obtain⟨aA,rA,qA,eA,m1,m2,m3⟩:=rows_adr k1 rfl hn (tabI_row _ _)
 obtain⟨aO,rO,qO,eO,j1,j2,j3⟩:=rows_adr k2 rfl hn (tabI_row _ _)
 obtain⟨aN,eN,_⟩:=ints_cell k3 0 (by omega) (by omega)
 subst eU eA eO eN
 have nat: ∀a,In U a→a.toNat<U.length:=fun a ha=>by have:=ha.1;have:=ha.2;omega
 refine⟨⟨aU,aA,aO,aN,c0,c1,c2,c3,rU,rA,rO,qU,qA,qO⟩,{ blk:=h1,len:=L.len,u:=fun a ha=>u1 _ (nat a ha),u2:=fun a b ha hb=>u2 _ _ (nat a ha) (nat b hb),m:=fun a ha=>m1 _ (nat a ha),m2:=fun a b ha hb=>?_,j:=fun a ha=>j1 _ (nat a ha),j2:=fun a b ha hb=>?_,n:=fun a ha=>?_,capU:=hc.1,capR:=fun a ha=>u3 _ (nat a ha) }⟩
 ·rw [m2 _ _ (nat a ha) (nat b hb),tabI_at _ _ _ _ (nat a ha) (nat b hb)];rfl
 ·rw [j2 _ _ (nat a ha) (nat b hb),tabI_at _ _ _ _ (nat a ha) (nat b hb)];rfl
 ·obtain⟨ad,e,hcell⟩:=ints_cell k3 a ha.1 ha.2
  cases e
  exact hcell
theorem told_y (k : Nat) (A0 : Option Addr) (c0 : Nat) (U : List (List Int)) (A1 : Option Addr) (c1 : Nat) (N : List Int) (w : World)
 (hr0:Kd.C (Kd.slice 3 (Kd.int .i64)) w A0 U.length U) (hc0:U.length≤c0) (hr1:Kd.C (Kd.int .i64) w A1 N.length N) (hc1:N.length≤c1) (hF:ToldFacts k U) (hL:logicB U N=true):
 Calls Try.prog 47 #[.agg #[.slice A0 U.length c0,.slice A1 N.length c1]] w fun e w'=> ∃g v,e= .returned (.pointer (some ⟨g,0,none⟩))∧View w' g U N v∧w.heap.size≤g∧Below w.heap.size w w':=by
 refine(told_calls k A0 c0 U A1 c1 N w hr0 hc0 hr1 hc1 hF).mono fun e w' h=>?_
 obtain⟨hb,h|h⟩:=h
 ·obtain⟨_,g,he,hg,ha⟩:=h
  obtain⟨v,hv⟩:=view_of (logicB_iff.1 hL) ha
  exact⟨g,v,he,hv,hg,hb⟩
 ·rw [hL] at h;exact absurd h.1 (by simp)
theorem told_n (k : Nat) (A0 : Option Addr) (c0 : Nat) (U : List (List Int)) (A1 : Option Addr) (c1 : Nat) (N : List Int) (w : World)
 (hr0:Kd.C (Kd.slice 3 (Kd.int .i64)) w A0 U.length U) (hc0:U.length≤c0) (hr1:Kd.C (Kd.int .i64) w A1 N.length N) (hc1:N.length≤c1) (hF:ToldFacts k U) (hL:logicB U N=false):
 Calls Try.prog 47 #[.agg #[.slice A0 U.length c0,.slice A1 N.length c1]] w fun e w'=>e= .returned (.pointer none)∧Below w.heap.size w w':=by
 refine(told_calls k A0 c0 U A1 c1 N w hr0 hc0 hr1 hc1 hF).mono fun e w' h=>?_
 obtain⟨hb,h|h⟩:=h
 ·rw [hL] at h;exact absurd h.1 (by simp)
 ·exact⟨h.2,hb⟩
end
def impl_LogicOk.f (l0_0 : List (List Int)) (l0_1 : List Int) : Option (Bool) := some (logicB l0_0 l0_1)
set_option maxHeartbeats 1000000 in
theorem impl_LogicOk.calls (A0_0 : Option Addr) (c0_0 : Nat) (l0_0 : List (List Int)) (A0_1 : Option Addr) (c0_1 : Nat) (l0_1 : List Int) (r : Bool) (w : World) (hr0_0 : Kd.C (Kd.slice 3 (Kd.int .i64)) w A0_0 l0_0.length l0_0) (hc0_0 : l0_0.length ≤ c0_0) (hr0_1 : Kd.C (Kd.int .i64) w A0_1 l0_1.length l0_1) (hc0_1 : l0_1.length ≤ c0_1) (h : impl_LogicOk.f l0_0 l0_1 = some r) :
 Calls Try.prog 27 #[.agg #[.slice A0_0 l0_0.length c0_0,.slice A0_1 l0_1.length c0_1]] w fun e w'=>e= .returned (.bool r)∧Below w.heap.size w w':=by
 obtain⟨k,hF⟩:=told_facts l0_0
 have hu30:=Try.underlying25
 have hu70:=Try.underlying72
 have HF:=zqm hF
 have HR0:=zqm hr0_0
 have HC0:=zqm hc0_0
 have HR1:=zqm hr0_1
 have HC1:=zqm hc0_1
 simp only [impl_LogicOk.f,Option.some.injEq] at h
 clear hr0_0 hc0_0 hr0_1 hc0_1 hF
 cases hL:logicB l0_0 l0_1 with
 |false=>
  rw [hL] at h
  have hr_:false=r:=h
  subst hr_
  have HLB:=zqm hL
  clear h hL
  go_enter Try.func27,Try.ntmps27
  go_wp2_with (first|((with_reducible refine gate_dst (N:=1) rfl ?_);refine box_event ?hg (N:=1) ?hd (cs:= #[.slice A0_0 l0_0.length c0_0,.slice A0_1 l0_1.length c0_1]) (t:=25) ?hr ?_;(case hd=>rfl);(case hg=>rfl);(case hr=>first|(go_simp;done)|(go_simp;rfl));intro gb hg_ w1 hbox hb;have HB:=zqm hb;have hx0:w1.cell? ⟨gb,0,none⟩=some (.slice A0_0 l0_0.length c0_0):=(blk_cell hbox 0).trans rfl;have hx1:w1.cell? ⟨gb,1,none⟩=some (.slice A0_1 l0_1.length c0_1):=(blk_cell hbox 1).trans rfl;have HX:=zqm hbox;clear hbox hb hg_)|(go_at_call 47;(with_reducible refine(told_n k _ _ l0_0 _ _ l0_1 _ ?s1 ?s2 ?s3 ?s4 HF.out HLB.out).mono ?_);(case s1=>exact Kd.C_below HR0.out HB.out);(case s2=>exact HC0.out);(case s3=>exact Kd.C_below HR1.out HB.out);(case s4=>exact HC1.out);rintro e w2 ⟨rfl,hb⟩;have HB2:=zqm (below_step HB.out hb);clear hb hx0 hx1 HX HB))
  go_ret
  exact⟨rfl,HB2.out⟩
 |true=>
  rw [hL] at h
  have hr_:true=r:=h
  subst hr_
  have HLB:=zqm hL
  have HLg:=zqm (logicB_iff.1 hL)
  clear h hL
  go_enter Try.func27,Try.ntmps27
  go_wp2_with (first|((with_reducible refine gate_dst (N:=1) rfl ?_);refine box_event ?hg (N:=1) ?hd (cs:= #[.slice A0_0 l0_0.length c0_0,.slice A0_1 l0_1.length c0_1]) (t:=25) ?hr ?_;(case hd=>rfl);(case hg=>rfl);(case hr=>first|(go_simp;done)|(go_simp;rfl));intro gb hg_ w1 hbox hb;have HB:=zqm hb;have hx0:w1.cell? ⟨gb,0,none⟩=some (.slice A0_0 l0_0.length c0_0):=(blk_cell hbox 0).trans rfl;have hx1:w1.cell? ⟨gb,1,none⟩=some (.slice A0_1 l0_1.length c0_1):=(blk_cell hbox 1).trans rfl;have HX:=zqm hbox;clear hbox hb hg_)|(go_at_call 47;(with_reducible refine(told_y k _ _ l0_0 _ _ l0_1 _ ?s1 ?s2 ?s3 ?s4 HF.out HLB.out).mono ?_);(case s1=>exact Kd.C_below HR0.out HB.out);(case s2=>exact HC0.out);(case s3=>exact Kd.C_below HR1.out HB.out);(case s4=>exact HC1.out);rintro e w2 ⟨g,v,rfl,hv,hge,hb⟩;have HB2:=zqm (below_step HB.out hb);have HV:=zqm hv;clear hv hge hb hx0 hx1 HX HB))
  go_ret
  exact⟨rfl,HB2.out⟩
end Go.Proofs.Ytndbbbnofmlkdaa.Print
end
section
namespace Go.Proofs.Ytndbbbnofmlkdaa.Print
open Go.RowKit Go.Proofs.YtndbbbnofmlkdaaW.PrintWords Go.Proofs.YtndbbbnofmlkdaaW.PrintLast Go.Proofs.YtndbbbnofmlkdaaW.PrintMore
theorem goesV_ {P : Program} {ops : Array Oper} {Q : Exit → Act → World → Prop} {rest : List Oper} {oi : Oper} {a : Act} {w : World} (N : Option Tmp) (hd : oi.dst = N) (hg : oi.guard = none) {f : FuncId} {fn : Func} {x : Operand} {xo : Array Operand} {ts : Array TypeId} {cs : Array Value}
 (hf : P.funcs[f]? = some fn) (hname : (fn.name == "runtime.NumGoroutine") = false) (hb : fn.body.isSome = true) (args : Array Value)
 (hop : oi.op = .call { callee := .value x, args := xo, argTypes := ts }) (hx : a.eval x = .func (.func f) #[] cs) (hargs : xo.map a.eval = args)
 (h : Calls P f (args ++ cs) w fun e w' => ∃ v, e = .returned v ∧ wpList P ops Q rest (a.put N v) w') : wpList P ops Q (oi :: rest) a w := by
 refine wpList_plain hg fun K hK => ?_
 have he := enters_ hf hname hb (args ++ cs) w
 have hrun : (execOp a.eval oi).run P w = .ok (.enter f (args ++ cs)) w := by
  unfold execOp
  simp [hop, resolve, Deferred.ofValue, invoke, hx, hargs, he]
 unfold Oper.wp
 rw [hrun, Oper.upon_enter]
 refine h.mono fun e w'' hh => ?_
 obtain ⟨v, rfl, hk⟩ := hh
 subst hd
 exact hK _ _ hk
end Go.Proofs.Ytndbbbnofmlkdaa.Print
end
section
namespace Go.Proofs.Ytndbbbnofmlkdaa.Print
open Go.RowKit Go.Proofs.YtndbbbnofmlkdaaW.PrintWords Go.Proofs.YtndbbbnofmlkdaaW.PrintLast Go.Proofs.YtndbbbnofmlkdaaW.PrintMore
open Oml
def nol (x : S25) : Bool := !(logicB x.f0 x.f1)
def nolI (l : List S25) (i : Nat) : Bool := nol (rd_T25 l (i : Int))
def idxL (l : List S25) : Int := optI (findN l.length (nolI l))
def deskB (u : List (List Int)) (n : List Int) (l : List S25) : Bool := logicB u n && (decide (l.length ≤ 8) && allN l.length fun i => logicB (rd_T25 l (i : Int)).f0 (rd_T25 l (i : Int)).f1)
set_option maxHeartbeats 1000000 in
theorem desk_c1 (A0 : Option Addr) (c0 : Nat) (u : List (List Int)) (A1 : Option Addr) (c1 : Nat) (n : List Int) (w : World) (h0 : Kd.C (Kd.slice 3 (Kd.int .i64)) w A0 u.length u) (k0 : u.length ≤ c0) (h1 : Kd.C (Kd.int .i64) w A1 n.length n) (k1 : n.length ≤ c1) :
 Calls Try.prog 29 #[.agg #[.slice A0 u.length c0,.slice A1 n.length c1]] w fun e w'=>e= .returned (.bool (!(logicB u n)))∧Below w.heap.size w w':=by
 have hu30:=Try.underlying25
 have H0:=zqm h0
 have H1:=zqm h1
 have K0:=zqm k0
 have K1:=zqm k1
 obtain⟨b,hb⟩: ∃b,b=logicB u n:=⟨_,rfl⟩
 rw [← hb]
 have HL:=zqm (show impl_LogicOk.f u n=some b by rw [hb];rfl)
 clear h0 h1 k0 k1 hb
 go_enter Try.func29,Try.ntmps29
 go_wp2_with (first|((with_reducible refine gate_dst (N:=1) rfl ?_);refine box_event ?hg (N:=1) ?hd (cs:= #[.slice A0 u.length c0,.slice A1 n.length c1]) (t:=25) ?hr ?_;(case hd=>rfl);(case hg=>rfl);(case hr=>first|(go_simp;done)|(go_simp;rfl));intro gb hg_ w1 hbox hb;have HB:=zqm hb;have hx0:w1.cell? ⟨gb,0,none⟩=some (.slice A0 u.length c0):=(blk_cell hbox 0).trans rfl;have hx1:w1.cell? ⟨gb,1,none⟩=some (.slice A1 n.length c1):=(blk_cell hbox 1).trans rfl;clear hbox hb hg_)|(go_at_call 27;(with_reducible refine(impl_LogicOk.calls _ _ u _ _ n b _ ?s1 ?s2 ?s3 ?s4 HL.out).mono ?_);(case s1=>exact Kd.C_below H0.out HB.out);(case s2=>exact K0.out);(case s3=>exact Kd.C_below H1.out HB.out);(case s4=>exact K1.out);rintro e w2 ⟨rfl,hb⟩;have HB2:=zqm (below_step HB.out hb);clear hb hx0 hx1))
 go_ret
 exact⟨rfl,HB2.out⟩
set_option maxHeartbeats 2000000 in
set_option maxRecDepth 100000 in
theorem idx_calls (A : Option Addr) (c : Nat) (l : List S25) (w : World) (h : Kd.C k25 w A l.length l) (hs : l.length < 1000000) :
 Calls Try.prog 48 #[.slice A l.length c,.func (.func 29) #[] #[]] w fun e w'=>e= .returned (.int .i64 (idxL l))∧Below w.heap.size w w':=by
 have hu30:=Try.underlying25
 have HC:=zqm h
 have HS:=zqm hs
 clear h hs
 go_enter Try.func48,Try.ntmps48
 go_wp2_with fail
 go_loopg [8] (l.length+1) (fun kq v8 W=> ∃i:Nat,v8= .int .i64 i∧Aside0 (i+kq=l.length+1)∧Aside0 (i≤l.length)∧Aside0 (∀j,j<i→nolI l j=false)∧Aside0 (Below w.heap.size w W))
 case atStart=>exact⟨0,rfl,⟨by omega⟩,⟨by omega⟩,⟨fun j hj=>absurd hj (Nat.not_lt_zero _)⟩,⟨by repeat(first|exact Below.refl _ _|apply below_alloc|apply pw_below_drewN|apply below_drew1)⟩⟩
 case round=>
  obtain⟨i,rfl,HK,HK2,HN,HB⟩:=hrel
  cases gk with
  |zero=>exact absurd HK.out (by have:=HK2.out;omega)
  |succ kn=>
  by_cases hlt:i<l.length
  ·have hlt':decide (i<l.length)=true:=decide_eq_true hlt
   have HLT:=zqm hlt
   obtain⟨ad,A0,c0,A1,c1,e,hx0,hx1,k0,h0,k1,h1⟩:=at_T25 HC.out (i:Int) (by omega) (by omega)
   subst e
   rw [Int.toNat_natCast] at hx0 hx1
   have hx0':=(HB.out.cell (World.block_lt_of_cell? w _ hx0)).trans hx0
   have hx1':=(HB.out.cell (World.block_lt_of_cell? w _ hx1)).trans hx1
   have H0:=zqm h0
   have H1:=zqm h1
   have K0:=zqm k0
   have K1:=zqm k1
   obtain⟨b,hb⟩: ∃b,b=nolI l i:=⟨_,rfl⟩
   have HBV:=zqm hb
   have HW:=zqm (show (!(logicB (rd_T25 l (i:Int)).f0 (rd_T25 l (i:Int)).f1))=b by rw [hb];rfl)
   have p1:(i<l.length)=True:=eq_true hlt
   generalize hu:(rd_T25 l (i:Int)).f0=u at*
   generalize hn:(rd_T25 l (i:Int)).f1=n at*
   clear hlt hx0 hx1 h0 h1 k0 k1 hb hu hn
   cases b with
   |true=>
    go_wp2_with (first|(refine goesV_ (some 16) rfl rfl Try.func29 zqk rfl #[.agg #[.slice A0 u.length c0,.slice A1 n.length c1]] rfl rfl zq94 ?_;refine(desk_c1 A0 c0 u A1 c1 n _ ?s1 K0.out ?s2 K1.out).mono ?_;(case s1=>exact Kd.C_below H0.out HB.out);(case s2=>exact Kd.C_below H1.out HB.out);rintro e w1 ⟨he,hj⟩;rw [HW.out] at he;subst he;refine⟨_,rfl,?_⟩;have HB2:=zqm (below_step HB.out hj);clear hj))
    go_ret
    exact⟨by rw [show idxL l=(i:Int) by unfold idxL;rw [findN_of HLT.out HBV.out.symm HN.out];rfl];rfl,HB2.out⟩
   |false=>
    go_wp2_with (first|(refine goesV_ (some 16) rfl rfl Try.func29 zqk rfl #[.agg #[.slice A0 u.length c0,.slice A1 n.length c1]] rfl rfl zq94 ?_;refine(desk_c1 A0 c0 u A1 c1 n _ ?s1 K0.out ?s2 K1.out).mono ?_;(case s1=>exact Kd.C_below H0.out HB.out);(case s2=>exact Kd.C_below H1.out HB.out);rintro e w1 ⟨he,hj⟩;rw [HW.out] at he;subst he;refine⟨_,rfl,?_⟩;have HB2:=zqm (below_step HB.out hj);clear hj))
    go_roundg kn
    case measure=>omega
    case rel=>exact⟨i+1,by first|go_num|(rw [wrap_small (by omega) (by have:=HLT.out;have:=HS.out;omega)];go_num),⟨by have:=HK.out;omega⟩,⟨by have:=HLT.out;omega⟩,⟨fun j hj=>by
     by_cases e:j=i
     ·rw [e];exact HBV.out.symm
     ·exact HN.out j (by omega)⟩,⟨by repeat(first|exact HB2.out|apply below_alloc|apply pw_below_drewN|apply below_drew1)⟩⟩
  ·have hlt':decide (i<l.length)=false:=decide_eq_false hlt
   obtain rfl:i=l.length:=by have:=HK2.out;omega
   clear hlt
   go_wp2_with fail
   go_ret
   exact⟨by rw [show idxL l= -1 by unfold idxL;rw [findN_none.2 HN.out];rfl];rfl,by repeat(first|exact HB.out|apply below_alloc|apply pw_below_drewN|apply below_drew1)⟩
theorem con_calls (A : Option Addr) (c : Nat) (l : List S25) (w : World) (h : Kd.C k25 w A l.length l) (hs : l.length < 1000000) :
 Calls Try.prog 28 #[.slice A l.length c,.func (.func 29) #[] #[]] w fun e w'=>e= .returned (.bool (!(allN l.length fun i=>logicB (rd_T25 l (i:Int)).f0 (rd_T25 l (i:Int)).f1)))∧Below w.heap.size w w':=by
 have HC:=zqm h
 have HS:=zqm hs
 obtain⟨b,hb⟩: ∃b,b=(!(allN l.length fun i=>logicB (rd_T25 l (i:Int)).f0 (rd_T25 l (i:Int)).f1)):=⟨_,rfl⟩
 rw [← hb]
 obtain⟨x,hx⟩: ∃x,x=idxL l:=⟨_,rfl⟩
 have hbx:decide (0≤x)=b:=by
  rw [hb,hx]
  unfold idxL
  cases hf:findN l.length (nolI l) with
  |none=>
   have h2:=findN_none.1 hf
   rw [allN_iff.2 fun i hi=>by have:=h2 i hi;unfold nolI nol at this;simpa using this]
   rfl
  |some i=>
   have h2:=findN_some hf
   have h3:(allN l.length fun i=>logicB (rd_T25 l (i:Int)).f0 (rd_T25 l (i:Int)).f1)=false:=allN_false.2 ⟨i,h2.1,by have:=h2.2;unfold nolI nol at this;simpa using this⟩
   rw [h3]
   exact decide_eq_true (by show (0:Int)≤(i:Int);omega)
 have HX:=zqm hx
 cases b with
 |true=>
  have p1:(0≤x)=True:=eq_true (of_decide_eq_true hbx)
  clear h hs hb hx
  go_enter Try.func28,Try.ntmps28
  go_wp2_with (go_at_call 48;(with_reducible refine(idx_calls A c l _ HC.out HS.out).mono ?_);rintro e w1 ⟨he,hj⟩;rw [← HX.out] at he;subst he;have HB:=zqm hj;clear hj)
  go_ret
  exact⟨rfl,HB.out⟩
 |false=>
  have p1:(0≤x)=False:=eq_false (of_decide_eq_false hbx)
  clear h hs hb hx
  go_enter Try.func28,Try.ntmps28
  go_wp2_with (go_at_call 48;(with_reducible refine(idx_calls A c l _ HC.out HS.out).mono ?_);rintro e w1 ⟨he,hj⟩;rw [← HX.out] at he;subst he;have HB:=zqm hj;clear hj)
  go_ret
  exact⟨rfl,HB.out⟩
def impl_DeskOk.f (l0_0 : List (List Int)) (l0_1 : List Int) (l0_2 : List (S25)) : Option (Bool) := some (deskB l0_0 l0_1 l0_2)
set_option maxHeartbeats 2000000 in
set_option maxRecDepth 100000 in
theorem impl_DeskOk.calls (A0_0 : Option Addr) (c0_0 : Nat) (l0_0 : List (List Int)) (A0_1 : Option Addr) (c0_1 : Nat) (l0_1 : List Int) (A0_2 : Option Addr) (c0_2 : Nat) (l0_2 : List (S25)) (r : Bool) (w : World) (hr0_0 : Kd.C (Kd.slice 3 (Kd.int .i64)) w A0_0 l0_0.length l0_0) (hc0_0 : l0_0.length ≤ c0_0) (hr0_1 : Kd.C (Kd.int .i64) w A0_1 l0_1.length l0_1) (hc0_1 : l0_1.length ≤ c0_1) (hr0_2 : Kd.C k25 w A0_2 l0_2.length l0_2) (hc0_2 : l0_2.length ≤ c0_2) (h : impl_DeskOk.f l0_0 l0_1 l0_2 = some r) :
 Calls Try.prog 13 #[.agg #[.slice A0_0 l0_0.length c0_0,.slice A0_1 l0_1.length c0_1,.slice A0_2 l0_2.length c0_2]] w fun e w'=>e= .returned (.bool r)∧Below w.heap.size w w':=by
 have hu30:=Try.underlying25
 have hu56:=Try.underlying28
 have HR0:=zqm hr0_0
 have HC0:=zqm hc0_0
 have HR1:=zqm hr0_1
 have HC1:=zqm hc0_1
 have HR2:=zqm hr0_2
 have HC2:=zqm hc0_2
 have h':deskB l0_0 l0_1 l0_2=r:=Option.some.inj h
 clear hr0_0 hc0_0 hr0_1 hc0_1 hr0_2 hc0_2 h
 unfold deskB at h'
 cases hL:logicB l0_0 l0_1 with
 |false=>
  rw [hL,Bool.false_and] at h'
  subst h'
  have HL:=zqm (show impl_LogicOk.f l0_0 l0_1=some false by rw [← hL];rfl)
  clear hL
  go_enter Try.func13,Try.ntmps13
  go_wp2_with (first|((with_reducible refine gate_dst (N:=1) rfl ?_);refine box_event ?hg (N:=1) ?hd (cs:= #[.slice A0_0 l0_0.length c0_0,.slice A0_1 l0_1.length c0_1,.slice A0_2 l0_2.length c0_2]) (t:=28) ?hr ?_;(case hd=>rfl);(case hg=>rfl);(case hr=> exact zq13);intro gb hg_ w1 hbox hb;have HB:=zqm hb;have HX:=zqm hbox;have hx0:w1.cell? ⟨gb,0,none⟩=some (.slice A0_0 l0_0.length c0_0):=(blk_cell hbox 0).trans rfl;have hx1:w1.cell? ⟨gb,1,none⟩=some (.slice A0_1 l0_1.length c0_1):=(blk_cell hbox 1).trans rfl;have hx2:w1.cell? ⟨gb,2,none⟩=some (.slice A0_2 l0_2.length c0_2):=(blk_cell hbox 2).trans rfl;clear hbox hb hg_)|(go_at_call 27;(with_reducible refine(impl_LogicOk.calls _ _ l0_0 _ _ l0_1 false _ ?s1 ?s2 ?s3 ?s4 HL.out).mono ?_);(case s1=> exact zq83);(case s2=>exact HC0.out);(case s3=> exact zq107);(case s4=>exact HC1.out);rintro e w2 ⟨rfl,hb⟩;have HB2:=zqm (below_step HB.out hb);have HX2:=zqm (blk_below HX.out hb);have hy2:w2.cell? ⟨gb,2,none⟩=some (.slice A0_2 l0_2.length c0_2):=(blk_cell HX2.out 2).trans rfl;clear hb hx0 hx1 hx2 HB HX))
  go_ret
  exact⟨rfl,HB2.out⟩
 |true=>
  rw [hL,Bool.true_and] at h'
  have HL:=zqm (show impl_LogicOk.f l0_0 l0_1=some true by rw [← hL];rfl)
  clear hL
  by_cases h8:l0_2.length≤8
  ·have p8:decide ((l0_2.length:Int)≤8)=true:=decide_eq_true (by omega)
   have p8':decide (l0_2.length≤8)=true:=decide_eq_true h8
   have p8'':(l0_2.length≤8)=True:=eq_true h8
   rw [p8',Bool.true_and] at h'
   have HS:=zqm h8
   have HV:=zqm (show (!(allN l0_2.length fun i=>logicB (rd_T25 l0_2 (i:Int)).f0 (rd_T25 l0_2 (i:Int)).f1))=!r by rw [h'])
   clear h8 h'
   cases r with
   |true=>
    go_enter Try.func13,Try.ntmps13
    go_wp2_with (first|((with_reducible refine gate_dst (N:=1) rfl ?_);refine box_event ?hg (N:=1) ?hd (cs:= #[.slice A0_0 l0_0.length c0_0,.slice A0_1 l0_1.length c0_1,.slice A0_2 l0_2.length c0_2]) (t:=28) ?hr ?_;(case hd=>rfl);(case hg=>rfl);(case hr=> exact zq13);intro gb hg_ w1 hbox hb;have HB:=zqm hb;have HX:=zqm hbox;have hx0:w1.cell? ⟨gb,0,none⟩=some (.slice A0_0 l0_0.length c0_0):=(blk_cell hbox 0).trans rfl;have hx1:w1.cell? ⟨gb,1,none⟩=some (.slice A0_1 l0_1.length c0_1):=(blk_cell hbox 1).trans rfl;have hx2:w1.cell? ⟨gb,2,none⟩=some (.slice A0_2 l0_2.length c0_2):=(blk_cell hbox 2).trans rfl;clear hbox hb hg_)|(go_at_call 27;(with_reducible refine(impl_LogicOk.calls _ _ l0_0 _ _ l0_1 true _ ?s1 ?s2 ?s3 ?s4 HL.out).mono ?_);(case s1=> exact zq83);(case s2=>exact HC0.out);(case s3=> exact zq107);(case s4=>exact HC1.out);rintro e w2 ⟨rfl,hb⟩;have HB2:=zqm (below_step HB.out hb);have HX2:=zqm (blk_below HX.out hb);have hy2:w2.cell? ⟨gb,2,none⟩=some (.slice A0_2 l0_2.length c0_2):=(blk_cell HX2.out 2).trans rfl;clear hb hx0 hx1 hx2 HB HX)|(go_at_call 28;(with_reducible refine(con_calls A0_2 c0_2 l0_2 _ ?s1 (by have:=HS.out;omega)).mono ?_);(case s1=>exact Kd.C_below HR2.out HB2.out);rintro e w3 ⟨he,hb⟩;rw [HV.out] at he;subst he;have HB3:=zqm (below_step HB2.out hb);clear hb))
    go_ret
    exact⟨rfl,HB3.out⟩
   |false=>
    go_enter Try.func13,Try.ntmps13
    go_wp2_with (first|((with_reducible refine gate_dst (N:=1) rfl ?_);refine box_event ?hg (N:=1) ?hd (cs:= #[.slice A0_0 l0_0.length c0_0,.slice A0_1 l0_1.length c0_1,.slice A0_2 l0_2.length c0_2]) (t:=28) ?hr ?_;(case hd=>rfl);(case hg=>rfl);(case hr=> exact zq13);intro gb hg_ w1 hbox hb;have HB:=zqm hb;have HX:=zqm hbox;have hx0:w1.cell? ⟨gb,0,none⟩=some (.slice A0_0 l0_0.length c0_0):=(blk_cell hbox 0).trans rfl;have hx1:w1.cell? ⟨gb,1,none⟩=some (.slice A0_1 l0_1.length c0_1):=(blk_cell hbox 1).trans rfl;have hx2:w1.cell? ⟨gb,2,none⟩=some (.slice A0_2 l0_2.length c0_2):=(blk_cell hbox 2).trans rfl;clear hbox hb hg_)|(go_at_call 27;(with_reducible refine(impl_LogicOk.calls _ _ l0_0 _ _ l0_1 true _ ?s1 ?s2 ?s3 ?s4 HL.out).mono ?_);(case s1=> exact zq83);(case s2=>exact HC0.out);(case s3=> exact zq107);(case s4=>exact HC1.out);rintro e w2 ⟨rfl,hb⟩;have HB2:=zqm (below_step HB.out hb);have HX2:=zqm (blk_below HX.out hb);have hy2:w2.cell? ⟨gb,2,none⟩=some (.slice A0_2 l0_2.length c0_2):=(blk_cell HX2.out 2).trans rfl;clear hb hx0 hx1 hx2 HB HX)|(go_at_call 28;(with_reducible refine(con_calls A0_2 c0_2 l0_2 _ ?s1 (by have:=HS.out;omega)).mono ?_);(case s1=>exact Kd.C_below HR2.out HB2.out);rintro e w3 ⟨he,hb⟩;rw [HV.out] at he;subst he;have HB3:=zqm (below_step HB2.out hb);clear hb))
    go_ret
    exact⟨rfl,HB3.out⟩
  ·have p8:decide ((l0_2.length:Int)≤8)=false:=decide_eq_false (by omega)
   have p8':decide (l0_2.length≤8)=false:=decide_eq_false h8
   have p8'':(l0_2.length≤8)=False:=eq_false h8
   rw [p8',Bool.false_and] at h'
   subst h'
   clear h8
   go_enter Try.func13,Try.ntmps13
   go_wp2_with (first|((with_reducible refine gate_dst (N:=1) rfl ?_);refine box_event ?hg (N:=1) ?hd (cs:= #[.slice A0_0 l0_0.length c0_0,.slice A0_1 l0_1.length c0_1,.slice A0_2 l0_2.length c0_2]) (t:=28) ?hr ?_;(case hd=>rfl);(case hg=>rfl);(case hr=> exact zq13);intro gb hg_ w1 hbox hb;have HB:=zqm hb;have HX:=zqm hbox;have hx0:w1.cell? ⟨gb,0,none⟩=some (.slice A0_0 l0_0.length c0_0):=(blk_cell hbox 0).trans rfl;have hx1:w1.cell? ⟨gb,1,none⟩=some (.slice A0_1 l0_1.length c0_1):=(blk_cell hbox 1).trans rfl;have hx2:w1.cell? ⟨gb,2,none⟩=some (.slice A0_2 l0_2.length c0_2):=(blk_cell hbox 2).trans rfl;clear hbox hb hg_)|(go_at_call 27;(with_reducible refine(impl_LogicOk.calls _ _ l0_0 _ _ l0_1 true _ ?s1 ?s2 ?s3 ?s4 HL.out).mono ?_);(case s1=> exact zq83);(case s2=>exact HC0.out);(case s3=> exact zq107);(case s4=>exact HC1.out);rintro e w2 ⟨rfl,hb⟩;have HB2:=zqm (below_step HB.out hb);have HX2:=zqm (blk_below HX.out hb);have hy2:w2.cell? ⟨gb,2,none⟩=some (.slice A0_2 l0_2.length c0_2):=(blk_cell HX2.out 2).trans rfl;clear hb hx0 hx1 hx2 HB HX))
   go_ret
   exact⟨rfl,HB2.out⟩
end Go.Proofs.Ytndbbbnofmlkdaa.Print
end
section
namespace Go.Proofs.Ytndbbbnofmlkdaa.Print
open Go.RowKit Go.Proofs.YtndbbbnofmlkdaaW.PrintWords Go.Proofs.YtndbbbnofmlkdaaW.PrintLast Go.Proofs.YtndbbbnofmlkdaaW.PrintMore
section
attribute [local go_sem] max2_int min2_int max_two min_two max_three min_three max_four min_four
def spec_l1In.f (a0 : Int) (a1 : Int) (a2 : Int) : Option (Bool) := if a0 ≥ a1 then (some (decide (a0 ≤ a2))) else (some false)
set_option maxHeartbeats 8000000 in
set_option maxRecDepth 100000 in
theorem spec_l1In.calls (a0 : Int) (a1 : Int) (a2 : Int) (r : Bool) (w : World) (h : spec_l1In.f a0 a1 a2 = some r) :
  Calls Try.prog 30 #[.int .i64 a0, .int .i64 a1, .int .i64 a2] w fun e w' => e = .returned (.bool r) ∧ Drawn0 w w' := by
 have H : (if a0 ≥ a1 then (some (decide (a0 ≤ a2))) else (some false)) = some r := h
 clear h
 by_cases c4 : a0 ≥ a1
 ·rw [if_pos c4] at H
  have c4b0 : decide (a1 ≤ a0) = true := decide_eq_true c4
  clear c4
  obtain rfl := Option.some.inj H
  go_enter Try.func30, Try.ntmps30
  go_wp2
  go_ret
  exact ⟨zq80, by repeat (first | exact Drawn0.refl _ | apply Drawn0.step)⟩
 ·rw [if_neg c4] at H
  have c4b0 : decide (a1 ≤ a0) = false := decide_eq_false c4
  clear c4
  obtain rfl := Option.some.inj H
  go_enter Try.func30, Try.ntmps30
  go_wp2
  go_ret
  exact ⟨zq80, by repeat (first | exact Drawn0.refl _ | apply Drawn0.step)⟩
end
section
attribute [local go_sem] max2_int min2_int max_two min_two max_three min_three max_four min_four
mutual
def spec_l1Meet.l0 : Nat → List (List Int) → Int → Int → Int → Int → Option (Int)
 | 0, _, _, _, _, _ => none
 | k + 1, x0, x1, x2, x7, x8 => if x8 < (x0.length : Int) then (if 0 ≤ x8 then (if 0 ≤ x1 then (if x1 < ((rd_L1 x0 x8).length : Int) then (if (rd (rd_L1 x0 x8) x1) = 1 then (if 0 ≤ x2 then (if x2 < ((rd_L1 x0 x8).length : Int) then (if (rd (rd_L1 x0 x8) x2) = 1 then (if x7 < 0 then (spec_l1Meet.l0 k x0 x1 x2 x8 (wrap64 (x8 + 1))) else (if 0 ≤ x7 then (if x7 < (x0.length : Int) then (if x8 < ((rd_L1 x0 x7).length : Int) then (if (rd (rd_L1 x0 x7) x8) = 1 then (spec_l1Meet.l0 k x0 x1 x2 x8 (wrap64 (x8 + 1))) else (spec_l1Meet.l0 k x0 x1 x2 x7 (wrap64 (x8 + 1)))) else (none)) else (none)) else (none))) else (spec_l1Meet.l0 k x0 x1 x2 x7 (wrap64 (x8 + 1)))) else (none)) else (none)) else (spec_l1Meet.l0 k x0 x1 x2 x7 (wrap64 (x8 + 1)))) else (none)) else (none)) else (none)) else (spec_l1Meet.l1 k x0 x1 x2 x7 0)
def spec_l1Meet.l1 : Nat → List (List Int) → Int → Int → Int → Int → Option (Int)
 | 0, _, _, _, _, _ => none
 | k + 1, x0, x1, x2, x7, x9 => if x9 < (x0.length : Int) then (if 0 ≤ x9 then (if 0 ≤ x1 then (if x1 < ((rd_L1 x0 x9).length : Int) then (if (rd (rd_L1 x0 x9) x1) = 1 then (if 0 ≤ x2 then (if x2 < ((rd_L1 x0 x9).length : Int) then (if (rd (rd_L1 x0 x9) x2) = 1 then (if 0 ≤ x7 then (if x7 < ((rd_L1 x0 x9).length : Int) then (if (rd (rd_L1 x0 x9) x7) = 0 then (some (-1)) else (spec_l1Meet.l1 k x0 x1 x2 x7 (wrap64 (x9 + 1)))) else (none)) else (none)) else (spec_l1Meet.l1 k x0 x1 x2 x7 (wrap64 (x9 + 1)))) else (none)) else (none)) else (spec_l1Meet.l1 k x0 x1 x2 x7 (wrap64 (x9 + 1)))) else (none)) else (none)) else (none)) else (some x7)
end
def spec_l1Meet.f (k : Nat) (l0 : List (List Int)) (a1 : Int) (a2 : Int) : Option (Int) := spec_l1Meet.l0 k l0 a1 a2 (-1) 0
set_option maxHeartbeats 8000000 in
set_option maxRecDepth 100000 in
theorem spec_l1Meet.calls (k : Nat) (A0 : Option Addr) (c0 : Nat) (l0 : List (List Int)) (a1 : Int) (a2 : Int) (r : Int) (w : World) (hr0 : Kd.C (Kd.slice 3 (Kd.int .i64)) w A0 l0.length l0) (hc0 : l0.length ≤ c0) (h : spec_l1Meet.f k l0 a1 a2 = some r) :
  Calls Try.prog 44 #[.slice A0 l0.length c0, .int .i64 a1, .int .i64 a2] w fun e w' => e = .returned (.int .i64 r) ∧ Drawn0 w w' := by
 have d1:=zqm hr0;have q5:=zqm hc0;clear hr0 hc0;have H:(spec_l1Meet.l0 k l0 a1 a2 (-1) 0)=some r:=h;clear h;have H':=zqm H;clear H
 go_enter Try.func44,Try.ntmps44
 go_wp2
 go_loopg [7,8] k (fun kq v7 v8 w'=> ∃(a4:Int) (a0:Int),v7= .int .i64 a4∧v8= .int .i64 a0∧Aside0 (spec_l1Meet.l0 kq l0 a1 a2 a4 a0=some r)∧Aside0 (kq≤k)∧Drawn0 w w')
 case atStart=>exact⟨((-1)),(0),zq3,zq3,H',⟨Nat.le_refl _⟩,zq4⟩
 case round=>
  clear H';obtain⟨a4,a0,rfl,rfl,HA,e0,⟨m1,rfl⟩⟩:=hrel
  cases gk with
  |zero=>exact absurd HA.out (by simp [spec_l1Meet.l0])
  |succ k1=>
   have H:=HA.out;clear HA;simp only [spec_l1Meet.l0] at H
   by_cases c4:a0<(l0.length:Int)
   ·rw [if_pos c4] at H;have o7:decide (a0<(l0.length:Int))=true:=decide_eq_true c4;clear c4
    by_cases c5:0≤a0
    ·rw [if_pos c5] at H;have q1:decide (0≤a0)=true:=decide_eq_true c5;clear c5
     by_cases c6:0≤a1
     ·rw [if_pos c6] at H;have q2:decide (0≤a1)=true:=decide_eq_true c6;clear c6
      by_cases c7:a1<((rd_L1 l0 a0).length:Int)
      ·rw [if_pos c7] at H;have q3:decide (a1<((rd_L1 l0 a0).length:Int))=true:=decide_eq_true c7;clear c7
       by_cases c8:(rd (rd_L1 l0 a0) a1)=1
       ·rw [if_pos c8] at H;have o8:((rd (rd_L1 l0 a0) a1)==1)=true:=beq_iff_eq.mpr c8;have o9:((rd (rd_L1 l0 a0) a1) !=1)=false:=bne_eq_false_iff_eq.mpr c8;clear c8
        by_cases c9:0≤a2
        ·rw [if_pos c9] at H;have q4:decide (0≤a2)=true:=decide_eq_true c9;clear c9
         by_cases k9:a2<((rd_L1 l0 a0).length:Int)
         ·rw [if_pos k9] at H;have p0:decide (a2<((rd_L1 l0 a0).length:Int))=true:=decide_eq_true k9;clear k9
          by_cases i2:(rd (rd_L1 l0 a0) a2)=1
          ·rw [if_pos i2] at H;have n5:((rd (rd_L1 l0 a0) a2)==1)=true:=beq_iff_eq.mpr i2;have n6:((rd (rd_L1 l0 a0) a2) !=1)=false:=bne_eq_false_iff_eq.mpr i2;clear i2
           by_cases j3:a4<0
           ·rw [if_pos j3] at H;have n7:decide (a4<0)=true:=decide_eq_true j3;clear j3;have H':=zqm H;clear H;have b1:0≤(a0:Int):=zqo;have b3:a0<(l0.length:Int):=zqo;obtain⟨d9,g9,h1,f3,d4,a6,a5⟩:=at_L1 d1.out a0 b1 b3
            cases f3
            have b5:=zqm a5;have f5:=zqm a6;clear a5 a6;replace b1:=eq_true b1;replace b3:=eq_true b3;have b2:0≤(a1:Int):=zqo;have b4:a1<((rd_L1 l0 a0).length:Int):=zqo;obtain⟨h9,f4,f6⟩:=Kd.at_int b5.out a1 b2 b4
            cases f4
            replace b2:=eq_true b2;replace b4:=eq_true b4;have b6:0≤(a0:Int):=zqo;have c1:a0<(l0.length:Int):=zqo;obtain⟨f2,i0,i4,f7,d8,a9,a7⟩:=at_L1 d1.out a0 b6 c1;obtain rfl:d9=f2:=(by injection f7);have d6:=zqm a7;have h2:=zqm a9;clear a7 a9;replace b6:=eq_true b6;replace c1:=eq_true c1;have ea_:=Option.some.inj (d4.symm.trans d8);injection ea_ with ea_ en_ ec_;subst ea_;subst ec_;clear en_;have b7:0≤(a2:Int):=zqo;have c2:a2<((rd_L1 l0 a0).length:Int):=zqo;obtain⟨j6,f8,h6⟩:=Kd.at_int d6.out a2 b7 c2
            cases f8
            replace b7:=eq_true b7;replace c2:=eq_true c2
            go_wp2
            go_roundg k1
            (case measure=>have:=e0.out;omega);case rel=>exact⟨(a0),(wrap64 (a0+1)),zq3,zq3,H',⟨by have:=e0.out;omega⟩,zq4⟩
           ·rw [if_neg j3] at H;have n7:decide (a4<0)=false:=decide_eq_false j3;clear j3
            by_cases l2:0≤a4
            ·rw [if_pos l2] at H;have p1:decide (0≤a4)=true:=decide_eq_true l2;clear l2
             by_cases l3:a4<(l0.length:Int)
             ·rw [if_pos l3] at H;have p2:decide (a4<(l0.length:Int))=true:=decide_eq_true l3;clear l3
              by_cases l4:a0<((rd_L1 l0 a4).length:Int)
              ·rw [if_pos l4] at H;have p3:decide (a0<((rd_L1 l0 a4).length:Int))=true:=decide_eq_true l4;clear l4
               by_cases i3:(rd (rd_L1 l0 a4) a0)=1
               ·rw [if_pos i3] at H;have n8:((rd (rd_L1 l0 a4) a0)==1)=true:=beq_iff_eq.mpr i3;have n9:((rd (rd_L1 l0 a4) a0) !=1)=false:=bne_eq_false_iff_eq.mpr i3;clear i3;have H':=zqm H;clear H;have b1:0≤(a0:Int):=zqo;have b3:a0<(l0.length:Int):=zqo;obtain⟨d9,g9,h1,f3,d4,a6,a5⟩:=at_L1 d1.out a0 b1 b3
                cases f3
                have b5:=zqm a5;have f5:=zqm a6;clear a5 a6;replace b1:=eq_true b1;replace b3:=eq_true b3;have b2:0≤(a1:Int):=zqo;have b4:a1<((rd_L1 l0 a0).length:Int):=zqo;obtain⟨h9,f4,f6⟩:=Kd.at_int b5.out a1 b2 b4
                cases f4
                replace b2:=eq_true b2;replace b4:=eq_true b4;have b6:0≤(a0:Int):=zqo;have c1:a0<(l0.length:Int):=zqo;obtain⟨f2,i0,i4,f7,d8,a9,a7⟩:=at_L1 d1.out a0 b6 c1;obtain rfl:d9=f2:=(by injection f7);have d6:=zqm a7;have h2:=zqm a9;clear a7 a9;replace b6:=eq_true b6;replace c1:=eq_true c1;have ea_:=Option.some.inj (d4.symm.trans d8);injection ea_ with ea_ en_ ec_;subst ea_;subst ec_;clear en_;have b7:0≤(a2:Int):=zqo;have c2:a2<((rd_L1 l0 a0).length:Int):=zqo;obtain⟨j6,f8,h6⟩:=Kd.at_int d6.out a2 b7 c2
                cases f8
                replace b7:=eq_true b7;replace c2:=eq_true c2;have g1:0≤(a4:Int):=zqo;have g5:a4<(l0.length:Int):=zqo;obtain⟨j7,m9,n1,k4,m6,e9,e7⟩:=at_L1 d1.out a4 g1 g5;obtain rfl:d9=j7:=(by injection k4);have h4:=zqm e7;have m4:=zqm e9;clear e7 e9;replace g1:=eq_true g1;replace g5:=eq_true g5;have g2:0≤(a0:Int):=zqo;have g6:a0<((rd_L1 l0 a4).length:Int):=zqo;obtain⟨n3,k5,m7⟩:=Kd.at_int h4.out a0 g2 g6
                cases k5
                replace g2:=eq_true g2;replace g6:=eq_true g6
                go_wp2
                go_roundg k1
                (case measure=>have:=e0.out;omega);case rel=>exact⟨(a0),(wrap64 (a0+1)),zq3,zq3,H',⟨by have:=e0.out;omega⟩,zq4⟩
               ·rw [if_neg i3] at H;have n8:((rd (rd_L1 l0 a4) a0)==1)=false:=beq_eq_false_iff_ne.mpr i3;have n9:((rd (rd_L1 l0 a4) a0) !=1)=true:=bne_iff_ne.mpr i3;have H':=zqm H;clear H;have b1:0≤(a0:Int):=zqo;have b3:a0<(l0.length:Int):=zqo;obtain⟨d9,g9,h1,f3,d4,a6,a5⟩:=at_L1 d1.out a0 b1 b3
                cases f3
                have b5:=zqm a5;have f5:=zqm a6;clear a5 a6;replace b1:=eq_true b1;replace b3:=eq_true b3;have b2:0≤(a1:Int):=zqo;have b4:a1<((rd_L1 l0 a0).length:Int):=zqo;obtain⟨h9,f4,f6⟩:=Kd.at_int b5.out a1 b2 b4
                cases f4
                replace b2:=eq_true b2;replace b4:=eq_true b4;have b6:0≤(a0:Int):=zqo;have c1:a0<(l0.length:Int):=zqo;obtain⟨f2,i0,i4,f7,d8,a9,a7⟩:=at_L1 d1.out a0 b6 c1;obtain rfl:d9=f2:=(by injection f7);have d6:=zqm a7;have h2:=zqm a9;clear a7 a9;replace b6:=eq_true b6;replace c1:=eq_true c1;have ea_:=Option.some.inj (d4.symm.trans d8);injection ea_ with ea_ en_ ec_;subst ea_;subst ec_;clear en_;have b7:0≤(a2:Int):=zqo;have c2:a2<((rd_L1 l0 a0).length:Int):=zqo;obtain⟨j6,f8,h6⟩:=Kd.at_int d6.out a2 b7 c2
                cases f8
                replace b7:=eq_true b7;replace c2:=eq_true c2;have g1:0≤(a4:Int):=zqo;have g5:a4<(l0.length:Int):=zqo;obtain⟨j7,m9,n1,k4,m6,e9,e7⟩:=at_L1 d1.out a4 g1 g5;obtain rfl:d9=j7:=(by injection k4);have h4:=zqm e7;have m4:=zqm e9;clear e7 e9;replace g1:=eq_true g1;replace g5:=eq_true g5;have g2:0≤(a0:Int):=zqo;have g6:a0<((rd_L1 l0 a4).length:Int):=zqo;obtain⟨n3,k5,m7⟩:=Kd.at_int h4.out a0 g2 g6
                cases k5
                replace g2:=eq_true g2;replace g6:=eq_true g6
                go_wp2
                go_roundg k1
                (case measure=>have:=e0.out;omega);case rel=>exact⟨(a4),(wrap64 (a0+1)),zq3,zq3,H',⟨by have:=e0.out;omega⟩,zq4⟩
              ·rw [if_neg l4] at H;exact absurd H (by simp)
             ·rw [if_neg l3] at H;exact absurd H (by simp)
            ·rw [if_neg l2] at H;exact absurd H (by simp)
          ·rw [if_neg i2] at H;have n5:((rd (rd_L1 l0 a0) a2)==1)=false:=beq_eq_false_iff_ne.mpr i2;have n6:((rd (rd_L1 l0 a0) a2) !=1)=true:=bne_iff_ne.mpr i2;have H':=zqm H;clear H;have b1:0≤(a0:Int):=zqo;have b3:a0<(l0.length:Int):=zqo;obtain⟨d9,g9,h1,f3,d4,a6,a5⟩:=at_L1 d1.out a0 b1 b3
           cases f3
           have b5:=zqm a5;have f5:=zqm a6;clear a5 a6;replace b1:=eq_true b1;replace b3:=eq_true b3;have b2:0≤(a1:Int):=zqo;have b4:a1<((rd_L1 l0 a0).length:Int):=zqo;obtain⟨h9,f4,f6⟩:=Kd.at_int b5.out a1 b2 b4
           cases f4
           replace b2:=eq_true b2;replace b4:=eq_true b4;have b6:0≤(a0:Int):=zqo;have c1:a0<(l0.length:Int):=zqo;obtain⟨f2,i0,i4,f7,d8,a9,a7⟩:=at_L1 d1.out a0 b6 c1;obtain rfl:d9=f2:=(by injection f7);have d6:=zqm a7;have h2:=zqm a9;clear a7 a9;replace b6:=eq_true b6;replace c1:=eq_true c1;have ea_:=Option.some.inj (d4.symm.trans d8);injection ea_ with ea_ en_ ec_;subst ea_;subst ec_;clear en_;have b7:0≤(a2:Int):=zqo;have c2:a2<((rd_L1 l0 a0).length:Int):=zqo;obtain⟨j6,f8,h6⟩:=Kd.at_int d6.out a2 b7 c2
           cases f8
           replace b7:=eq_true b7;replace c2:=eq_true c2
           go_wp2
           go_roundg k1
           (case measure=>have:=e0.out;omega);case rel=>exact⟨(a4),(wrap64 (a0+1)),zq3,zq3,H',⟨by have:=e0.out;omega⟩,zq4⟩
         ·rw [if_neg k9] at H;exact absurd H (by simp)
        ·rw [if_neg c9] at H;exact absurd H (by simp)
       ·rw [if_neg c8] at H;have o8:((rd (rd_L1 l0 a0) a1)==1)=false:=beq_eq_false_iff_ne.mpr c8;have o9:((rd (rd_L1 l0 a0) a1) !=1)=true:=bne_iff_ne.mpr c8;have H':=zqm H;clear H;have b1:0≤(a0:Int):=zqo;have b3:a0<(l0.length:Int):=zqo;obtain⟨d9,g9,h1,f3,d4,a6,a5⟩:=at_L1 d1.out a0 b1 b3
        cases f3
        have b5:=zqm a5;have f5:=zqm a6;clear a5 a6;replace b1:=eq_true b1;replace b3:=eq_true b3;have b2:0≤(a1:Int):=zqo;have b4:a1<((rd_L1 l0 a0).length:Int):=zqo;obtain⟨h9,f4,f6⟩:=Kd.at_int b5.out a1 b2 b4
        cases f4
        replace b2:=eq_true b2;replace b4:=eq_true b4
        go_wp2
        go_roundg k1
        (case measure=>have:=e0.out;omega);case rel=>exact⟨(a4),(wrap64 (a0+1)),zq3,zq3,H',⟨by have:=e0.out;omega⟩,zq4⟩
      ·rw [if_neg c7] at H;exact absurd H (by simp)
     ·rw [if_neg c6] at H;exact absurd H (by simp)
    ·rw [if_neg c5] at H;exact absurd H (by simp)
   ·rw [if_neg c4] at H;have o7:decide (a0<(l0.length:Int))=false:=decide_eq_false c4;clear c4;have H':=zqm H;clear H
    go_wp2
    go_loopg [9] k1 (fun kq v9 w'=> ∃(a3:Int),v9= .int .i64 a3∧Aside0 (spec_l1Meet.l1 kq l0 a1 a2 a4 a3=some r)∧Aside0 (kq≤k1)∧Drawn0 w w')
    case atStart=>exact⟨(0),zq3,H',⟨Nat.le_refl _⟩,zq4⟩
    case round=>
     clear H';obtain⟨a3,rfl,HA,j2,⟨m2,rfl⟩⟩:=hrel
     cases gk with
     |zero=>exact absurd HA.out (by simp [spec_l1Meet.l1])
     |succ k2=>
      have H:=HA.out;clear HA;simp only [spec_l1Meet.l1] at H
      by_cases j4:a3<(l0.length:Int)
      ·rw [if_pos j4] at H;have o0:decide (a3<(l0.length:Int))=true:=decide_eq_true j4;clear j4
       by_cases l5:0≤a3
       ·rw [if_pos l5] at H;have p4:decide (0≤a3)=true:=decide_eq_true l5;clear l5
        by_cases l6:0≤a1
        ·rw [if_pos l6] at H;have p5:decide (0≤a1)=true:=decide_eq_true l6;clear l6
         by_cases l7:a1<((rd_L1 l0 a3).length:Int)
         ·rw [if_pos l7] at H;have p6:decide (a1<((rd_L1 l0 a3).length:Int))=true:=decide_eq_true l7;clear l7
          by_cases i5:(rd (rd_L1 l0 a3) a1)=1
          ·rw [if_pos i5] at H;have o1:((rd (rd_L1 l0 a3) a1)==1)=true:=beq_iff_eq.mpr i5;have o2:((rd (rd_L1 l0 a3) a1) !=1)=false:=bne_eq_false_iff_eq.mpr i5;clear i5
           by_cases l8:0≤a2
           ·rw [if_pos l8] at H;have p7:decide (0≤a2)=true:=decide_eq_true l8;clear l8
            by_cases l9:a2<((rd_L1 l0 a3).length:Int)
            ·rw [if_pos l9] at H;have p8:decide (a2<((rd_L1 l0 a3).length:Int))=true:=decide_eq_true l9;clear l9
             by_cases i7:(rd (rd_L1 l0 a3) a2)=1
             ·rw [if_pos i7] at H;have o3:((rd (rd_L1 l0 a3) a2)==1)=true:=beq_iff_eq.mpr i7;have o4:((rd (rd_L1 l0 a3) a2) !=1)=false:=bne_eq_false_iff_eq.mpr i7;clear i7
              by_cases m0:0≤a4
              ·rw [if_pos m0] at H;have p9:decide (0≤a4)=true:=decide_eq_true m0;clear m0
               by_cases m3:a4<((rd_L1 l0 a3).length:Int)
               ·rw [if_pos m3] at H;have q0:decide (a4<((rd_L1 l0 a3).length:Int))=true:=decide_eq_true m3;clear m3
                by_cases i8:(rd (rd_L1 l0 a3) a4)=0
                ·rw [if_pos i8] at H;have o5:((rd (rd_L1 l0 a3) a4)==0)=true:=beq_iff_eq.mpr i8;have o6:((rd (rd_L1 l0 a3) a4) !=0)=false:=bne_eq_false_iff_eq.mpr i8;clear i8;obtain rfl:=Option.some.inj H;have b8:0≤(a3:Int):=zqo;have c3:a3<(l0.length:Int):=zqo;obtain⟨e5,i1,i6,f9,d5,b0,a8⟩:=at_L1 d1.out a3 b8 c3
                 cases f9
                 have d7:=zqm a8;have h3:=zqm b0;clear a8 b0;replace b8:=eq_true b8;replace c3:=eq_true c3;have b9:0≤(a1:Int):=zqo;have d0:a1<((rd_L1 l0 a3).length:Int):=zqo;obtain⟨j8,g0,h7⟩:=Kd.at_int d7.out a1 b9 d0
                 cases g0
                 replace b9:=eq_true b9;replace d0:=eq_true d0;have e1:0≤(a3:Int):=zqo;have e3:a3<(l0.length:Int):=zqo;obtain⟨h0,k0,k3,i9,f1,d3,d2⟩:=at_L1 d1.out a3 e1 e3;obtain rfl:e5=h0:=(by injection i9);have e6:=zqm d2;have j1:=zqm d3;clear d2 d3;replace e1:=eq_true e1;replace e3:=eq_true e3;have ea_:=Option.some.inj (d5.symm.trans f1);injection ea_ with ea_ en_ ec_;subst ea_;subst ec_;clear en_;have e2:0≤(a2:Int):=zqo;have e4:a2<((rd_L1 l0 a3).length:Int):=zqo;obtain⟨k8,j0,j5⟩:=Kd.at_int e6.out a2 e2 e4
                 cases j0
                 replace e2:=eq_true e2;replace e4:=eq_true e4;have g3:0≤(a3:Int):=zqo;have g7:a3<(l0.length:Int):=zqo;obtain⟨j9,n0,n2,k6,h8,f0,e8⟩:=at_L1 d1.out a3 g3 g7;obtain rfl:e5=j9:=(by injection k6);have h5:=zqm e8;have m5:=zqm f0;clear e8 f0;replace g3:=eq_true g3;replace g7:=eq_true g7;have ea_:=Option.some.inj (d5.symm.trans h8);injection ea_ with ea_ en_ ec_;subst ea_;subst ec_;clear en_;have g4:0≤(a4:Int):=zqo;have g8:a4<((rd_L1 l0 a3).length:Int):=zqo;obtain⟨n4,k7,m8⟩:=Kd.at_int h5.out a4 g4 g8
                 cases k7
                 replace g4:=eq_true g4;replace g8:=eq_true g8
                 go_wp2
                 go_ret
                 exact⟨zq3,zq4⟩
                ·rw [if_neg i8] at H;have o5:((rd (rd_L1 l0 a3) a4)==0)=false:=beq_eq_false_iff_ne.mpr i8;have o6:((rd (rd_L1 l0 a3) a4) !=0)=true:=bne_iff_ne.mpr i8;have H':=zqm H;clear H;have b8:0≤(a3:Int):=zqo;have c3:a3<(l0.length:Int):=zqo;obtain⟨e5,i1,i6,f9,d5,b0,a8⟩:=at_L1 d1.out a3 b8 c3
                 cases f9
                 have d7:=zqm a8;have h3:=zqm b0;clear a8 b0;replace b8:=eq_true b8;replace c3:=eq_true c3;have b9:0≤(a1:Int):=zqo;have d0:a1<((rd_L1 l0 a3).length:Int):=zqo;obtain⟨j8,g0,h7⟩:=Kd.at_int d7.out a1 b9 d0
                 cases g0
                 replace b9:=eq_true b9;replace d0:=eq_true d0;have e1:0≤(a3:Int):=zqo;have e3:a3<(l0.length:Int):=zqo;obtain⟨h0,k0,k3,i9,f1,d3,d2⟩:=at_L1 d1.out a3 e1 e3;obtain rfl:e5=h0:=(by injection i9);have e6:=zqm d2;have j1:=zqm d3;clear d2 d3;replace e1:=eq_true e1;replace e3:=eq_true e3;have ea_:=Option.some.inj (d5.symm.trans f1);injection ea_ with ea_ en_ ec_;subst ea_;subst ec_;clear en_;have e2:0≤(a2:Int):=zqo;have e4:a2<((rd_L1 l0 a3).length:Int):=zqo;obtain⟨k8,j0,j5⟩:=Kd.at_int e6.out a2 e2 e4
                 cases j0
                 replace e2:=eq_true e2;replace e4:=eq_true e4;have g3:0≤(a3:Int):=zqo;have g7:a3<(l0.length:Int):=zqo;obtain⟨j9,n0,n2,k6,h8,f0,e8⟩:=at_L1 d1.out a3 g3 g7;obtain rfl:e5=j9:=(by injection k6);have h5:=zqm e8;have m5:=zqm f0;clear e8 f0;replace g3:=eq_true g3;replace g7:=eq_true g7;have ea_:=Option.some.inj (d5.symm.trans h8);injection ea_ with ea_ en_ ec_;subst ea_;subst ec_;clear en_;have g4:0≤(a4:Int):=zqo;have g8:a4<((rd_L1 l0 a3).length:Int):=zqo;obtain⟨n4,k7,m8⟩:=Kd.at_int h5.out a4 g4 g8
                 cases k7
                 replace g4:=eq_true g4;replace g8:=eq_true g8
                 go_wp2
                 go_roundg k2
                 (case measure=> exact zq86);case rel=>exact⟨(wrap64 (a3+1)),zq3,H',⟨zq86⟩,zq4⟩
               ·rw [if_neg m3] at H;exact absurd H (by simp)
              ·rw [if_neg m0] at H;exact absurd H (by simp)
             ·rw [if_neg i7] at H;have o3:((rd (rd_L1 l0 a3) a2)==1)=false:=beq_eq_false_iff_ne.mpr i7;have o4:((rd (rd_L1 l0 a3) a2) !=1)=true:=bne_iff_ne.mpr i7;have H':=zqm H;clear H;have b8:0≤(a3:Int):=zqo;have c3:a3<(l0.length:Int):=zqo;obtain⟨e5,i1,i6,f9,d5,b0,a8⟩:=at_L1 d1.out a3 b8 c3
              cases f9
              have d7:=zqm a8;have h3:=zqm b0;clear a8 b0;replace b8:=eq_true b8;replace c3:=eq_true c3;have b9:0≤(a1:Int):=zqo;have d0:a1<((rd_L1 l0 a3).length:Int):=zqo;obtain⟨j8,g0,h7⟩:=Kd.at_int d7.out a1 b9 d0
              cases g0
              replace b9:=eq_true b9;replace d0:=eq_true d0;have e1:0≤(a3:Int):=zqo;have e3:a3<(l0.length:Int):=zqo;obtain⟨h0,k0,k3,i9,f1,d3,d2⟩:=at_L1 d1.out a3 e1 e3;obtain rfl:e5=h0:=(by injection i9);have e6:=zqm d2;have j1:=zqm d3;clear d2 d3;replace e1:=eq_true e1;replace e3:=eq_true e3;have ea_:=Option.some.inj (d5.symm.trans f1);injection ea_ with ea_ en_ ec_;subst ea_;subst ec_;clear en_;have e2:0≤(a2:Int):=zqo;have e4:a2<((rd_L1 l0 a3).length:Int):=zqo;obtain⟨k8,j0,j5⟩:=Kd.at_int e6.out a2 e2 e4
              cases j0
              replace e2:=eq_true e2;replace e4:=eq_true e4
              go_wp2
              go_roundg k2
              (case measure=> exact zq86);case rel=>exact⟨(wrap64 (a3+1)),zq3,H',⟨zq86⟩,zq4⟩
            ·rw [if_neg l9] at H;exact absurd H (by simp)
           ·rw [if_neg l8] at H;exact absurd H (by simp)
          ·rw [if_neg i5] at H;have o1:((rd (rd_L1 l0 a3) a1)==1)=false:=beq_eq_false_iff_ne.mpr i5;have o2:((rd (rd_L1 l0 a3) a1) !=1)=true:=bne_iff_ne.mpr i5;have H':=zqm H;clear H;have b8:0≤(a3:Int):=zqo;have c3:a3<(l0.length:Int):=zqo;obtain⟨e5,i1,i6,f9,d5,b0,a8⟩:=at_L1 d1.out a3 b8 c3
           cases f9
           have d7:=zqm a8;have h3:=zqm b0;clear a8 b0;replace b8:=eq_true b8;replace c3:=eq_true c3;have b9:0≤(a1:Int):=zqo;have d0:a1<((rd_L1 l0 a3).length:Int):=zqo;obtain⟨j8,g0,h7⟩:=Kd.at_int d7.out a1 b9 d0
           cases g0
           replace b9:=eq_true b9;replace d0:=eq_true d0
           go_wp2
           go_roundg k2
           (case measure=> exact zq86);case rel=>exact⟨(wrap64 (a3+1)),zq3,H',⟨zq86⟩,zq4⟩
         ·rw [if_neg l7] at H;exact absurd H (by simp)
        ·rw [if_neg l6] at H;exact absurd H (by simp)
       ·rw [if_neg l5] at H;exact absurd H (by simp)
      ·rw [if_neg j4] at H;have o0:decide (a3<(l0.length:Int))=false:=decide_eq_false j4;clear j4;obtain rfl:=Option.some.inj H
       go_wp2
       go_ret
       exact⟨zq3,zq4⟩
end
section
attribute [local go_sem] max2_int min2_int max_two min_two max_three min_three max_four min_four
mutual
def spec_OrderOk.l0 : Nat → List (List Int) → Int → Int → Option (Bool)
 | 0, _, _, _ => none
 | k + 1, x0, x3, x4 => if x4 < x3 then (if 0 ≤ x4 then (if x4 < (x0.length : Int) then (if ((rd_L1 x0 x4).length : Int) = x3 then (spec_OrderOk.l1 k x0 x3 x4 0) else (some false)) else (none)) else (none)) else (spec_OrderOk.l2 k x0 x3 0)
def spec_OrderOk.l1 : Nat → List (List Int) → Int → Int → Int → Option (Bool)
 | 0, _, _, _, _ => none
 | k + 1, x0, x3, x4, x5 => if x5 < x3 then (if 0 ≤ x4 then (if x4 < (x0.length : Int) then (if 0 ≤ x5 then (if x5 < ((rd_L1 x0 x4).length : Int) then ((spec_l1In.f (rd (rd_L1 x0 x4) x5) 0 1).bind fun t220 => (if t220 = true then (spec_OrderOk.l1 k x0 x3 x4 (wrap64 (x5 + 1))) else (some false))) else (none)) else (none)) else (none)) else (none)) else (spec_OrderOk.l0 k x0 x3 (wrap64 (x4 + 1)))
def spec_OrderOk.l2 : Nat → List (List Int) → Int → Int → Option (Bool)
 | 0, _, _, _ => none
 | k + 1, x0, x3, x6 => if x6 < x3 then (spec_OrderOk.l3 k x0 x3 x6 0) else (some true)
def spec_OrderOk.l3 : Nat → List (List Int) → Int → Int → Int → Option (Bool)
 | 0, _, _, _, _ => none
 | k + 1, x0, x3, x6, x7 => if x7 < x3 then (if x6 = x7 then (if 0 ≤ x6 then (if x6 < (x0.length : Int) then (if 0 ≤ x7 then (if x7 < ((rd_L1 x0 x6).length : Int) then (if (rd (rd_L1 x0 x6) x7) = 0 then (spec_OrderOk.j4 k x0 x3 x6 x7 true) else (spec_OrderOk.j4 k x0 x3 x6 x7 false)) else (none)) else (none)) else (none)) else (none)) else (if 0 ≤ x6 then (if x6 < (x0.length : Int) then (if 0 ≤ x7 then (if x7 < ((rd_L1 x0 x6).length : Int) then (if (rd (rd_L1 x0 x6) x7) = 1 then (if x7 < (x0.length : Int) then (if x6 < ((rd_L1 x0 x7).length : Int) then (spec_OrderOk.j4 k x0 x3 x6 x7 ((rd (rd_L1 x0 x7) x6) == 1)) else (none)) else (none)) else (spec_OrderOk.j4 k x0 x3 x6 x7 false)) else (none)) else (none)) else (none)) else (none))) else (spec_OrderOk.l2 k x0 x3 (wrap64 (x6 + 1)))
def spec_OrderOk.j4 : Nat → List (List Int) → Int → Int → Int → Bool → Option (Bool)
 | 0, _, _, _, _, _ => none
 | k + 1, x0, x3, x6, x7, x87 => if x87 = true then (some false) else (spec_OrderOk.l4 k x0 x3 x6 x7 0)
def spec_OrderOk.l4 : Nat → List (List Int) → Int → Int → Int → Int → Option (Bool)
 | 0, _, _, _, _, _ => none
 | k + 1, x0, x3, x6, x7, x8 => if x8 < x3 then (if 0 ≤ x6 then (if x6 < (x0.length : Int) then (if 0 ≤ x7 then (if x7 < ((rd_L1 x0 x6).length : Int) then (if (rd (rd_L1 x0 x6) x7) = 1 then (if x7 < (x0.length : Int) then (if 0 ≤ x8 then (if x8 < ((rd_L1 x0 x7).length : Int) then (if (rd (rd_L1 x0 x7) x8) = 1 then (if x8 < ((rd_L1 x0 x6).length : Int) then (if (rd (rd_L1 x0 x6) x8) = 0 then (some false) else (spec_OrderOk.l4 k x0 x3 x6 x7 (wrap64 (x8 + 1)))) else (none)) else (spec_OrderOk.l4 k x0 x3 x6 x7 (wrap64 (x8 + 1)))) else (none)) else (none)) else (none)) else (spec_OrderOk.l4 k x0 x3 x6 x7 (wrap64 (x8 + 1)))) else (none)) else (none)) else (none)) else (none)) else (spec_OrderOk.l3 k x0 x3 x6 (wrap64 (x7 + 1)))
end
def spec_OrderOk.f (k : Nat) (l0 : List (List Int)) : Option (Bool) := (spec_l1In.f (l0.length : Int) 1 12).bind fun t216 => (if t216 = true then (spec_OrderOk.l0 k l0 (l0.length : Int) 0) else (some false))
set_option maxHeartbeats 8000000 in
set_option maxRecDepth 100000 in
theorem spec_OrderOk.calls (k : Nat) (A0 : Option Addr) (c0 : Nat) (l0 : List (List Int)) (r : Bool) (w : World) (hr0 : Kd.C (Kd.slice 3 (Kd.int .i64)) w A0 l0.length l0) (hc0 : l0.length ≤ c0) (h : spec_OrderOk.f k l0 = some r) :
  Calls Try.prog 49 #[.slice A0 l0.length c0] w fun e w' => e = .returned (.bool r) ∧ Drawn0 w w' := by
 have b5:=zqm hr0;have z8:=zqm hc0;clear hr0 hc0;have H:((spec_l1In.f (l0.length:Int) 1 12).bind fun r4=>(if r4=true then(spec_OrderOk.l0 k l0 (l0.length:Int) 0) else(some false)))=some r:=h;clear h;replace H:=Option.bind_eq_some_iff.mp H;obtain⟨r4,x5,H⟩:=H;(try dsimp only at H);have A2:=zqm x5;clear x5
 by_cases c3:r4=true
 ·subst c3;rw [if_pos rfl] at H;have H':=zqm H;clear H
  go_enter Try.func49,Try.ntmps49
  go_wp2_with (first|((with_reducible refine gate_callee (f:=30) rfl ?_);refine goesL_ (some 12) rfl rfl Try.func30 zqk rfl #[.int .i64 (l0.length:Int),.int .i64 1,.int .i64 12] rfl zq1 ?_;(with_reducible refine(spec_l1In.calls (l0.length:Int) 1 12 true _ A2.out).mono ?_);rintro e w' ⟨rfl,⟨nd,rfl⟩⟩;refine⟨_,rfl,?_⟩))
  go_loopg [4] k (fun kq v4 w'=> ∃(a2:Int),v4= .int .i64 a2∧Aside0 (spec_OrderOk.l0 kq l0 (l0.length:Int) a2=some r)∧Aside0 (kq≤k)∧Drawn0 w w')
  case atStart=>exact⟨(0),zq3,H',⟨Nat.le_refl _⟩,zq4⟩
  case round=>
   clear H';(try clear p2);(try clear c3);obtain⟨a2,rfl,HA,b4,⟨m1,rfl⟩⟩:=hrel
   cases gk with
   |zero=>exact absurd HA.out (by simp [spec_OrderOk.l0])
   |succ k1=>
    have H:=HA.out;clear HA;simp only [spec_OrderOk.l0] at H
    by_cases c4:a2<(l0.length:Int)
    ·rw [if_pos c4] at H;have i1:decide (a2<(l0.length:Int))=true:=decide_eq_true c4;clear c4
     by_cases c5:0≤a2
     ·rw [if_pos c5] at H;have l6:decide (0≤a2)=true:=decide_eq_true c5;clear c5
      by_cases c6:a2<(l0.length:Int)
      ·rw [if_pos c6] at H;have l7:decide (a2<(l0.length:Int))=true:=decide_eq_true c6;clear c6
       by_cases c7:((rd_L1 l0 a2).length:Int)=(l0.length:Int)
       ·rw [if_pos c7] at H;have i2:(((rd_L1 l0 a2).length:Int)==(l0.length:Int))=true:=beq_iff_eq.mpr c7;have i3:(((rd_L1 l0 a2).length:Int) !=(l0.length:Int))=false:=bne_eq_false_iff_eq.mpr c7;(have i4:((rd_L1 l0 a2).length==l0.length)=true:=by first|simpa using c7|(simp at c7 ⊢;omega));clear c7;have H':=zqm H;clear H;have b7:0≤(a2:Int):=zqo;have b8:a2<(l0.length:Int):=zqo;obtain⟨o7,u5,v0,q5,b9,e6,e1⟩:=at_L1 b5.out a2 b7 b8
        cases q5
        have u1:=zqm e1;have t6:=zqm e6;clear e1 e6;replace b7:=eq_true b7;replace b8:=eq_true b8
        go_wp2
        go_loopg [5] k1 (fun kq v5 w'=> ∃(a4:Int),v5= .int .i64 a4∧Aside0 (spec_OrderOk.l1 kq l0 (l0.length:Int) a2 a4=some r)∧Aside0 (kq≤k1)∧Drawn0 w w')
        case atStart=>exact⟨(0),zq3,H',⟨Nat.le_refl _⟩,zq4⟩
        case round=>
         clear H';(try clear c2);(try clear p2);(try clear q2);(try clear t5);(try clear c3);(try clear c4);(try clear i1);(try clear c5);(try clear l6);(try clear c6);(try clear l7);(try clear c7);(try clear i2);(try clear i3);(try clear i4);(try clear b9);(try clear p2);(try clear b7);(try clear b8);obtain⟨a4,rfl,HA,b3,⟨m2,rfl⟩⟩:=hrel
         cases gk with
         |zero=>exact absurd HA.out (by simp [spec_OrderOk.l1])
         |succ k2=>
          have H:=HA.out;clear HA;simp only [spec_OrderOk.l1] at H
          by_cases c8:a4<(l0.length:Int)
          ·rw [if_pos c8] at H;have l8:decide (a4<(l0.length:Int))=true:=decide_eq_true c8;clear c8
           by_cases c9:0≤a2
           ·rw [if_pos c9] at H;have p9:decide (0≤a2)=true:=decide_eq_true c9;clear c9
            by_cases j2:a2<(l0.length:Int)
            ·rw [if_pos j2] at H;have j8:decide (a2<(l0.length:Int))=true:=decide_eq_true j2;clear j2
             by_cases j3:0≤a4
             ·rw [if_pos j3] at H;have j9:decide (0≤a4)=true:=decide_eq_true j3;clear j3
              by_cases j5:a4<((rd_L1 l0 a2).length:Int)
              ·rw [if_pos j5] at H;have k0:decide (a4<((rd_L1 l0 a2).length:Int))=true:=decide_eq_true j5;clear j5;replace H:=Option.bind_eq_some_iff.mp H;obtain⟨y4,u4,H⟩:=H;(try dsimp only at H);have x4:=zqm u4;clear u4
               by_cases j6:y4=true
               ·subst j6;rw [if_pos rfl] at H;have H':=zqm H;clear H;have d0:0≤(a2:Int):=zqo;have d4:a2<(l0.length:Int):=zqo;obtain⟨o8,u6,v1,q6,f1,e7,e2⟩:=at_L1 b5.out a2 d0 d4;obtain rfl:o7=o8:=(by injection q6);have h7:=zqm e2;have t7:=zqm e7;clear e2 e7;replace d0:=eq_true d0;replace d4:=eq_true d4;have d1:0≤(a4:Int):=zqo;have d5:a4<((rd_L1 l0 a2).length:Int):=zqo;obtain⟨w1,q7,f2⟩:=Kd.at_int h7.out a4 d1 d5
                cases q7
                replace d1:=eq_true d1;replace d5:=eq_true d5
                go_wp2_with (first|((with_reducible refine gate_callee (f:=30) rfl ?_);refine goesL_ (some 38) rfl rfl Try.func30 zqk rfl #[.int .i64 (rd (rd_L1 l0 a2) a4),.int .i64 0,.int .i64 1] rfl zq1 ?_;(with_reducible refine(spec_l1In.calls (rd (rd_L1 l0 a2) a4) 0 1 true _ x4.out).mono ?_);rintro e w' ⟨rfl,⟨nd,rfl⟩⟩;refine⟨_,rfl,?_⟩))
                go_roundg k2
                (case measure=> exact zq110);case rel=>exact⟨(wrap64 (a4+1)),zq3,H',⟨zq110⟩,zq4⟩
               ·replace j6:=Bool.eq_false_iff.mpr j6;subst j6;rw [if_neg (show¬(false=true) by decide)] at H;obtain rfl:=Option.some.inj H;have d0:0≤(a2:Int):=zqo;have d4:a2<(l0.length:Int):=zqo;obtain⟨o8,u6,v1,q6,f1,e7,e2⟩:=at_L1 b5.out a2 d0 d4;obtain rfl:o7=o8:=(by injection q6);have h7:=zqm e2;have t7:=zqm e7;clear e2 e7;replace d0:=eq_true d0;replace d4:=eq_true d4;have d1:0≤(a4:Int):=zqo;have d5:a4<((rd_L1 l0 a2).length:Int):=zqo;obtain⟨w1,q7,f2⟩:=Kd.at_int h7.out a4 d1 d5
                cases q7
                replace d1:=eq_true d1;replace d5:=eq_true d5
                go_wp2_with (first|((with_reducible refine gate_callee (f:=30) rfl ?_);refine goesL_ (some 38) rfl rfl Try.func30 zqk rfl #[.int .i64 (rd (rd_L1 l0 a2) a4),.int .i64 0,.int .i64 1] rfl zq1 ?_;(with_reducible refine(spec_l1In.calls (rd (rd_L1 l0 a2) a4) 0 1 false _ x4.out).mono ?_);rintro e w' ⟨rfl,⟨nd,rfl⟩⟩;refine⟨_,rfl,?_⟩))
                go_ret
                exact⟨zq3,zq4⟩
              ·rw [if_neg j5] at H;exact absurd H (by simp)
             ·rw [if_neg j3] at H;exact absurd H (by simp)
            ·rw [if_neg j2] at H;exact absurd H (by simp)
           ·rw [if_neg c9] at H;exact absurd H (by simp)
          ·rw [if_neg c8] at H;have l8:decide (a4<(l0.length:Int))=false:=decide_eq_false c8;clear c8;have H':=zqm H;clear H
           go_wp2
           go_roundg k2
           (case measure=> exact zq110);case rel=>exact⟨(wrap64 (a2+1)),zq3,H',⟨zq110⟩,zq4⟩
       ·rw [if_neg c7] at H;have i2:(((rd_L1 l0 a2).length:Int)==(l0.length:Int))=false:=beq_eq_false_iff_ne.mpr c7;have i3:(((rd_L1 l0 a2).length:Int) !=(l0.length:Int))=true:=bne_iff_ne.mpr c7;(have i4:((rd_L1 l0 a2).length==l0.length)=false:=by first|simpa using c7|(simp at c7 ⊢;omega));obtain rfl:=Option.some.inj H;have b7:0≤(a2:Int):=zqo;have b8:a2<(l0.length:Int):=zqo;obtain⟨o7,u5,v0,q5,b9,e6,e1⟩:=at_L1 b5.out a2 b7 b8
        cases q5
        have u1:=zqm e1;have t6:=zqm e6;clear e1 e6;replace b7:=eq_true b7;replace b8:=eq_true b8
        go_wp2
        go_ret
        exact⟨zq3,zq4⟩
      ·rw [if_neg c6] at H;exact absurd H (by simp)
     ·rw [if_neg c5] at H;exact absurd H (by simp)
    ·rw [if_neg c4] at H;have i1:decide (a2<(l0.length:Int))=false:=decide_eq_false c4;clear c4;have H':=zqm H;clear H
     go_wp2
     go_loopg [6] k1 (fun kq v6 w'=> ∃(a0:Int),v6= .int .i64 a0∧Aside0 (spec_OrderOk.l2 kq l0 (l0.length:Int) a0=some r)∧Aside0 (kq≤k1)∧Drawn0 w w')
     case atStart=>exact⟨(0),zq3,H',⟨Nat.le_refl _⟩,zq4⟩
     case round=>
      clear H';(try clear c1);(try clear c2);(try clear p2);(try clear q2);(try clear t5);(try clear c3);(try clear c4);(try clear i1);(try clear c5);(try clear l6);(try clear c6);(try clear l7);(try clear p6);(try clear c7);(try clear i2);(try clear i3);(try clear i4);(try clear c8);(try clear l8);(try clear c9);(try clear p9);(try clear j2);(try clear j8);(try clear j3);(try clear j9);(try clear j5);(try clear k0);(try clear j6);(try clear b9);(try clear f1);(try clear f2);(try clear p2);(try clear b7);(try clear d0);(try clear d1);(try clear q2);(try clear b8);(try clear d4);(try clear d5);obtain⟨a0,rfl,HA,b3,⟨m2,rfl⟩⟩:=hrel
      cases gk with
      |zero=>exact absurd HA.out (by simp [spec_OrderOk.l2])
      |succ k2=>
       have H:=HA.out;clear HA;simp only [spec_OrderOk.l2] at H
       by_cases h1:a0<(l0.length:Int)
       ·rw [if_pos h1] at H;have k4:decide (a0<(l0.length:Int))=true:=decide_eq_true h1;clear h1;have H':=zqm H;clear H
        go_wp2
        go_loopg [7] k2 (fun kq v7 w'=> ∃(a1:Int),v7= .int .i64 a1∧Aside0 (spec_OrderOk.l3 kq l0 (l0.length:Int) a0 a1=some r)∧Aside0 (kq≤k2)∧Drawn0 w w')
        case atStart=>exact⟨(0),zq3,H',⟨Nat.le_refl _⟩,zq4⟩
        case round=>
         clear H';(try clear c1);(try clear c2);(try clear p2);(try clear q2);(try clear t5);(try clear c3);(try clear c4);(try clear i1);(try clear c5);(try clear l6);(try clear c6);(try clear l7);(try clear p6);(try clear c7);(try clear i2);(try clear i3);(try clear i4);(try clear c8);(try clear l8);(try clear c9);(try clear p9);(try clear j2);(try clear j8);(try clear j3);(try clear j9);(try clear j5);(try clear k0);(try clear j6);(try clear h1);(try clear k4);(try clear b9);(try clear f1);(try clear f2);(try clear p2);(try clear b7);(try clear d0);(try clear d1);(try clear p6);(try clear q2);(try clear b8);(try clear d4);(try clear d5);obtain⟨a1,rfl,HA,d8,⟨m3,rfl⟩⟩:=hrel
         cases gk with
         |zero=>exact absurd HA.out (by simp [spec_OrderOk.l3])
         |succ k3=>
          have H:=HA.out;clear HA;simp only [spec_OrderOk.l3] at H
          by_cases j7:a1<(l0.length:Int)
          ·rw [if_pos j7] at H;have p1:decide (a1<(l0.length:Int))=true:=decide_eq_true j7;clear j7;have q4:=zqm H;clear H
           go_upto_region 20 with (fail)
           go_cut [87] (fun y8 wc=> ∃(kq:Nat) (h5:Bool),y8= .bool h5∧Aside0 (spec_OrderOk.j4 kq l0 (l0.length:Int) a0 a1 h5=some r)∧Aside0 (kq≤k3)∧Drawn0 w wc)
           case first=>
            have H:=q4.out;clear q4
            by_cases h2:a0=a1
            ·rw [if_pos h2] at H;have f4:(a0==a1)=true:=beq_iff_eq.mpr h2;have p3:(a0 !=a1)=false:=bne_eq_false_iff_eq.mpr h2;clear h2;(first|rw [f4]|(simp only [i64_w,i32_w];rw [f4])|skip)
             by_cases n0:0≤a0
             ·rw [if_pos n0] at H;have r7:decide (0≤a0)=true:=decide_eq_true n0;clear n0
              by_cases n1:a0<(l0.length:Int)
              ·rw [if_pos n1] at H;have r8:decide (a0<(l0.length:Int))=true:=decide_eq_true n1;clear n1
               by_cases n2:0≤a1
               ·rw [if_pos n2] at H;have r9:decide (0≤a1)=true:=decide_eq_true n2;clear n2
                by_cases n3:a1<((rd_L1 l0 a0).length:Int)
                ·rw [if_pos n3] at H;have s0:decide (a1<((rd_L1 l0 a0).length:Int))=true:=decide_eq_true n3;clear n3
                 by_cases h3:(rd (rd_L1 l0 a0) a1)=0
                 ·rw [if_pos h3] at H;have p4:((rd (rd_L1 l0 a0) a1)==0)=true:=beq_iff_eq.mpr h3;have p5:((rd (rd_L1 l0 a0) a1) !=0)=false:=bne_eq_false_iff_eq.mpr h3;clear h3;have H':=zqm H;clear H;have f5:0≤(a0:Int):=zqo;have f9:a0<(l0.length:Int):=zqo;obtain⟨w2,u7,v2,q8,i5,e8,e3⟩:=at_L1 b5.out a0 f5 f9
                  cases q8
                  have h8:=zqm e3;have t8:=zqm e8;clear e3 e8;replace f5:=eq_true f5;replace f9:=eq_true f9;have f6:0≤(a1:Int):=zqo;have g0:a1<((rd_L1 l0 a0).length:Int):=zqo;obtain⟨w3,q9,i6⟩:=Kd.at_int h8.out a1 f6 g0
                  cases q9
                  replace f6:=eq_true f6;replace g0:=eq_true g0
                  go_wp2
                  go_meet
                  case rel=>exact⟨_,(true),zq3,H',⟨zq78⟩,zq4⟩
                 ·rw [if_neg h3] at H;have p4:((rd (rd_L1 l0 a0) a1)==0)=false:=beq_eq_false_iff_ne.mpr h3;have p5:((rd (rd_L1 l0 a0) a1) !=0)=true:=bne_iff_ne.mpr h3;have H':=zqm H;clear H;have f5:0≤(a0:Int):=zqo;have f9:a0<(l0.length:Int):=zqo;obtain⟨w2,u7,v2,q8,i5,e8,e3⟩:=at_L1 b5.out a0 f5 f9
                  cases q8
                  have h8:=zqm e3;have t8:=zqm e8;clear e3 e8;replace f5:=eq_true f5;replace f9:=eq_true f9;have f6:0≤(a1:Int):=zqo;have g0:a1<((rd_L1 l0 a0).length:Int):=zqo;obtain⟨w3,q9,i6⟩:=Kd.at_int h8.out a1 f6 g0
                  cases q9
                  replace f6:=eq_true f6;replace g0:=eq_true g0
                  go_wp2
                  go_meet
                  case rel=>exact⟨_,(false),zq3,H',⟨zq78⟩,zq4⟩
                ·rw [if_neg n3] at H;exact absurd H (by simp)
               ·rw [if_neg n2] at H;exact absurd H (by simp)
              ·rw [if_neg n1] at H;exact absurd H (by simp)
             ·rw [if_neg n0] at H;exact absurd H (by simp)
            ·rw [if_neg h2] at H;have f4:(a0==a1)=false:=beq_eq_false_iff_ne.mpr h2;have p3:(a0 !=a1)=true:=bne_iff_ne.mpr h2;(first|rw [f4]|(simp only [i64_w,i32_w];rw [f4])|skip)
             by_cases n4:0≤a0
             ·rw [if_pos n4] at H;have s1:decide (0≤a0)=true:=decide_eq_true n4;clear n4
              by_cases n5:a0<(l0.length:Int)
              ·rw [if_pos n5] at H;have s2:decide (a0<(l0.length:Int))=true:=decide_eq_true n5;clear n5
               by_cases n6:0≤a1
               ·rw [if_pos n6] at H;have s3:decide (0≤a1)=true:=decide_eq_true n6;clear n6
                by_cases n7:a1<((rd_L1 l0 a0).length:Int)
                ·rw [if_pos n7] at H;have s4:decide (a1<((rd_L1 l0 a0).length:Int))=true:=decide_eq_true n7;clear n7
                 by_cases h4:(rd (rd_L1 l0 a0) a1)=1
                 ·rw [if_pos h4] at H;have p7:((rd (rd_L1 l0 a0) a1)==1)=true:=beq_iff_eq.mpr h4;have p8:((rd (rd_L1 l0 a0) a1) !=1)=false:=bne_eq_false_iff_eq.mpr h4;clear h4
                  by_cases n8:a1<(l0.length:Int)
                  ·rw [if_pos n8] at H;have s5:decide (a1<(l0.length:Int))=true:=decide_eq_true n8;clear n8
                   by_cases n9:a0<((rd_L1 l0 a1).length:Int)
                   ·rw [if_pos n9] at H;have s6:decide (a0<((rd_L1 l0 a1).length:Int))=true:=decide_eq_true n9;clear n9;have H':=zqm H;clear H;have f7:0≤(a0:Int):=zqo;have g1:a0<(l0.length:Int):=zqo;obtain⟨r5,u8,v3,r0,i7,e9,e4⟩:=at_L1 b5.out a0 f7 g1
                    cases r0
                    have h9:=zqm e4;have t9:=zqm e9;clear e4 e9;replace f7:=eq_true f7;replace g1:=eq_true g1;have f8:0≤(a1:Int):=zqo;have g2:a1<((rd_L1 l0 a0).length:Int):=zqo;obtain⟨w4,r1,i8⟩:=Kd.at_int h9.out a1 f8 g2
                    cases r1
                    replace f8:=eq_true f8;replace g2:=eq_true g2;have m4:0≤(a1:Int):=zqo;have m7:a1<(l0.length:Int):=zqo;obtain⟨w5,y6,y7,y0,o3,o2,o1⟩:=at_L1 b5.out a1 m4 m7;obtain rfl:r5=w5:=(by injection y0);have u2:=zqm o1;have y5:=zqm o2;clear o1 o2;replace m4:=eq_true m4;replace m7:=eq_true m7;have m6:0≤(a0:Int):=zqo;have m8:a0<((rd_L1 l0 a1).length:Int):=zqo;obtain⟨y9,y1,o4⟩:=Kd.at_int u2.out a0 m6 m8
                    cases y1
                    replace m6:=eq_true m6;replace m8:=eq_true m8
                    go_wp2
                    go_meet
                    case rel=>exact⟨_,(((rd (rd_L1 l0 a1) a0)==1)),zq3,H',⟨zq78⟩,zq4⟩
                   ·rw [if_neg n9] at H;exact absurd H (by simp)
                  ·rw [if_neg n8] at H;exact absurd H (by simp)
                 ·rw [if_neg h4] at H;have p7:((rd (rd_L1 l0 a0) a1)==1)=false:=beq_eq_false_iff_ne.mpr h4;have p8:((rd (rd_L1 l0 a0) a1) !=1)=true:=bne_iff_ne.mpr h4;have H':=zqm H;clear H;have f7:0≤(a0:Int):=zqo;have g1:a0<(l0.length:Int):=zqo;obtain⟨r5,u8,v3,r0,i7,e9,e4⟩:=at_L1 b5.out a0 f7 g1
                  cases r0
                  have h9:=zqm e4;have t9:=zqm e9;clear e4 e9;replace f7:=eq_true f7;replace g1:=eq_true g1;have f8:0≤(a1:Int):=zqo;have g2:a1<((rd_L1 l0 a0).length:Int):=zqo;obtain⟨w4,r1,i8⟩:=Kd.at_int h9.out a1 f8 g2
                  cases r1
                  replace f8:=eq_true f8;replace g2:=eq_true g2
                  go_wp2
                  go_meet
                  case rel=>exact⟨_,(false),zq3,H',⟨zq78⟩,zq4⟩
                ·rw [if_neg n7] at H;exact absurd H (by simp)
               ·rw [if_neg n6] at H;exact absurd H (by simp)
              ·rw [if_neg n5] at H;exact absurd H (by simp)
             ·rw [if_neg n4] at H;exact absurd H (by simp)
           case rest=>
            clear q4;(try clear c1);(try clear c2);(try clear p2);(try clear q2);(try clear t5);(try clear c3);(try clear c4);(try clear i1);(try clear c5);(try clear l6);(try clear c6);(try clear l7);(try clear p6);(try clear c7);(try clear i2);(try clear i3);(try clear i4);(try clear c8);(try clear l8);(try clear c9);(try clear p9);(try clear j2);(try clear j8);(try clear j3);(try clear j9);(try clear j5);(try clear k0);(try clear j6);(try clear h1);(try clear k4);(try clear j7);(try clear p1);(try clear h2);(try clear f4);(try clear p3);(try clear n0);(try clear r7);(try clear n1);(try clear r8);(try clear n2);(try clear r9);(try clear x6);(try clear x8);(try clear y2);(try clear n3);(try clear s0);(try clear x7);(try clear x9);(try clear y3);(try clear h3);(try clear p4);(try clear p5);(try clear n4);(try clear s1);(try clear n5);(try clear s2);(try clear n6);(try clear s3);(try clear n7);(try clear s4);(try clear h4);(try clear p7);(try clear p8);(try clear n8);(try clear s5);(try clear n9);(try clear s6);(try clear b9);(try clear f1);(try clear f2);(try clear i5);(try clear i6);(try clear i7);(try clear i8);(try clear o3);(try clear o4);(try clear p2);(try clear b7);(try clear d0);(try clear d1);(try clear f5);(try clear f6);(try clear f7);(try clear f8);(try clear m4);(try clear m6);(try clear p6);(try clear q2);(try clear b8);(try clear d4);(try clear d5);(try clear f9);(try clear g0);(try clear g1);(try clear g2);(try clear m7);(try clear m8);obtain⟨kq,h5,rfl,HA,g3,⟨mc16,rfl⟩⟩:=hcut
            cases kq with
            |zero=>exact absurd HA.out (by simp [spec_OrderOk.j4])
            |succ w0=>
             have H:=HA.out;clear HA;simp only [spec_OrderOk.j4] at H
             by_cases q3:h5=true
             ·subst q3;rw [if_pos rfl] at H;obtain rfl:=Option.some.inj H
              go_wp2
              go_ret
              exact⟨zq3,zq4⟩
             ·replace q3:=Bool.eq_false_iff.mpr q3;subst q3;rw [if_neg (show¬(false=true) by decide)] at H;have H':=zqm H;clear H
              go_wp2
              go_loopg [8] w0 (fun kq v8 w'=> ∃(a3:Int),v8= .int .i64 a3∧Aside0 (spec_OrderOk.l4 kq l0 (l0.length:Int) a0 a1 a3=some r)∧Aside0 (kq≤w0)∧Drawn0 w w')
              case atStart=>exact⟨(0),zq3,H',⟨Nat.le_refl _⟩,zq4⟩
              case round=>
               clear H';(try clear c1);(try clear c2);(try clear p2);(try clear q2);(try clear t5);(try clear c3);(try clear c4);(try clear i1);(try clear c5);(try clear l6);(try clear c6);(try clear l7);(try clear p6);(try clear c7);(try clear i2);(try clear i3);(try clear i4);(try clear c8);(try clear l8);(try clear c9);(try clear p9);(try clear j2);(try clear j8);(try clear j3);(try clear j9);(try clear j5);(try clear k0);(try clear j6);(try clear h1);(try clear k4);(try clear j7);(try clear p1);(try clear h2);(try clear f4);(try clear p3);(try clear n0);(try clear r7);(try clear n1);(try clear r8);(try clear n2);(try clear r9);(try clear x6);(try clear x8);(try clear y2);(try clear n3);(try clear s0);(try clear x7);(try clear x9);(try clear y3);(try clear h3);(try clear p4);(try clear p5);(try clear n4);(try clear s1);(try clear n5);(try clear s2);(try clear n6);(try clear s3);(try clear n7);(try clear s4);(try clear h4);(try clear p7);(try clear p8);(try clear n8);(try clear s5);(try clear n9);(try clear s6);(try clear q3);(try clear b9);(try clear f1);(try clear f2);(try clear i5);(try clear i6);(try clear i7);(try clear i8);(try clear o3);(try clear o4);(try clear p2);(try clear x6);(try clear b7);(try clear d0);(try clear d1);(try clear x7);(try clear f5);(try clear f6);(try clear f7);(try clear f8);(try clear m4);(try clear m6);(try clear p6);(try clear q2);(try clear x8);(try clear b8);(try clear d4);(try clear d5);(try clear x9);(try clear f9);(try clear g0);(try clear g1);(try clear g2);(try clear m7);(try clear m8);obtain⟨a3,rfl,HA,j1,⟨m5,rfl⟩⟩:=hrel
               cases gk with
               |zero=>exact absurd HA.out (by simp [spec_OrderOk.l4])
               |succ k5=>
                have H:=HA.out;clear HA;simp only [spec_OrderOk.l4] at H
                by_cases o0:a3<(l0.length:Int)
                ·rw [if_pos o0] at H;have w7:decide (a3<(l0.length:Int))=true:=decide_eq_true o0;clear o0
                 by_cases s7:0≤a0
                 ·rw [if_pos s7] at H;have z0:decide (0≤a0)=true:=decide_eq_true s7;clear s7
                  by_cases s8:a0<(l0.length:Int)
                  ·rw [if_pos s8] at H;have z1:decide (a0<(l0.length:Int))=true:=decide_eq_true s8;clear s8
                   by_cases s9:0≤a1
                   ·rw [if_pos s9] at H;have z2:decide (0≤a1)=true:=decide_eq_true s9;clear s9
                    by_cases t0:a1<((rd_L1 l0 a0).length:Int)
                    ·rw [if_pos t0] at H;have z3:decide (a1<((rd_L1 l0 a0).length:Int))=true:=decide_eq_true t0;clear t0
                     by_cases k8:(rd (rd_L1 l0 a0) a1)=1
                     ·rw [if_pos k8] at H;have w8:((rd (rd_L1 l0 a0) a1)==1)=true:=beq_iff_eq.mpr k8;have w9:((rd (rd_L1 l0 a0) a1) !=1)=false:=bne_eq_false_iff_eq.mpr k8;clear k8
                      by_cases t1:a1<(l0.length:Int)
                      ·rw [if_pos t1] at H;have z4:decide (a1<(l0.length:Int))=true:=decide_eq_true t1;clear t1
                       by_cases t2:0≤a3
                       ·rw [if_pos t2] at H;have z5:decide (0≤a3)=true:=decide_eq_true t2;clear t2
                        by_cases t3:a3<((rd_L1 l0 a1).length:Int)
                        ·rw [if_pos t3] at H;have z6:decide (a3<((rd_L1 l0 a1).length:Int))=true:=decide_eq_true t3;clear t3
                         by_cases k9:(rd (rd_L1 l0 a1) a3)=1
                         ·rw [if_pos k9] at H;have x0:((rd (rd_L1 l0 a1) a3)==1)=true:=beq_iff_eq.mpr k9;have x1:((rd (rd_L1 l0 a1) a3) !=1)=false:=bne_eq_false_iff_eq.mpr k9;clear k9
                          by_cases t4:a3<((rd_L1 l0 a0).length:Int)
                          ·rw [if_pos t4] at H;have z7:decide (a3<((rd_L1 l0 a0).length:Int))=true:=decide_eq_true t4;clear t4
                           by_cases l5:(rd (rd_L1 l0 a0) a3)=0
                           ·rw [if_pos l5] at H;have x2:((rd (rd_L1 l0 a0) a3)==0)=true:=beq_iff_eq.mpr l5;have x3:((rd (rd_L1 l0 a0) a3) !=0)=false:=bne_eq_false_iff_eq.mpr l5;clear l5;obtain rfl:=Option.some.inj H;have a7:0≤(a0:Int):=zqo;have a9:a0<(l0.length:Int):=zqo;obtain⟨d9,k6,k7,g4,f3,a6,a5⟩:=at_L1 b5.out a0 a7 a9
                            cases g4
                            have b6:=zqm a5;have h6:=zqm a6;clear a5 a6;replace a7:=eq_true a7;replace a9:=eq_true a9;have a8:0≤(a1:Int):=zqo;have b0:a1<((rd_L1 l0 a0).length:Int):=zqo;obtain⟨o9,g5,i9⟩:=Kd.at_int b6.out a1 a8 b0
                            cases g5
                            replace a8:=eq_true a8;replace b0:=eq_true b0;have d2:0≤(a1:Int):=zqo;have d6:a1<(l0.length:Int):=zqo;obtain⟨h0,q0,q1,l9,o5,b2,b1⟩:=at_L1 b5.out a1 d2 d6;obtain rfl:d9=h0:=(by injection l9);have e0:=zqm b1;have m9:=zqm b2;clear b1 b2;replace d2:=eq_true d2;replace d6:=eq_true d6;have d3:0≤(a3:Int):=zqo;have d7:a3<((rd_L1 l0 a1).length:Int):=zqo;obtain⟨r6,m0,o6⟩:=Kd.at_int e0.out a3 d3 d7
                            cases m0
                            replace d3:=eq_true d3;replace d7:=eq_true d7;have g6:0≤(a0:Int):=zqo;have g8:a0<(l0.length:Int):=zqo;obtain⟨p0,u9,v9,r2,j0,f0,e5⟩:=at_L1 b5.out a0 g6 g8;obtain rfl:d9=p0:=(by injection r2);have i0:=zqm e5;have u0:=zqm f0;clear e5 f0;replace g6:=eq_true g6;replace g8:=eq_true g8;have ea_:=Option.some.inj (f3.symm.trans j0);injection ea_ with ea_ en_ ec_;subst ea_;subst ec_;clear en_;have g7:0≤(a3:Int):=zqo;have g9:a3<((rd_L1 l0 a0).length:Int):=zqo;obtain⟨w6,r3,u3⟩:=Kd.at_int i0.out a3 g7 g9
                            cases r3
                            replace g7:=eq_true g7;replace g9:=eq_true g9
                            go_wp2
                            go_ret
                            exact⟨zq3,zq4⟩
                           ·rw [if_neg l5] at H;have x2:((rd (rd_L1 l0 a0) a3)==0)=false:=beq_eq_false_iff_ne.mpr l5;have x3:((rd (rd_L1 l0 a0) a3) !=0)=true:=bne_iff_ne.mpr l5;have H':=zqm H;clear H;have a7:0≤(a0:Int):=zqo;have a9:a0<(l0.length:Int):=zqo;obtain⟨d9,k6,k7,g4,f3,a6,a5⟩:=at_L1 b5.out a0 a7 a9
                            cases g4
                            have b6:=zqm a5;have h6:=zqm a6;clear a5 a6;replace a7:=eq_true a7;replace a9:=eq_true a9;have a8:0≤(a1:Int):=zqo;have b0:a1<((rd_L1 l0 a0).length:Int):=zqo;obtain⟨o9,g5,i9⟩:=Kd.at_int b6.out a1 a8 b0
                            cases g5
                            replace a8:=eq_true a8;replace b0:=eq_true b0;have d2:0≤(a1:Int):=zqo;have d6:a1<(l0.length:Int):=zqo;obtain⟨h0,q0,q1,l9,o5,b2,b1⟩:=at_L1 b5.out a1 d2 d6;obtain rfl:d9=h0:=(by injection l9);have e0:=zqm b1;have m9:=zqm b2;clear b1 b2;replace d2:=eq_true d2;replace d6:=eq_true d6;have d3:0≤(a3:Int):=zqo;have d7:a3<((rd_L1 l0 a1).length:Int):=zqo;obtain⟨r6,m0,o6⟩:=Kd.at_int e0.out a3 d3 d7
                            cases m0
                            replace d3:=eq_true d3;replace d7:=eq_true d7;have g6:0≤(a0:Int):=zqo;have g8:a0<(l0.length:Int):=zqo;obtain⟨p0,u9,v9,r2,j0,f0,e5⟩:=at_L1 b5.out a0 g6 g8;obtain rfl:d9=p0:=(by injection r2);have i0:=zqm e5;have u0:=zqm f0;clear e5 f0;replace g6:=eq_true g6;replace g8:=eq_true g8;have ea_:=Option.some.inj (f3.symm.trans j0);injection ea_ with ea_ en_ ec_;subst ea_;subst ec_;clear en_;have g7:0≤(a3:Int):=zqo;have g9:a3<((rd_L1 l0 a0).length:Int):=zqo;obtain⟨w6,r3,u3⟩:=Kd.at_int i0.out a3 g7 g9
                            cases r3
                            replace g7:=eq_true g7;replace g9:=eq_true g9
                            go_wp2
                            go_roundg k5
                            (case measure=> exact zq40);case rel=>exact⟨(wrap64 (a3+1)),zq3,H',⟨zq40⟩,zq4⟩
                          ·rw [if_neg t4] at H;exact absurd H (by simp)
                         ·rw [if_neg k9] at H;have x0:((rd (rd_L1 l0 a1) a3)==1)=false:=beq_eq_false_iff_ne.mpr k9;have x1:((rd (rd_L1 l0 a1) a3) !=1)=true:=bne_iff_ne.mpr k9;have H':=zqm H;clear H;have a7:0≤(a0:Int):=zqo;have a9:a0<(l0.length:Int):=zqo;obtain⟨d9,k6,k7,g4,f3,a6,a5⟩:=at_L1 b5.out a0 a7 a9
                          cases g4
                          have b6:=zqm a5;have h6:=zqm a6;clear a5 a6;replace a7:=eq_true a7;replace a9:=eq_true a9;have a8:0≤(a1:Int):=zqo;have b0:a1<((rd_L1 l0 a0).length:Int):=zqo;obtain⟨o9,g5,i9⟩:=Kd.at_int b6.out a1 a8 b0
                          cases g5
                          replace a8:=eq_true a8;replace b0:=eq_true b0;have d2:0≤(a1:Int):=zqo;have d6:a1<(l0.length:Int):=zqo;obtain⟨h0,q0,q1,l9,o5,b2,b1⟩:=at_L1 b5.out a1 d2 d6;obtain rfl:d9=h0:=(by injection l9);have e0:=zqm b1;have m9:=zqm b2;clear b1 b2;replace d2:=eq_true d2;replace d6:=eq_true d6;have d3:0≤(a3:Int):=zqo;have d7:a3<((rd_L1 l0 a1).length:Int):=zqo;obtain⟨r6,m0,o6⟩:=Kd.at_int e0.out a3 d3 d7
                          cases m0
                          replace d3:=eq_true d3;replace d7:=eq_true d7
                          go_wp2
                          go_roundg k5
                          (case measure=> exact zq40);case rel=>exact⟨(wrap64 (a3+1)),zq3,H',⟨zq40⟩,zq4⟩
                        ·rw [if_neg t3] at H;exact absurd H (by simp)
                       ·rw [if_neg t2] at H;exact absurd H (by simp)
                      ·rw [if_neg t1] at H;exact absurd H (by simp)
                     ·rw [if_neg k8] at H;have w8:((rd (rd_L1 l0 a0) a1)==1)=false:=beq_eq_false_iff_ne.mpr k8;have w9:((rd (rd_L1 l0 a0) a1) !=1)=true:=bne_iff_ne.mpr k8;have H':=zqm H;clear H;have a7:0≤(a0:Int):=zqo;have a9:a0<(l0.length:Int):=zqo;obtain⟨d9,k6,k7,g4,f3,a6,a5⟩:=at_L1 b5.out a0 a7 a9
                      cases g4
                      have b6:=zqm a5;have h6:=zqm a6;clear a5 a6;replace a7:=eq_true a7;replace a9:=eq_true a9;have a8:0≤(a1:Int):=zqo;have b0:a1<((rd_L1 l0 a0).length:Int):=zqo;obtain⟨o9,g5,i9⟩:=Kd.at_int b6.out a1 a8 b0
                      cases g5
                      replace a8:=eq_true a8;replace b0:=eq_true b0
                      go_wp2
                      go_roundg k5
                      (case measure=> exact zq40);case rel=>exact⟨(wrap64 (a3+1)),zq3,H',⟨zq40⟩,zq4⟩
                    ·rw [if_neg t0] at H;exact absurd H (by simp)
                   ·rw [if_neg s9] at H;exact absurd H (by simp)
                  ·rw [if_neg s8] at H;exact absurd H (by simp)
                 ·rw [if_neg s7] at H;exact absurd H (by simp)
                ·rw [if_neg o0] at H;have w7:decide (a3<(l0.length:Int))=false:=decide_eq_false o0;clear o0;have H':=zqm H;clear H
                 go_wp2
                 go_roundg k5
                 (case measure=> exact zq40);case rel=>exact⟨(wrap64 (a1+1)),zq3,H',⟨zq40⟩,zq4⟩
          ·rw [if_neg j7] at H;have p1:decide (a1<(l0.length:Int))=false:=decide_eq_false j7;clear j7;have H':=zqm H;clear H
           go_wp2
           go_roundg k3
           (case measure=>have:=b4.out;have:=b3.out;have:=d8.out;omega);case rel=>exact⟨(wrap64 (a0+1)),zq3,H',⟨by have:=b4.out;have:=b3.out;have:=d8.out;omega⟩,zq4⟩
       ·rw [if_neg h1] at H;have k4:decide (a0<(l0.length:Int))=false:=decide_eq_false h1;clear h1;obtain rfl:=Option.some.inj H
        go_wp2
        go_ret
        exact⟨zq3,zq4⟩
 ·replace c3:=Bool.eq_false_iff.mpr c3;subst c3;rw [if_neg (show¬(false=true) by decide)] at H;obtain rfl:=Option.some.inj H
  go_enter Try.func49,Try.ntmps49
  go_wp2_with (first|((with_reducible refine gate_callee (f:=30) rfl ?_);refine goesL_ (some 12) rfl rfl Try.func30 zqk rfl #[.int .i64 (l0.length:Int),.int .i64 1,.int .i64 12] rfl zq1 ?_;(with_reducible refine(spec_l1In.calls (l0.length:Int) 1 12 false _ A2.out).mono ?_);rintro e w' ⟨rfl,⟨nd,rfl⟩⟩;refine⟨_,rfl,?_⟩))
  go_ret
  exact⟨zq3,zq4⟩
end
section
attribute [local go_sem] max2_int min2_int max_two min_two max_three min_three max_four min_four
mutual
def spec_l1Join.l0 : Nat → List (List Int) → Int → Int → Int → Int → Option (Int)
 | 0, _, _, _, _, _ => none
 | k + 1, x0, x1, x2, x7, x8 => if x8 < (x0.length : Int) then (if 0 ≤ x1 then (if x1 < (x0.length : Int) then (if 0 ≤ x8 then (if x8 < ((rd_L1 x0 x1).length : Int) then (if (rd (rd_L1 x0 x1) x8) = 1 then (if 0 ≤ x2 then (if x2 < (x0.length : Int) then (if x8 < ((rd_L1 x0 x2).length : Int) then (if (rd (rd_L1 x0 x2) x8) = 1 then (if x7 < 0 then (spec_l1Join.l0 k x0 x1 x2 x8 (wrap64 (x8 + 1))) else (if 0 ≤ x7 then (if x7 < ((rd_L1 x0 x8).length : Int) then (if (rd (rd_L1 x0 x8) x7) = 1 then (spec_l1Join.l0 k x0 x1 x2 x8 (wrap64 (x8 + 1))) else (spec_l1Join.l0 k x0 x1 x2 x7 (wrap64 (x8 + 1)))) else (none)) else (none))) else (spec_l1Join.l0 k x0 x1 x2 x7 (wrap64 (x8 + 1)))) else (none)) else (none)) else (none)) else (spec_l1Join.l0 k x0 x1 x2 x7 (wrap64 (x8 + 1)))) else (none)) else (none)) else (none)) else (none)) else (spec_l1Join.l1 k x0 x1 x2 x7 0)
def spec_l1Join.l1 : Nat → List (List Int) → Int → Int → Int → Int → Option (Int)
 | 0, _, _, _, _, _ => none
 | k + 1, x0, x1, x2, x7, x9 => if x9 < (x0.length : Int) then (if 0 ≤ x1 then (if x1 < (x0.length : Int) then (if 0 ≤ x9 then (if x9 < ((rd_L1 x0 x1).length : Int) then (if (rd (rd_L1 x0 x1) x9) = 1 then (if 0 ≤ x2 then (if x2 < (x0.length : Int) then (if x9 < ((rd_L1 x0 x2).length : Int) then (if (rd (rd_L1 x0 x2) x9) = 1 then (if 0 ≤ x7 then (if x7 < (x0.length : Int) then (if x9 < ((rd_L1 x0 x7).length : Int) then (if (rd (rd_L1 x0 x7) x9) = 0 then (some (-1)) else (spec_l1Join.l1 k x0 x1 x2 x7 (wrap64 (x9 + 1)))) else (none)) else (none)) else (none)) else (spec_l1Join.l1 k x0 x1 x2 x7 (wrap64 (x9 + 1)))) else (none)) else (none)) else (none)) else (spec_l1Join.l1 k x0 x1 x2 x7 (wrap64 (x9 + 1)))) else (none)) else (none)) else (none)) else (none)) else (some x7)
end
def spec_l1Join.f (k : Nat) (l0 : List (List Int)) (a1 : Int) (a2 : Int) : Option (Int) := spec_l1Join.l0 k l0 a1 a2 (-1) 0
set_option maxHeartbeats 8000000 in
set_option maxRecDepth 100000 in
theorem spec_l1Join.calls (k : Nat) (A0 : Option Addr) (c0 : Nat) (l0 : List (List Int)) (a1 : Int) (a2 : Int) (r : Int) (w : World) (hr0 : Kd.C (Kd.slice 3 (Kd.int .i64)) w A0 l0.length l0) (hc0 : l0.length ≤ c0) (h : spec_l1Join.f k l0 a1 a2 = some r) :
  Calls Try.prog 50 #[.slice A0 l0.length c0, .int .i64 a1, .int .i64 a2] w fun e w' => e = .returned (.int .i64 r) ∧ Drawn0 w w' := by
 have d1:=zqm hr0;have r3:=zqm hc0;clear hr0 hc0;have H:(spec_l1Join.l0 k l0 a1 a2 (-1) 0)=some r:=h;clear h;have H':=zqm H;clear H
 go_enter Try.func50,Try.ntmps50
 go_wp2
 go_loopg [7,8] k (fun kq v7 v8 w'=> ∃(a4:Int) (a0:Int),v7= .int .i64 a4∧v8= .int .i64 a0∧Aside0 (spec_l1Join.l0 kq l0 a1 a2 a4 a0=some r)∧Aside0 (kq≤k)∧Drawn0 w w')
 case atStart=>exact⟨((-1)),(0),zq3,zq3,H',⟨Nat.le_refl _⟩,zq4⟩
 case round=>
  clear H';obtain⟨a4,a0,rfl,rfl,HA,d7,⟨m1,rfl⟩⟩:=hrel
  cases gk with
  |zero=>exact absurd HA.out (by simp [spec_l1Join.l0])
  |succ k1=>
   have H:=HA.out;clear HA;simp only [spec_l1Join.l0] at H
   by_cases c4:a0<(l0.length:Int)
   ·rw [if_pos c4] at H;have p1:decide (a0<(l0.length:Int))=true:=decide_eq_true c4;clear c4
    by_cases c5:0≤a1
    ·rw [if_pos c5] at H;have q9:decide (0≤a1)=true:=decide_eq_true c5;clear c5
     by_cases c6:a1<(l0.length:Int)
     ·rw [if_pos c6] at H;have r0:decide (a1<(l0.length:Int))=true:=decide_eq_true c6;clear c6
      by_cases c7:0≤a0
      ·rw [if_pos c7] at H;have r1:decide (0≤a0)=true:=decide_eq_true c7;clear c7
       by_cases c8:a0<((rd_L1 l0 a1).length:Int)
       ·rw [if_pos c8] at H;have r2:decide (a0<((rd_L1 l0 a1).length:Int))=true:=decide_eq_true c8;clear c8
        by_cases c9:(rd (rd_L1 l0 a1) a0)=1
        ·rw [if_pos c9] at H;have p2:((rd (rd_L1 l0 a1) a0)==1)=true:=beq_iff_eq.mpr c9;have p3:((rd (rd_L1 l0 a1) a0) !=1)=false:=bne_eq_false_iff_eq.mpr c9;clear c9
         by_cases k8:0≤a2
         ·rw [if_pos k8] at H;have p4:decide (0≤a2)=true:=decide_eq_true k8;clear k8
          by_cases k9:a2<(l0.length:Int)
          ·rw [if_pos k9] at H;have p5:decide (a2<(l0.length:Int))=true:=decide_eq_true k9;clear k9
           by_cases l2:a0<((rd_L1 l0 a2).length:Int)
           ·rw [if_pos l2] at H;have p6:decide (a0<((rd_L1 l0 a2).length:Int))=true:=decide_eq_true l2;clear l2
            by_cases i0:(rd (rd_L1 l0 a2) a0)=1
            ·rw [if_pos i0] at H;have n9:((rd (rd_L1 l0 a2) a0)==1)=true:=beq_iff_eq.mpr i0;have o0:((rd (rd_L1 l0 a2) a0) !=1)=false:=bne_eq_false_iff_eq.mpr i0;clear i0
             by_cases j1:a4<0
             ·rw [if_pos j1] at H;have o1:decide (a4<0)=true:=decide_eq_true j1;clear j1;have H':=zqm H;clear H;have b1:0≤(a1:Int):=zqo;have b3:a1<(l0.length:Int):=zqo;obtain⟨d6,g6,g8,e9,f2,a6,a5⟩:=at_L1 d1.out a1 b1 b3
              cases e9
              have b5:=zqm a5;have f1:=zqm a6;clear a5 a6;replace b1:=eq_true b1;replace b3:=eq_true b3;have b2:0≤(a0:Int):=zqo;have b4:a0<((rd_L1 l0 a1).length:Int):=zqo;obtain⟨h7,f0,f3⟩:=Kd.at_int b5.out a0 b2 b4
              cases f0
              replace b2:=eq_true b2;replace b4:=eq_true b4;have b6:0≤(a2:Int):=zqo;have c1:a2<(l0.length:Int):=zqo;obtain⟨e8,h8,i3,f4,h3,a9,a7⟩:=at_L1 d1.out a2 b6 c1;obtain rfl:d6=e8:=(by injection f4);have d4:=zqm a7;have g9:=zqm a9;clear a7 a9;replace b6:=eq_true b6;replace c1:=eq_true c1;have b7:0≤(a0:Int):=zqo;have c2:a0<((rd_L1 l0 a2).length:Int):=zqo;obtain⟨j5,f5,h4⟩:=Kd.at_int d4.out a0 b7 c2
              cases f5
              replace b7:=eq_true b7;replace c2:=eq_true c2
              go_wp2
              go_roundg k1
              (case measure=>have:=d7.out;omega);case rel=>exact⟨(a0),(wrap64 (a0+1)),zq3,zq3,H',⟨by have:=d7.out;omega⟩,zq4⟩
             ·rw [if_neg j1] at H;have o1:decide (a4<0)=false:=decide_eq_false j1;clear j1
              by_cases l3:0≤a4
              ·rw [if_pos l3] at H;have p7:decide (0≤a4)=true:=decide_eq_true l3;clear l3
               by_cases l4:a4<((rd_L1 l0 a0).length:Int)
               ·rw [if_pos l4] at H;have p8:decide (a4<((rd_L1 l0 a0).length:Int))=true:=decide_eq_true l4;clear l4
                by_cases i1:(rd (rd_L1 l0 a0) a4)=1
                ·rw [if_pos i1] at H;have o2:((rd (rd_L1 l0 a0) a4)==1)=true:=beq_iff_eq.mpr i1;have o3:((rd (rd_L1 l0 a0) a4) !=1)=false:=bne_eq_false_iff_eq.mpr i1;clear i1;have H':=zqm H;clear H;have b1:0≤(a1:Int):=zqo;have b3:a1<(l0.length:Int):=zqo;obtain⟨d6,g6,g8,e9,f2,a6,a5⟩:=at_L1 d1.out a1 b1 b3
                 cases e9
                 have b5:=zqm a5;have f1:=zqm a6;clear a5 a6;replace b1:=eq_true b1;replace b3:=eq_true b3;have b2:0≤(a0:Int):=zqo;have b4:a0<((rd_L1 l0 a1).length:Int):=zqo;obtain⟨h7,f0,f3⟩:=Kd.at_int b5.out a0 b2 b4
                 cases f0
                 replace b2:=eq_true b2;replace b4:=eq_true b4;have b6:0≤(a2:Int):=zqo;have c1:a2<(l0.length:Int):=zqo;obtain⟨e8,h8,i3,f4,h3,a9,a7⟩:=at_L1 d1.out a2 b6 c1;obtain rfl:d6=e8:=(by injection f4);have d4:=zqm a7;have g9:=zqm a9;clear a7 a9;replace b6:=eq_true b6;replace c1:=eq_true c1;have b7:0≤(a0:Int):=zqo;have c2:a0<((rd_L1 l0 a2).length:Int):=zqo;obtain⟨j5,f5,h4⟩:=Kd.at_int d4.out a0 b7 c2
                 cases f5
                 replace b7:=eq_true b7;replace c2:=eq_true c2;have f8:0≤(a0:Int):=zqo;have g2:a0<(l0.length:Int):=zqo;obtain⟨j6,n3,n5,k3,m9,e6,e4⟩:=at_L1 d1.out a0 f8 g2;obtain rfl:d6=j6:=(by injection k3);have h1:=zqm e4;have m7:=zqm e6;clear e4 e6;replace f8:=eq_true f8;replace g2:=eq_true g2;have f9:0≤(a4:Int):=zqo;have g3:a4<((rd_L1 l0 a0).length:Int):=zqo;obtain⟨n7,k4,n0⟩:=Kd.at_int h1.out a4 f9 g3
                 cases k4
                 replace f9:=eq_true f9;replace g3:=eq_true g3
                 go_wp2
                 go_roundg k1
                 (case measure=>have:=d7.out;omega);case rel=>exact⟨(a0),(wrap64 (a0+1)),zq3,zq3,H',⟨by have:=d7.out;omega⟩,zq4⟩
                ·rw [if_neg i1] at H;have o2:((rd (rd_L1 l0 a0) a4)==1)=false:=beq_eq_false_iff_ne.mpr i1;have o3:((rd (rd_L1 l0 a0) a4) !=1)=true:=bne_iff_ne.mpr i1;have H':=zqm H;clear H;have b1:0≤(a1:Int):=zqo;have b3:a1<(l0.length:Int):=zqo;obtain⟨d6,g6,g8,e9,f2,a6,a5⟩:=at_L1 d1.out a1 b1 b3
                 cases e9
                 have b5:=zqm a5;have f1:=zqm a6;clear a5 a6;replace b1:=eq_true b1;replace b3:=eq_true b3;have b2:0≤(a0:Int):=zqo;have b4:a0<((rd_L1 l0 a1).length:Int):=zqo;obtain⟨h7,f0,f3⟩:=Kd.at_int b5.out a0 b2 b4
                 cases f0
                 replace b2:=eq_true b2;replace b4:=eq_true b4;have b6:0≤(a2:Int):=zqo;have c1:a2<(l0.length:Int):=zqo;obtain⟨e8,h8,i3,f4,h3,a9,a7⟩:=at_L1 d1.out a2 b6 c1;obtain rfl:d6=e8:=(by injection f4);have d4:=zqm a7;have g9:=zqm a9;clear a7 a9;replace b6:=eq_true b6;replace c1:=eq_true c1;have b7:0≤(a0:Int):=zqo;have c2:a0<((rd_L1 l0 a2).length:Int):=zqo;obtain⟨j5,f5,h4⟩:=Kd.at_int d4.out a0 b7 c2
                 cases f5
                 replace b7:=eq_true b7;replace c2:=eq_true c2;have f8:0≤(a0:Int):=zqo;have g2:a0<(l0.length:Int):=zqo;obtain⟨j6,n3,n5,k3,m9,e6,e4⟩:=at_L1 d1.out a0 f8 g2;obtain rfl:d6=j6:=(by injection k3);have h1:=zqm e4;have m7:=zqm e6;clear e4 e6;replace f8:=eq_true f8;replace g2:=eq_true g2;have f9:0≤(a4:Int):=zqo;have g3:a4<((rd_L1 l0 a0).length:Int):=zqo;obtain⟨n7,k4,n0⟩:=Kd.at_int h1.out a4 f9 g3
                 cases k4
                 replace f9:=eq_true f9;replace g3:=eq_true g3
                 go_wp2
                 go_roundg k1
                 (case measure=>have:=d7.out;omega);case rel=>exact⟨(a4),(wrap64 (a0+1)),zq3,zq3,H',⟨by have:=d7.out;omega⟩,zq4⟩
               ·rw [if_neg l4] at H;exact absurd H (by simp)
              ·rw [if_neg l3] at H;exact absurd H (by simp)
            ·rw [if_neg i0] at H;have n9:((rd (rd_L1 l0 a2) a0)==1)=false:=beq_eq_false_iff_ne.mpr i0;have o0:((rd (rd_L1 l0 a2) a0) !=1)=true:=bne_iff_ne.mpr i0;have H':=zqm H;clear H;have b1:0≤(a1:Int):=zqo;have b3:a1<(l0.length:Int):=zqo;obtain⟨d6,g6,g8,e9,f2,a6,a5⟩:=at_L1 d1.out a1 b1 b3
             cases e9
             have b5:=zqm a5;have f1:=zqm a6;clear a5 a6;replace b1:=eq_true b1;replace b3:=eq_true b3;have b2:0≤(a0:Int):=zqo;have b4:a0<((rd_L1 l0 a1).length:Int):=zqo;obtain⟨h7,f0,f3⟩:=Kd.at_int b5.out a0 b2 b4
             cases f0
             replace b2:=eq_true b2;replace b4:=eq_true b4;have b6:0≤(a2:Int):=zqo;have c1:a2<(l0.length:Int):=zqo;obtain⟨e8,h8,i3,f4,h3,a9,a7⟩:=at_L1 d1.out a2 b6 c1;obtain rfl:d6=e8:=(by injection f4);have d4:=zqm a7;have g9:=zqm a9;clear a7 a9;replace b6:=eq_true b6;replace c1:=eq_true c1;have b7:0≤(a0:Int):=zqo;have c2:a0<((rd_L1 l0 a2).length:Int):=zqo;obtain⟨j5,f5,h4⟩:=Kd.at_int d4.out a0 b7 c2
             cases f5
             replace b7:=eq_true b7;replace c2:=eq_true c2
             go_wp2
             go_roundg k1
             (case measure=>have:=d7.out;omega);case rel=>exact⟨(a4),(wrap64 (a0+1)),zq3,zq3,H',⟨by have:=d7.out;omega⟩,zq4⟩
           ·rw [if_neg l2] at H;exact absurd H (by simp)
          ·rw [if_neg k9] at H;exact absurd H (by simp)
         ·rw [if_neg k8] at H;exact absurd H (by simp)
        ·rw [if_neg c9] at H;have p2:((rd (rd_L1 l0 a1) a0)==1)=false:=beq_eq_false_iff_ne.mpr c9;have p3:((rd (rd_L1 l0 a1) a0) !=1)=true:=bne_iff_ne.mpr c9;have H':=zqm H;clear H;have b1:0≤(a1:Int):=zqo;have b3:a1<(l0.length:Int):=zqo;obtain⟨d6,g6,g8,e9,f2,a6,a5⟩:=at_L1 d1.out a1 b1 b3
         cases e9
         have b5:=zqm a5;have f1:=zqm a6;clear a5 a6;replace b1:=eq_true b1;replace b3:=eq_true b3;have b2:0≤(a0:Int):=zqo;have b4:a0<((rd_L1 l0 a1).length:Int):=zqo;obtain⟨h7,f0,f3⟩:=Kd.at_int b5.out a0 b2 b4
         cases f0
         replace b2:=eq_true b2;replace b4:=eq_true b4
         go_wp2
         go_roundg k1
         (case measure=>have:=d7.out;omega);case rel=>exact⟨(a4),(wrap64 (a0+1)),zq3,zq3,H',⟨by have:=d7.out;omega⟩,zq4⟩
       ·rw [if_neg c8] at H;exact absurd H (by simp)
      ·rw [if_neg c7] at H;exact absurd H (by simp)
     ·rw [if_neg c6] at H;exact absurd H (by simp)
    ·rw [if_neg c5] at H;exact absurd H (by simp)
   ·rw [if_neg c4] at H;have p1:decide (a0<(l0.length:Int))=false:=decide_eq_false c4;clear c4;have H':=zqm H;clear H
    go_wp2
    go_loopg [9] k1 (fun kq v9 w'=> ∃(a3:Int),v9= .int .i64 a3∧Aside0 (spec_l1Join.l1 kq l0 a1 a2 a4 a3=some r)∧Aside0 (kq≤k1)∧Drawn0 w w')
    case atStart=>exact⟨(0),zq3,H',⟨Nat.le_refl _⟩,zq4⟩
    case round=>
     clear H';obtain⟨a3,rfl,HA,j0,⟨m2,rfl⟩⟩:=hrel
     cases gk with
     |zero=>exact absurd HA.out (by simp [spec_l1Join.l1])
     |succ k2=>
      have H:=HA.out;clear HA;simp only [spec_l1Join.l1] at H
      by_cases j2:a3<(l0.length:Int)
      ·rw [if_pos j2] at H;have o4:decide (a3<(l0.length:Int))=true:=decide_eq_true j2;clear j2
       by_cases l5:0≤a1
       ·rw [if_pos l5] at H;have p9:decide (0≤a1)=true:=decide_eq_true l5;clear l5
        by_cases l6:a1<(l0.length:Int)
        ·rw [if_pos l6] at H;have q0:decide (a1<(l0.length:Int))=true:=decide_eq_true l6;clear l6
         by_cases l7:0≤a3
         ·rw [if_pos l7] at H;have q1:decide (0≤a3)=true:=decide_eq_true l7;clear l7
          by_cases l8:a3<((rd_L1 l0 a1).length:Int)
          ·rw [if_pos l8] at H;have q2:decide (a3<((rd_L1 l0 a1).length:Int))=true:=decide_eq_true l8;clear l8
           by_cases i2:(rd (rd_L1 l0 a1) a3)=1
           ·rw [if_pos i2] at H;have o5:((rd (rd_L1 l0 a1) a3)==1)=true:=beq_iff_eq.mpr i2;have o6:((rd (rd_L1 l0 a1) a3) !=1)=false:=bne_eq_false_iff_eq.mpr i2;clear i2
            by_cases l9:0≤a2
            ·rw [if_pos l9] at H;have q3:decide (0≤a2)=true:=decide_eq_true l9;clear l9
             by_cases m0:a2<(l0.length:Int)
             ·rw [if_pos m0] at H;have q4:decide (a2<(l0.length:Int))=true:=decide_eq_true m0;clear m0
              by_cases m3:a3<((rd_L1 l0 a2).length:Int)
              ·rw [if_pos m3] at H;have q5:decide (a3<((rd_L1 l0 a2).length:Int))=true:=decide_eq_true m3;clear m3
               by_cases i5:(rd (rd_L1 l0 a2) a3)=1
               ·rw [if_pos i5] at H;have o7:((rd (rd_L1 l0 a2) a3)==1)=true:=beq_iff_eq.mpr i5;have o8:((rd (rd_L1 l0 a2) a3) !=1)=false:=bne_eq_false_iff_eq.mpr i5;clear i5
                by_cases m4:0≤a4
                ·rw [if_pos m4] at H;have q6:decide (0≤a4)=true:=decide_eq_true m4;clear m4
                 by_cases m5:a4<(l0.length:Int)
                 ·rw [if_pos m5] at H;have q7:decide (a4<(l0.length:Int))=true:=decide_eq_true m5;clear m5
                  by_cases m6:a3<((rd_L1 l0 a4).length:Int)
                  ·rw [if_pos m6] at H;have q8:decide (a3<((rd_L1 l0 a4).length:Int))=true:=decide_eq_true m6;clear m6
                   by_cases i6:(rd (rd_L1 l0 a4) a3)=0
                   ·rw [if_pos i6] at H;have o9:((rd (rd_L1 l0 a4) a3)==0)=true:=beq_iff_eq.mpr i6;have p0:((rd (rd_L1 l0 a4) a3) !=0)=false:=bne_eq_false_iff_eq.mpr i6;clear i6;obtain rfl:=Option.some.inj H;have b8:0≤(a1:Int):=zqo;have c3:a1<(l0.length:Int):=zqo;obtain⟨e2,h9,i4,f6,h5,b0,a8⟩:=at_L1 d1.out a1 b8 c3
                    cases f6
                    have d5:=zqm a8;have h0:=zqm b0;clear a8 b0;replace b8:=eq_true b8;replace c3:=eq_true c3;have b9:0≤(a3:Int):=zqo;have d0:a3<((rd_L1 l0 a1).length:Int):=zqo;obtain⟨j7,f7,h6⟩:=Kd.at_int d5.out a3 b9 d0
                    cases f7
                    replace b9:=eq_true b9;replace d0:=eq_true d0;have d8:0≤(a2:Int):=zqo;have e0:a2<(l0.length:Int):=zqo;obtain⟨g7,j9,k0,i7,j3,d3,d2⟩:=at_L1 d1.out a2 d8 e0;obtain rfl:e2=g7:=(by injection i7);have e3:=zqm d2;have i9:=zqm d3;clear d2 d3;replace d8:=eq_true d8;replace e0:=eq_true e0;have d9:0≤(a3:Int):=zqo;have e1:a3<((rd_L1 l0 a2).length:Int):=zqo;obtain⟨k7,i8,j4⟩:=Kd.at_int e3.out a3 d9 e1
                    cases i8
                    replace d9:=eq_true d9;replace e1:=eq_true e1;have g0:0≤(a4:Int):=zqo;have g4:a4<(l0.length:Int):=zqo;obtain⟨j8,n4,n6,k5,n1,e7,e5⟩:=at_L1 d1.out a4 g0 g4;obtain rfl:e2=j8:=(by injection k5);have h2:=zqm e5;have m8:=zqm e7;clear e5 e7;replace g0:=eq_true g0;replace g4:=eq_true g4;have g1:0≤(a3:Int):=zqo;have g5:a3<((rd_L1 l0 a4).length:Int):=zqo;obtain⟨n8,k6,n2⟩:=Kd.at_int h2.out a3 g1 g5
                    cases k6
                    replace g1:=eq_true g1;replace g5:=eq_true g5
                    go_wp2
                    go_ret
                    exact⟨zq3,zq4⟩
                   ·rw [if_neg i6] at H;have o9:((rd (rd_L1 l0 a4) a3)==0)=false:=beq_eq_false_iff_ne.mpr i6;have p0:((rd (rd_L1 l0 a4) a3) !=0)=true:=bne_iff_ne.mpr i6;have H':=zqm H;clear H;have b8:0≤(a1:Int):=zqo;have c3:a1<(l0.length:Int):=zqo;obtain⟨e2,h9,i4,f6,h5,b0,a8⟩:=at_L1 d1.out a1 b8 c3
                    cases f6
                    have d5:=zqm a8;have h0:=zqm b0;clear a8 b0;replace b8:=eq_true b8;replace c3:=eq_true c3;have b9:0≤(a3:Int):=zqo;have d0:a3<((rd_L1 l0 a1).length:Int):=zqo;obtain⟨j7,f7,h6⟩:=Kd.at_int d5.out a3 b9 d0
                    cases f7
                    replace b9:=eq_true b9;replace d0:=eq_true d0;have d8:0≤(a2:Int):=zqo;have e0:a2<(l0.length:Int):=zqo;obtain⟨g7,j9,k0,i7,j3,d3,d2⟩:=at_L1 d1.out a2 d8 e0;obtain rfl:e2=g7:=(by injection i7);have e3:=zqm d2;have i9:=zqm d3;clear d2 d3;replace d8:=eq_true d8;replace e0:=eq_true e0;have d9:0≤(a3:Int):=zqo;have e1:a3<((rd_L1 l0 a2).length:Int):=zqo;obtain⟨k7,i8,j4⟩:=Kd.at_int e3.out a3 d9 e1
                    cases i8
                    replace d9:=eq_true d9;replace e1:=eq_true e1;have g0:0≤(a4:Int):=zqo;have g4:a4<(l0.length:Int):=zqo;obtain⟨j8,n4,n6,k5,n1,e7,e5⟩:=at_L1 d1.out a4 g0 g4;obtain rfl:e2=j8:=(by injection k5);have h2:=zqm e5;have m8:=zqm e7;clear e5 e7;replace g0:=eq_true g0;replace g4:=eq_true g4;have g1:0≤(a3:Int):=zqo;have g5:a3<((rd_L1 l0 a4).length:Int):=zqo;obtain⟨n8,k6,n2⟩:=Kd.at_int h2.out a3 g1 g5
                    cases k6
                    replace g1:=eq_true g1;replace g5:=eq_true g5
                    go_wp2
                    go_roundg k2
                    (case measure=> exact zq85);case rel=>exact⟨(wrap64 (a3+1)),zq3,H',⟨zq85⟩,zq4⟩
                  ·rw [if_neg m6] at H;exact absurd H (by simp)
                 ·rw [if_neg m5] at H;exact absurd H (by simp)
                ·rw [if_neg m4] at H;exact absurd H (by simp)
               ·rw [if_neg i5] at H;have o7:((rd (rd_L1 l0 a2) a3)==1)=false:=beq_eq_false_iff_ne.mpr i5;have o8:((rd (rd_L1 l0 a2) a3) !=1)=true:=bne_iff_ne.mpr i5;have H':=zqm H;clear H;have b8:0≤(a1:Int):=zqo;have c3:a1<(l0.length:Int):=zqo;obtain⟨e2,h9,i4,f6,h5,b0,a8⟩:=at_L1 d1.out a1 b8 c3
                cases f6
                have d5:=zqm a8;have h0:=zqm b0;clear a8 b0;replace b8:=eq_true b8;replace c3:=eq_true c3;have b9:0≤(a3:Int):=zqo;have d0:a3<((rd_L1 l0 a1).length:Int):=zqo;obtain⟨j7,f7,h6⟩:=Kd.at_int d5.out a3 b9 d0
                cases f7
                replace b9:=eq_true b9;replace d0:=eq_true d0;have d8:0≤(a2:Int):=zqo;have e0:a2<(l0.length:Int):=zqo;obtain⟨g7,j9,k0,i7,j3,d3,d2⟩:=at_L1 d1.out a2 d8 e0;obtain rfl:e2=g7:=(by injection i7);have e3:=zqm d2;have i9:=zqm d3;clear d2 d3;replace d8:=eq_true d8;replace e0:=eq_true e0;have d9:0≤(a3:Int):=zqo;have e1:a3<((rd_L1 l0 a2).length:Int):=zqo;obtain⟨k7,i8,j4⟩:=Kd.at_int e3.out a3 d9 e1
                cases i8
                replace d9:=eq_true d9;replace e1:=eq_true e1
                go_wp2
                go_roundg k2
                (case measure=> exact zq85);case rel=>exact⟨(wrap64 (a3+1)),zq3,H',⟨zq85⟩,zq4⟩
              ·rw [if_neg m3] at H;exact absurd H (by simp)
             ·rw [if_neg m0] at H;exact absurd H (by simp)
            ·rw [if_neg l9] at H;exact absurd H (by simp)
           ·rw [if_neg i2] at H;have o5:((rd (rd_L1 l0 a1) a3)==1)=false:=beq_eq_false_iff_ne.mpr i2;have o6:((rd (rd_L1 l0 a1) a3) !=1)=true:=bne_iff_ne.mpr i2;have H':=zqm H;clear H;have b8:0≤(a1:Int):=zqo;have c3:a1<(l0.length:Int):=zqo;obtain⟨e2,h9,i4,f6,h5,b0,a8⟩:=at_L1 d1.out a1 b8 c3
            cases f6
            have d5:=zqm a8;have h0:=zqm b0;clear a8 b0;replace b8:=eq_true b8;replace c3:=eq_true c3;have b9:0≤(a3:Int):=zqo;have d0:a3<((rd_L1 l0 a1).length:Int):=zqo;obtain⟨j7,f7,h6⟩:=Kd.at_int d5.out a3 b9 d0
            cases f7
            replace b9:=eq_true b9;replace d0:=eq_true d0
            go_wp2
            go_roundg k2
            (case measure=> exact zq85);case rel=>exact⟨(wrap64 (a3+1)),zq3,H',⟨zq85⟩,zq4⟩
          ·rw [if_neg l8] at H;exact absurd H (by simp)
         ·rw [if_neg l7] at H;exact absurd H (by simp)
        ·rw [if_neg l6] at H;exact absurd H (by simp)
       ·rw [if_neg l5] at H;exact absurd H (by simp)
      ·rw [if_neg j2] at H;have o4:decide (a3<(l0.length:Int))=false:=decide_eq_false j2;clear j2;obtain rfl:=Option.some.inj H
       go_wp2
       go_ret
       exact⟨zq3,zq4⟩
end
section
attribute [local go_sem] max2_int min2_int max_two min_two max_three min_three max_four min_four
mutual
def spec_LatticeOk.l0 : Nat → List (List Int) → Int → Option (Bool)
 | 0, _, _ => none
 | k + 1, x0, x3 => if x3 < (x0.length : Int) then ((spec_OrderOk.f k x0).bind fun t245 => (spec_LatticeOk.j1 k x0 x3 t245)) else (spec_LatticeOk.j1 k x0 x3 false)
def spec_LatticeOk.j1 : Nat → List (List Int) → Int → Bool → Option (Bool)
 | 0, _, _, _ => none
 | k + 1, x0, x3, x12 => if x12 = true then (spec_LatticeOk.l1 k x0 x3 0) else ((spec_OrderOk.f k x0).bind fun t246 => (some t246))
def spec_LatticeOk.l1 : Nat → List (List Int) → Int → Int → Option (Bool)
 | 0, _, _, _ => none
 | k + 1, x0, x3, x4 => if x4 < x3 then ((spec_l1Meet.f k x0 x3 x4).bind fun t247 => (if t247 < 0 then (some false) else ((spec_l1Join.f k x0 x3 x4).bind fun t248 => (if t248 < 0 then (some false) else (spec_LatticeOk.l1 k x0 x3 (wrap64 (x4 + 1))))))) else (spec_LatticeOk.l0 k x0 (wrap64 (x3 + 1)))
end
def spec_LatticeOk.f (k : Nat) (l0 : List (List Int)) : Option (Bool) := spec_LatticeOk.l0 k l0 0
set_option maxHeartbeats 8000000 in
set_option maxRecDepth 100000 in
theorem spec_LatticeOk.calls (k : Nat) (A0 : Option Addr) (c0 : Nat) (l0 : List (List Int)) (r : Bool) (w : World) (hr0 : Kd.C (Kd.slice 3 (Kd.int .i64)) w A0 l0.length l0) (hc0 : l0.length ≤ c0) (h : spec_LatticeOk.f k l0 = some r) :
  Calls Try.prog 42 #[.slice A0 l0.length c0] w fun e w' => e = .returned (.bool r) ∧ Drawn0 w w' := by
 have a5:=zqm hr0;have a4:=zqm hc0;clear hr0 hc0;have H:(spec_LatticeOk.l0 k l0 0)=some r:=h;clear h;have H':=zqm H;clear H
 go_enter Try.func42,Try.ntmps42
 go_wp2
 go_loopg [3] k (fun kq v3 w'=> ∃(a0:Int),v3= .int .i64 a0∧Aside0 (spec_LatticeOk.l0 kq l0 a0=some r)∧Aside0 (kq≤k)∧Drawn0 w w')
 case atStart=>exact⟨(0),zq3,H',⟨Nat.le_refl _⟩,zq4⟩
 case round=>
  clear H';obtain⟨a0,rfl,HA,a8,⟨m1,rfl⟩⟩:=hrel
  cases gk with
  |zero=>exact absurd HA.out (by simp [spec_LatticeOk.l0])
  |succ k1=>
   have H:=HA.out;clear HA;simp only [spec_LatticeOk.l0] at H;have b3:=zqm H;clear H
   go_upto_region 2 with (fail)
   go_cut [12] (fun c9 wc=> ∃(kq:Nat) (a3:Bool),c9= .bool a3∧Aside0 (spec_LatticeOk.j1 kq l0 a0 a3=some r)∧Aside0 (kq≤k1)∧Drawn0 w wc)
   case first=>
    have H:=b3.out;clear b3
    by_cases c3:a0<(l0.length:Int)
    ·rw [if_pos c3] at H;have a6:decide (a0<(l0.length:Int))=true:=decide_eq_true c3;clear c3;(first|rw [a6]|(simp only [i64_w,i32_w];rw [a6])|skip);replace H:=Option.bind_eq_some_iff.mp H;obtain⟨b5,b7,H⟩:=H;(try dsimp only at H);have A4:=zqm b7;clear b7;have H':=zqm H;clear H
     go_wp2_with (first|(go_at_call 49;(with_reducible refine(spec_OrderOk.calls k1 _ _ l0 b5 _ ?side1 ?side2 A4.out).mono ?_);(case side1=> exact zq20);(case side2=>exact a4.out);rintro e w' ⟨rfl,⟨nd,rfl⟩⟩))
     go_meet
     case rel=>exact⟨_,(b5),zq3,H',⟨by have:=a8.out;first|omega|exact Nat.le_refl _⟩,zq4⟩
    ·rw [if_neg c3] at H;have a6:decide (a0<(l0.length:Int))=false:=decide_eq_false c3;clear c3;(first|rw [a6]|(simp only [i64_w,i32_w];rw [a6])|skip);have H':=zqm H;clear H
     go_wp2
     go_meet
     case rel=>exact⟨_,(false),zq3,H',⟨by have:=a8.out;first|omega|exact Nat.le_refl _⟩,zq4⟩
   case rest=>
    clear b3;obtain⟨kq,a3,rfl,HA,b0,⟨mc1,rfl⟩⟩:=hcut
    cases kq with
    |zero=>exact absurd HA.out (by simp [spec_LatticeOk.j1])
    |succ b4=>
     have H:=HA.out;clear HA;simp only [spec_LatticeOk.j1] at H
     by_cases c5:a3=true
     ·subst c5;rw [if_pos rfl] at H;have H':=zqm H;clear H
      go_wp2
      go_loopg [4] b4 (fun kq v4 w'=> ∃(a1:Int),v4= .int .i64 a1∧Aside0 (spec_LatticeOk.l1 kq l0 a0 a1=some r)∧Aside0 (kq≤b4)∧Drawn0 w w')
      case atStart=>exact⟨(0),zq3,H',⟨Nat.le_refl _⟩,zq4⟩
      case round=>
       clear H';obtain⟨a1,rfl,HA,b1,⟨m3,rfl⟩⟩:=hrel
       cases gk with
       |zero=>exact absurd HA.out (by simp [spec_LatticeOk.l1])
       |succ k3=>
        have H:=HA.out;clear HA;simp only [spec_LatticeOk.l1] at H
        by_cases c6:a1<a0
        ·rw [if_pos c6] at H;have c1:decide (a1<a0)=true:=decide_eq_true c6;clear c6;replace H:=Option.bind_eq_some_iff.mp H;obtain⟨a2,b8,H⟩:=H;(try dsimp only at H);have A7:=zqm b8;clear b8
         by_cases c8:a2<0
         ·rw [if_pos c8] at H;have c2:decide (a2<0)=true:=decide_eq_true c8;clear c8;obtain rfl:=Option.some.inj H
          go_wp2_with (first|((with_reducible refine gate_callee (f:=44) rfl ?_);refine goesL_ (some 23) rfl rfl Try.func44 zqk rfl #[.slice A0 l0.length c0,.int .i64 a0,.int .i64 a1] rfl zq1 ?_;(with_reducible refine(spec_l1Meet.calls k3 _ _ l0 a0 a1 a2 _ ?side1 ?side2 A7.out).mono ?_);(case side1=> exact zq20);(case side2=>exact a4.out);rintro e w' ⟨rfl,⟨nd,rfl⟩⟩;refine⟨_,rfl,?_⟩))
          go_ret
          exact⟨zq3,zq4⟩
         ·rw [if_neg c8] at H;have c2:decide (a2<0)=false:=decide_eq_false c8;clear c8;replace H:=Option.bind_eq_some_iff.mp H;obtain⟨a7,b9,H⟩:=H;(try dsimp only at H);have A9:=zqm b9;clear b9
          by_cases a9:a7<0
          ·rw [if_pos a9] at H;have b6:decide (a7<0)=true:=decide_eq_true a9;clear a9;obtain rfl:=Option.some.inj H
           go_wp2_with (first|((with_reducible refine gate_callee (f:=44) rfl ?_);refine goesL_ (some 23) rfl rfl Try.func44 zqk rfl #[.slice A0 l0.length c0,.int .i64 a0,.int .i64 a1] rfl zq1 ?_;(with_reducible refine(spec_l1Meet.calls k3 _ _ l0 a0 a1 a2 _ ?side1 ?side2 A7.out).mono ?_);(case side1=> exact zq20);(case side2=>exact a4.out);rintro e w' ⟨rfl,⟨nd,rfl⟩⟩;refine⟨_,rfl,?_⟩)|(go_at_call 50;(with_reducible refine(spec_l1Join.calls k3 _ _ l0 a0 a1 a7 _ ?side1 ?side2 A9.out).mono ?_);(case side1=> exact zq20);(case side2=>exact a4.out);rintro e w' ⟨rfl,⟨nd,rfl⟩⟩))
           go_ret
           exact⟨zq3,zq4⟩
          ·rw [if_neg a9] at H;have b6:decide (a7<0)=false:=decide_eq_false a9;clear a9;have H':=zqm H;clear H
           go_wp2_with (first|((with_reducible refine gate_callee (f:=44) rfl ?_);refine goesL_ (some 23) rfl rfl Try.func44 zqk rfl #[.slice A0 l0.length c0,.int .i64 a0,.int .i64 a1] rfl zq1 ?_;(with_reducible refine(spec_l1Meet.calls k3 _ _ l0 a0 a1 a2 _ ?side1 ?side2 A7.out).mono ?_);(case side1=> exact zq20);(case side2=>exact a4.out);rintro e w' ⟨rfl,⟨nd,rfl⟩⟩;refine⟨_,rfl,?_⟩)|(go_at_call 50;(with_reducible refine(spec_l1Join.calls k3 _ _ l0 a0 a1 a7 _ ?side1 ?side2 A9.out).mono ?_);(case side1=> exact zq20);(case side2=>exact a4.out);rintro e w' ⟨rfl,⟨nd,rfl⟩⟩))
           go_roundg k3
           (case measure=> exact zq88);case rel=>exact⟨(wrap64 (a1+1)),zq3,H',⟨zq88⟩,zq4⟩
        ·rw [if_neg c6] at H;have c1:decide (a1<a0)=false:=decide_eq_false c6;clear c6;have H':=zqm H;clear H
         go_wp2
         go_roundg k3
         (case measure=> exact zq88);case rel=>exact⟨(wrap64 (a0+1)),zq3,H',⟨zq88⟩,zq4⟩
     ·replace c5:=Bool.eq_false_iff.mpr c5;subst c5;rw [if_neg (show¬(false=true) by decide)] at H;replace H:=Option.bind_eq_some_iff.mp H;obtain⟨c4,b2,H⟩:=H;(try dsimp only at H);have c7:=zqm b2;clear b2;obtain rfl:=Option.some.inj H
      go_wp2_with (first|((with_reducible refine gate_callee (f:=49) rfl ?_);refine goesL_ (some 33) rfl rfl Try.func49 zqk rfl #[.slice A0 l0.length c0] rfl zq1 ?_;(with_reducible refine(spec_OrderOk.calls b4 _ _ l0 c4 _ ?side1 ?side2 c7.out).mono ?_);(case side1=> exact zq20);(case side2=>exact a4.out);rintro e w' ⟨rfl,⟨nd,rfl⟩⟩;refine⟨_,rfl,?_⟩))
      go_ret
      exact⟨zq3,zq4⟩
end
section
attribute [local go_sem] max2_int min2_int max_two min_two max_three min_three max_four min_four
mutual
def spec_LeastOf.l0 : Nat → List (List Int) → Int → Option (Int × Bool)
 | 0, _, _ => none
 | k + 1, x0, x4 => if x4 < (x0.length : Int) then ((spec_OrderOk.f k x0).bind fun t249 => (spec_LeastOf.j1 k x0 x4 t249)) else (spec_LeastOf.j1 k x0 x4 false)
def spec_LeastOf.j1 : Nat → List (List Int) → Int → Bool → Option (Int × Bool)
 | 0, _, _, _ => none
 | k + 1, x0, x4, x14 => if x14 = true then (spec_LeastOf.l1 k x0 x4 true 0) else (some ((-1), false))
def spec_LeastOf.l1 : Nat → List (List Int) → Int → Bool → Int → Option (Int × Bool)
 | 0, _, _, _, _ => none
 | k + 1, x0, x4, x5, x6 => if x6 < (x0.length : Int) then (if x5 = true then (if 0 ≤ x4 then (if x4 < (x0.length : Int) then (if 0 ≤ x6 then (if x6 < ((rd_L1 x0 x4).length : Int) then (spec_LeastOf.l1 k x0 x4 ((rd (rd_L1 x0 x4) x6) == 1) (wrap64 (x6 + 1))) else (none)) else (none)) else (none)) else (none)) else (spec_LeastOf.l1 k x0 x4 false (wrap64 (x6 + 1)))) else (if x5 = true then (some (x4, true)) else (spec_LeastOf.l0 k x0 (wrap64 (x4 + 1))))
end
def spec_LeastOf.f (k : Nat) (l0 : List (List Int)) : Option (Int × Bool) := spec_LeastOf.l0 k l0 0
set_option maxHeartbeats 8000000 in
set_option maxRecDepth 100000 in
theorem spec_LeastOf.calls (k : Nat) (A0 : Option Addr) (c0 : Nat) (l0 : List (List Int)) (r1 : Int) (r2 : Bool) (w : World) (hr0 : Kd.C (Kd.slice 3 (Kd.int .i64)) w A0 l0.length l0) (hc0 : l0.length ≤ c0) (h : spec_LeastOf.f k l0 = some (r1, r2)) :
  Calls Try.prog 43 #[.slice A0 l0.length c0] w fun e w' => e = .returned (.tuple #[.int .i64 r1, .bool r2]) ∧ Drawn0 w w' := by
 have c4:=zqm hr0;have d7:=zqm hc0;clear hr0 hc0;have H:(spec_LeastOf.l0 k l0 0)=some (r1,r2):=h;clear h;have H':=zqm H;clear H
 go_enter Try.func43,Try.ntmps43
 go_wp2
 go_loopg [4] k (fun kq v4 w'=> ∃(a0:Int),v4= .int .i64 a0∧Aside0 (spec_LeastOf.l0 kq l0 a0=some (r1,r2))∧Aside0 (kq≤k)∧Drawn0 w w')
 case atStart=>exact⟨(0),zq3,H',⟨Nat.le_refl _⟩,zq4⟩
 case round=>
  clear H';obtain⟨a0,rfl,HA,a2,⟨m1,rfl⟩⟩:=hrel
  cases gk with
  |zero=>exact absurd HA.out (by simp [spec_LeastOf.l0])
  |succ k1=>
   have H:=HA.out;clear HA;simp only [spec_LeastOf.l0] at H;have b9:=zqm H;clear H
   go_upto_region 2 with (fail)
   go_cut [14] (fun d9 wc=> ∃(kq:Nat) (a3:Bool),d9= .bool a3∧Aside0 (spec_LeastOf.j1 kq l0 a0 a3=some (r1,r2))∧Aside0 (kq≤k1)∧Drawn0 w wc)
   case first=>
    have H:=b9.out;clear b9
    by_cases c3:a0<(l0.length:Int)
    ·rw [if_pos c3] at H;have a4:decide (a0<(l0.length:Int))=true:=decide_eq_true c3;clear c3;(first|rw [a4]|(simp only [i64_w,i32_w];rw [a4])|skip);replace H:=Option.bind_eq_some_iff.mp H;obtain⟨b4,c2,H⟩:=H;replace H:(spec_LeastOf.j1 k1 l0 a0 b4)=some (r1,r2):=H;have A4:=zqm c2;clear c2;have H':=zqm H;clear H
     go_wp2_with (first|(go_at_call 49;(with_reducible refine(spec_OrderOk.calls k1 _ _ l0 b4 _ ?side1 ?side2 A4.out).mono ?_);(case side1=>repeat(first|exact c4.out|(with_reducible refine Kd.C_alloc ?_ _)|(with_reducible refine Kd.C_drewN ?_ _)|(with_reducible refine Kd.C_drew ?_)));(case side2=>exact d7.out);rintro e w' ⟨rfl,⟨nd,rfl⟩⟩))
     go_meet
     case rel=>exact⟨_,(b4),zq3,H',⟨by have:=a2.out;first|omega|exact Nat.le_refl _⟩,zq4⟩
    ·rw [if_neg c3] at H;have a4:decide (a0<(l0.length:Int))=false:=decide_eq_false c3;clear c3;(first|rw [a4]|(simp only [i64_w,i32_w];rw [a4])|skip);have H':=zqm H;clear H
     go_wp2
     go_meet
     case rel=>exact⟨_,(false),zq3,H',⟨by have:=a2.out;first|omega|exact Nat.le_refl _⟩,zq4⟩
   case rest=>
    clear b9;obtain⟨kq,a3,rfl,HA,a6,⟨mc1,rfl⟩⟩:=hcut
    cases kq with
    |zero=>exact absurd HA.out (by simp [spec_LeastOf.j1])
    |succ c1=>
     have H:=HA.out;clear HA;simp only [spec_LeastOf.j1] at H
     by_cases c5:a3=true
     ·subst c5;(have H1:(spec_LeastOf.l1 c1 l0 a0 true 0)=some (r1,r2):=by rw [if_pos rfl] at H;exact H);clear H;have H:=H1;clear H1;have H':=zqm H;clear H
      go_wp2
      go_loopg [5,6] c1 (fun kq v5 v6 w'=> ∃(a5:Bool) (a1:Int),v5= .bool a5∧v6= .int .i64 a1∧Aside0 (spec_LeastOf.l1 kq l0 a0 a5 a1=some (r1,r2))∧Aside0 (kq≤c1)∧Drawn0 w w')
      case atStart=>exact⟨(true),(0),zq3,zq3,H',⟨Nat.le_refl _⟩,zq4⟩
      case round=>
       clear H';obtain⟨a5,a1,rfl,rfl,HA,a7,⟨m3,rfl⟩⟩:=hrel
       cases gk with
       |zero=>exact absurd HA.out (by simp [spec_LeastOf.l1])
       |succ k3=>
        have H:=HA.out;clear HA;simp only [spec_LeastOf.l1] at H
        by_cases c6:a1<(l0.length:Int)
        ·rw [if_pos c6] at H;have d0:decide (a1<(l0.length:Int))=true:=decide_eq_true c6;clear c6
         by_cases c7:a5=true
         ·subst c7;(have H1:(if 0≤a0 then(if a0<(l0.length:Int) then(if 0≤a1 then(if a1<((rd_L1 l0 a0).length:Int) then(spec_LeastOf.l1 k3 l0 a0 ((rd (rd_L1 l0 a0) a1)==1) (wrap64 (a1+1))) else(none)) else(none)) else(none)) else(none))=some (r1,r2):=by rw [if_pos rfl] at H;exact H);clear H;have H:=H1;clear H1
          by_cases c8:0≤a0
          ·rw [if_pos c8] at H;have e4:decide (0≤a0)=true:=decide_eq_true c8;clear c8
           by_cases c9:a0<(l0.length:Int)
           ·rw [if_pos c9] at H;have e5:decide (a0<(l0.length:Int))=true:=decide_eq_true c9;clear c9
            by_cases b5:0≤a1
            ·rw [if_pos b5] at H;have e2:decide (0≤a1)=true:=decide_eq_true b5;clear b5
             by_cases b6:a1<((rd_L1 l0 a0).length:Int)
             ·rw [if_pos b6] at H;have e3:decide (a1<((rd_L1 l0 a0).length:Int))=true:=decide_eq_true b6;clear b6;have H':=zqm H;clear H;have b0:0≤(a0:Int):=zqo;have b2:a0<(l0.length:Int):=zqo;obtain⟨e0,d6,d8,d1,d4,a9,a8⟩:=at_L1 c4.out a0 b0 b2
              cases d1
              have b8:=zqm a8;have d3:=zqm a9;clear a8 a9;replace b0:=eq_true b0;replace b2:=eq_true b2;have b1:0≤(a1:Int):=zqo;have b3:a1<((rd_L1 l0 a0).length:Int):=zqo;obtain⟨e1,d2,d5⟩:=Kd.at_int b8.out a1 b1 b3
              cases d2
              replace b1:=eq_true b1;replace b3:=eq_true b3
              go_wp2
              go_roundg k3
              (case measure=> exact zq81);case rel=>exact⟨(((rd (rd_L1 l0 a0) a1)==1)),(wrap64 (a1+1)),zq3,zq3,H',⟨zq81⟩,zq4⟩
             ·rw [if_neg b6] at H;exact absurd H (by simp)
            ·rw [if_neg b5] at H;exact absurd H (by simp)
           ·rw [if_neg c9] at H;exact absurd H (by simp)
          ·rw [if_neg c8] at H;exact absurd H (by simp)
         ·replace c7:=Bool.eq_false_iff.mpr c7;subst c7;(have H1:(spec_LeastOf.l1 k3 l0 a0 false (wrap64 (a1+1)))=some (r1,r2):=by rw [if_neg (show¬(false=true) by decide)] at H;exact H);clear H;have H:=H1;clear H1;have H':=zqm H;clear H
          go_wp2
          go_roundg k3
          (case measure=> exact zq81);case rel=>exact⟨(false),(wrap64 (a1+1)),zq3,zq3,H',⟨zq81⟩,zq4⟩
        ·rw [if_neg c6] at H;have d0:decide (a1<(l0.length:Int))=false:=decide_eq_false c6;clear c6
         by_cases b7:a5=true
         ·subst b7;(have H1:(some (a0,true))=some (r1,r2):=by rw [if_pos rfl] at H;exact H);clear H;have H:=H1;clear H1;simp only [Option.some.injEq,Prod.mk.injEq] at H;obtain⟨rfl,rfl⟩:=H
          go_wp2
          go_ret2
          exact⟨zq3,zq4⟩
         ·replace b7:=Bool.eq_false_iff.mpr b7;subst b7;(have H1:(spec_LeastOf.l0 k3 l0 (wrap64 (a0+1)))=some (r1,r2):=by rw [if_neg (show¬(false=true) by decide)] at H;exact H);clear H;have H:=H1;clear H1;have H':=zqm H;clear H
          go_wp2
          go_roundg k3
          (case measure=> exact zq81);case rel=>exact⟨(wrap64 (a0+1)),zq3,H',⟨zq81⟩,zq4⟩
     ·replace c5:=Bool.eq_false_iff.mpr c5;subst c5;(have H1:(some ((-1),false))=some (r1,r2):=by rw [if_neg (show¬(false=true) by decide)] at H;exact H);clear H;have H:=H1;clear H1;simp only [Option.some.injEq,Prod.mk.injEq] at H;obtain⟨rfl,rfl⟩:=H
      go_wp2
      go_ret2
      exact⟨zq3,zq4⟩
end
section
attribute [local go_sem] max2_int min2_int max_two min_two max_three min_three max_four min_four
mutual
def spec_LogicOk.j0 : Nat → Int → Bool → List (List Int) → List Int → Option (Bool)
 | 0, _, _, _, _ => none
 | k + 1, x3, x22, x253000, x253001 => if x22 = true then (some false) else (spec_LogicOk.l0 k x3 0 x253000 x253001)
def spec_LogicOk.l0 : Nat → Int → Int → List (List Int) → List Int → Option (Bool)
 | 0, _, _, _, _ => none
 | k + 1, x3, x4, x253000, x253001 => if x4 < x3 then (if 0 ≤ x4 then (if x4 < (x253001.length : Int) then ((spec_l1In.f (rd x253001 x4) 0 (wrap64 (x3 - 1))).bind fun t255 => (if t255 = true then (spec_LogicOk.l0 k x3 (wrap64 (x4 + 1)) x253000 x253001) else (some false))) else (none)) else (none)) else ((spec_LeastOf.f k x253000).bind fun bt256 => (spec_LogicOk.l1 k x3 bt256.1 0 x253000 x253001))
def spec_LogicOk.l1 : Nat → Int → Int → Int → List (List Int) → List Int → Option (Bool)
 | 0, _, _, _, _, _ => none
 | k + 1, x3, x5, x7, x253000, x253001 => if x7 < x3 then (if 0 ≤ x7 then (if x7 < (x253001.length : Int) then (if 0 ≤ (rd x253001 x7) then (if (rd x253001 x7) < (x253001.length : Int) then (if (rd x253001 (rd x253001 x7)) = x7 then ((spec_l1Meet.f k x253000 x7 (rd x253001 x7)).bind fun t261 => (spec_LogicOk.j3 k x3 x5 x7 (t261 != x5) x253000 x253001)) else (spec_LogicOk.j3 k x3 x5 x7 true x253000 x253001)) else (none)) else (none)) else (none)) else (none)) else (some true)
def spec_LogicOk.j3 : Nat → Int → Int → Int → Bool → List (List Int) → List Int → Option (Bool)
 | 0, _, _, _, _, _, _ => none
 | k + 1, x3, x5, x7, x71, x253000, x253001 => if x71 = true then (some false) else (spec_LogicOk.l2 k x3 x5 x7 0 x253000 x253001)
def spec_LogicOk.l2 : Nat → Int → Int → Int → Int → List (List Int) → List Int → Option (Bool)
 | 0, _, _, _, _, _, _ => none
 | k + 1, x3, x5, x7, x8, x253000, x253001 => if x8 < x3 then (if 0 ≤ x7 then (if x7 < (x253000.length : Int) then (if 0 ≤ x8 then (if x8 < ((rd_L1 x253000 x7).length : Int) then (if (rd (rd_L1 x253000 x7) x8) = 1 then (if x8 < (x253001.length : Int) then (if 0 ≤ (rd x253001 x8) then (if (rd x253001 x8) < (x253000.length : Int) then (if x7 < (x253001.length : Int) then (if 0 ≤ (rd x253001 x7) then (if (rd x253001 x7) < ((rd_L1 x253000 (rd x253001 x8)).length : Int) then (if (rd (rd_L1 x253000 (rd x253001 x8)) (rd x253001 x7)) = 0 then (some false) else (spec_LogicOk.l2 k x3 x5 x7 (wrap64 (x8 + 1)) x253000 x253001)) else (none)) else (none)) else (none)) else (none)) else (none)) else (none)) else (spec_LogicOk.l2 k x3 x5 x7 (wrap64 (x8 + 1)) x253000 x253001)) else (none)) else (none)) else (none)) else (none)) else (spec_LogicOk.l1 k x3 x5 (wrap64 (x7 + 1)) x253000 x253001)
end
def spec_LogicOk.f (k : Nat) (l0_0 : List (List Int)) (l0_1 : List Int) : Option (Bool) := (spec_LatticeOk.f k l0_0).bind fun t253 => (if t253 = true then (spec_LogicOk.j0 k (l0_0.length : Int) ((l0_1.length : Int) != (l0_0.length : Int)) l0_0 l0_1) else (spec_LogicOk.j0 k (l0_0.length : Int) true l0_0 l0_1))
set_option maxHeartbeats 8000000 in
set_option maxRecDepth 100000 in
theorem spec_LogicOk.calls (k : Nat) (A0_0 : Option Addr) (c0_0 : Nat) (l0_0 : List (List Int)) (A0_1 : Option Addr) (c0_1 : Nat) (l0_1 : List Int) (r : Bool) (w : World) (hr0_0 : Kd.C (Kd.slice 3 (Kd.int .i64)) w A0_0 l0_0.length l0_0) (hc0_0 : l0_0.length ≤ c0_0) (hr0_1 : Kd.C (Kd.int .i64) w A0_1 l0_1.length l0_1) (hc0_1 : l0_1.length ≤ c0_1) (h : spec_LogicOk.f k l0_0 l0_1 = some r) :
  Calls Try.prog 24 #[.agg #[.slice A0_0 l0_0.length c0_0, .slice A0_1 l0_1.length c0_1]] w fun e w' => e = .returned (.bool r) ∧ Below w.heap.size w w' := by
 have hu25:=Try.underlying25;have a6:=zqm hr0_0;have a9:=zqm hc0_0;clear hr0_0 hc0_0;have b2:=zqm hr0_1;have s6:=zqm hc0_1;clear hr0_1 hc0_1;have HB:=zqm (Below.refl w.heap.size w);have H:((spec_LatticeOk.f k l0_0).bind fun i7=>(if i7=true then(spec_LogicOk.j0 k (l0_0.length:Int) ((l0_1.length:Int) !=(l0_0.length:Int)) l0_0 l0_1) else(spec_LogicOk.j0 k (l0_0.length:Int) true l0_0 l0_1)))=some r:=h;clear h;have m5:=zqm H;clear H
 go_enter Try.func24,Try.ntmps24
 go_upto_region 2 with (first|((with_reducible refine gate_dst (N:=1) rfl ?_);(try(refine gate_guard (by rfl) ?_;dsimp only));refine box_event ?hg (N:=1) ?hd (cs:= #[.slice A0_0 l0_0.length c0_0,.slice A0_1 l0_1.length c0_1]) (t:=25) ?hr ?_;(case hd=>rfl);(case hg=>rfl);(case hr=> exact zq13);intro a3 hg w3 hbox hb;have f1:=zqm (below_step zq0 hb);have a1:=zqm (hbox);have i9:=zqm ((by rw [hg];exact(below_size zq0):w.heap.size≤a3));have a5:=zqm ((by rw [hg];exact(below_size zq0):w.heap.size≤a3));clear HB;have HB:=f1;clear f1 hb hbox hg;have h3:w3.cell? ⟨a3,0,none⟩=some (.slice A0_0 l0_0.length c0_0):=(blk_cell a1.out 0).trans rfl;have h4:w3.cell? ⟨a3,1,none⟩=some (.slice A0_1 l0_1.length c0_1):=(blk_cell a1.out 1).trans rfl;have h5:=blk_frozen a1.out 0;have h6:=blk_frozen a1.out 1))
 repeat(go_quiet (first|((with_reducible refine gate_dst (N:=1) rfl ?_);(try(refine gate_guard (by rfl) ?_;dsimp only));refine box_event ?hg (N:=1) ?hd (cs:= #[.slice A0_0 l0_0.length c0_0,.slice A0_1 l0_1.length c0_1]) (t:=25) ?hr ?_;(case hd=>rfl);(case hg=>rfl);(case hr=> exact zq13);intro a3 hg w3 hbox hb;have f1:=zqm (below_step zq0 hb);have a1:=zqm (hbox);have i9:=zqm ((by rw [hg];exact(below_size zq0):w.heap.size≤a3));have a5:=zqm ((by rw [hg];exact(below_size zq0):w.heap.size≤a3));clear HB;have HB:=f1;clear f1 hb hbox hg;have h3:w3.cell? ⟨a3,0,none⟩=some (.slice A0_0 l0_0.length c0_0):=(blk_cell a1.out 0).trans rfl;have h4:w3.cell? ⟨a3,1,none⟩=some (.slice A0_1 l0_1.length c0_1):=(blk_cell a1.out 1).trans rfl;have h5:=blk_frozen a1.out 0;have h6:=blk_frozen a1.out 1));go_upto_region 2 with (first|((with_reducible refine gate_dst (N:=1) rfl ?_);(try(refine gate_guard (by rfl) ?_;dsimp only));refine box_event ?hg (N:=1) ?hd (cs:= #[.slice A0_0 l0_0.length c0_0,.slice A0_1 l0_1.length c0_1]) (t:=25) ?hr ?_;(case hd=>rfl);(case hg=>rfl);(case hr=> exact zq13);intro a3 hg w3 hbox hb;have f1:=zqm (below_step zq0 hb);have a1:=zqm (hbox);have i9:=zqm ((by rw [hg];exact(below_size zq0):w.heap.size≤a3));have a5:=zqm ((by rw [hg];exact(below_size zq0):w.heap.size≤a3));clear HB;have HB:=f1;clear f1 hb hbox hg;have h3:w3.cell? ⟨a3,0,none⟩=some (.slice A0_0 l0_0.length c0_0):=(blk_cell a1.out 0).trans rfl;have h4:w3.cell? ⟨a3,1,none⟩=some (.slice A0_1 l0_1.length c0_1):=(blk_cell a1.out 1).trans rfl;have h5:=blk_frozen a1.out 0;have h6:=blk_frozen a1.out 1)))
 (try simp only [Act.put,List.setIfInBounds_toArray,List.set_cons_zero,List.set_cons_succ])
 go_cut [22] (fun s4 wc=> ∃(kq:Nat) (f4:Bool),s4= .bool f4∧Aside0 (spec_LogicOk.j0 kq (l0_0.length:Int) f4 l0_0 l0_1=some r)∧Aside0 (kq≤k)∧Aside0 (wc.heap[a3]? =some (.cells #[(.slice A0_0 l0_0.length c0_0),(.slice A0_1 l0_1.length c0_1)] 25 (0,0)))∧Aside0 (Below w.heap.size w wc))
 case first=>
  have H:=m5.out;clear m5;replace H:=Option.bind_eq_some_iff.mp H;obtain⟨i7,o0,H⟩:=H;(try dsimp only at H);have A5:=zqm o0;clear o0
  by_cases c6:i7=true
  ·subst c6;rw [if_pos rfl] at H;have H':=zqm H;clear H;have r6:w3.cell? ⟨a3,0,none⟩=some (.slice A0_0 l0_0.length c0_0):=(blk_cell a1.out 0).trans rfl;have r7:w3.cell? ⟨a3,1,none⟩=some (.slice A0_1 l0_1.length c0_1):=(blk_cell a1.out 1).trans rfl;have s0:=blk_frozen a1.out 0;have s1:=blk_frozen a1.out 1
   go_wp2_with (first|(go_at_call 42;(with_reducible refine(spec_LatticeOk.calls k _ _ l0_0 true _ ?side1 ?side2 A5.out).mono ?_);(case side1=> exact zq9);(case side2=>exact a9.out);rintro e w' ⟨rfl,⟨nd,rfl⟩⟩;(try first|exact⟨rfl,_,World.drewN_drewN _ _ _⟩|exact⟨rfl,_,Eq.trans (World.drewN_drewN _ _ _) (congrArg (World.drewN _) (Nat.add_assoc _ _ _))⟩)))
   repeat(go_quiet (first|(go_at_call 42;(with_reducible refine(spec_LatticeOk.calls k _ _ l0_0 true _ ?side1 ?side2 A5.out).mono ?_);(case side1=> exact zq9);(case side2=>exact a9.out);rintro e w' ⟨rfl,⟨nd,rfl⟩⟩;(try first|exact⟨rfl,_,World.drewN_drewN _ _ _⟩|exact⟨rfl,_,Eq.trans (World.drewN_drewN _ _ _) (congrArg (World.drewN _) (Nat.add_assoc _ _ _))⟩)));try go_wp2_with (first|(go_at_call 42;(with_reducible refine(spec_LatticeOk.calls k _ _ l0_0 true _ ?side1 ?side2 A5.out).mono ?_);(case side1=> exact zq9);(case side2=>exact a9.out);rintro e w' ⟨rfl,⟨nd,rfl⟩⟩;(try first|exact⟨rfl,_,World.drewN_drewN _ _ _⟩|exact⟨rfl,_,Eq.trans (World.drewN_drewN _ _ _) (congrArg (World.drewN _) (Nat.add_assoc _ _ _))⟩))))
   go_meet
   case rel=>exact⟨_,(((l0_1.length:Int) !=(l0_0.length:Int))),zq3,H',⟨zq108⟩,⟨zqe a1.out⟩,⟨zq5⟩⟩
  ·replace c6:=Bool.eq_false_iff.mpr c6;subst c6;rw [if_neg (show¬(false=true) by decide)] at H;have H':=zqm H;clear H;have r8:w3.cell? ⟨a3,0,none⟩=some (.slice A0_0 l0_0.length c0_0):=(blk_cell a1.out 0).trans rfl;have r9:w3.cell? ⟨a3,1,none⟩=some (.slice A0_1 l0_1.length c0_1):=(blk_cell a1.out 1).trans rfl;have s2:=blk_frozen a1.out 0;have s3:=blk_frozen a1.out 1
   go_wp2_with (first|(go_at_call 42;(with_reducible refine(spec_LatticeOk.calls k _ _ l0_0 false _ ?side1 ?side2 A5.out).mono ?_);(case side1=> exact zq9);(case side2=>exact a9.out);rintro e w' ⟨rfl,⟨nd,rfl⟩⟩;(try first|exact⟨rfl,_,World.drewN_drewN _ _ _⟩|exact⟨rfl,_,Eq.trans (World.drewN_drewN _ _ _) (congrArg (World.drewN _) (Nat.add_assoc _ _ _))⟩)))
   repeat(go_quiet (first|(go_at_call 42;(with_reducible refine(spec_LatticeOk.calls k _ _ l0_0 false _ ?side1 ?side2 A5.out).mono ?_);(case side1=> exact zq9);(case side2=>exact a9.out);rintro e w' ⟨rfl,⟨nd,rfl⟩⟩;(try first|exact⟨rfl,_,World.drewN_drewN _ _ _⟩|exact⟨rfl,_,Eq.trans (World.drewN_drewN _ _ _) (congrArg (World.drewN _) (Nat.add_assoc _ _ _))⟩)));try go_wp2_with (first|(go_at_call 42;(with_reducible refine(spec_LatticeOk.calls k _ _ l0_0 false _ ?side1 ?side2 A5.out).mono ?_);(case side1=> exact zq9);(case side2=>exact a9.out);rintro e w' ⟨rfl,⟨nd,rfl⟩⟩;(try first|exact⟨rfl,_,World.drewN_drewN _ _ _⟩|exact⟨rfl,_,Eq.trans (World.drewN_drewN _ _ _) (congrArg (World.drewN _) (Nat.add_assoc _ _ _))⟩))))
   go_meet
   case rel=>exact⟨_,(true),zq3,H',⟨zq108⟩,⟨zqe a1.out⟩,⟨zq5⟩⟩
 case rest=>
  clear m5;obtain⟨kq,f4,rfl,HA,c8,a1,HB⟩:=hcut
  cases kq with
  |zero=>exact absurd HA.out (by simp [spec_LogicOk.j0])
  |succ o1=>
   have H:=HA.out;clear HA;simp only [spec_LogicOk.j0] at H
   by_cases c9:f4=true
   ·subst c9;rw [if_pos rfl] at H;obtain rfl:=Option.some.inj H
    go_wp2
    repeat(go_quiet (fail);try go_wp2)
    go_ret
    exact⟨zq6,zq5⟩
   ·replace c9:=Bool.eq_false_iff.mpr c9;subst c9;rw [if_neg (show¬(false=true) by decide)] at H;have H':=zqm H;clear H
    go_wp2
    repeat(go_quiet (fail);try go_wp2)
    go_loopg [4] o1 (fun kq v4 w'=> ∃(a4:Int),v4= .int .i64 a4∧Aside0 (spec_LogicOk.l0 kq (l0_0.length:Int) a4 l0_0 l0_1=some r)∧Aside0 (kq≤o1)∧Aside0 (w'.heap[a3]? =some (.cells #[(.slice A0_0 l0_0.length c0_0),(.slice A0_1 l0_1.length c0_1)] 25 (0,0)))∧Aside0 (Below w.heap.size w w'))
    case atStart=>exact⟨(0),zq3,H',⟨Nat.le_refl _⟩,⟨zqe a1.out⟩,⟨zq5⟩⟩
    case round=>
     clear H';obtain⟨a4,rfl,HA,d0,a1,HB⟩:=hrel
     cases gk with
     |zero=>exact absurd HA.out (by simp [spec_LogicOk.l0])
     |succ k2=>
      have H:=HA.out;clear HA;simp only [spec_LogicOk.l0] at H
      by_cases g3:a4<(l0_0.length:Int)
      ·rw [if_pos g3] at H;have n1:decide (a4<(l0_0.length:Int))=true:=decide_eq_true g3;clear g3
       by_cases j2:0≤a4
       ·rw [if_pos j2] at H;have s7:decide (0≤a4)=true:=decide_eq_true j2;clear j2
        by_cases j4:a4<(l0_1.length:Int)
        ·rw [if_pos j4] at H;have s8:decide (a4<(l0_1.length:Int))=true:=decide_eq_true j4;clear j4;replace H:=Option.bind_eq_some_iff.mp H;obtain⟨o3,l9,H⟩:=H;(try dsimp only at H);have g0:=zqm l9;clear l9
         by_cases j5:o3=true
         ·subst j5;rw [if_pos rfl] at H;have H':=zqm H;clear H;have o4:wr.cell? ⟨a3,0,none⟩=some (.slice A0_0 l0_0.length c0_0):=(blk_cell a1.out 0).trans rfl;have o5:wr.cell? ⟨a3,1,none⟩=some (.slice A0_1 l0_1.length c0_1):=(blk_cell a1.out 1).trans rfl;have q0:=blk_frozen a1.out 0;have q1:=blk_frozen a1.out 1;have d1:0≤(a4:Int):=zqo;have d8:a4<(l0_1.length:Int):=zqo;obtain⟨m8,h8,b3⟩:=Kd.at_int b2.out a4 d1 d8
          cases h8
          replace b3:=(HB.out.cell (World.block_lt_of_cell? w _ b3)).trans b3;replace d1:=eq_true d1;replace d8:=eq_true d8
          go_wp2_with (first|(go_at_call 30;(with_reducible refine(spec_l1In.calls (rd l0_1 a4) 0 (wrap64 ((l0_0.length:Int) - 1)) true _ g0.out).mono ?_);rintro e w' ⟨rfl,⟨nd,rfl⟩⟩;(try first|exact⟨rfl,_,World.drewN_drewN _ _ _⟩|exact⟨rfl,_,Eq.trans (World.drewN_drewN _ _ _) (congrArg (World.drewN _) (Nat.add_assoc _ _ _))⟩)))
          repeat(go_quiet (first|(go_at_call 30;(with_reducible refine(spec_l1In.calls (rd l0_1 a4) 0 (wrap64 ((l0_0.length:Int) - 1)) true _ g0.out).mono ?_);rintro e w' ⟨rfl,⟨nd,rfl⟩⟩;(try first|exact⟨rfl,_,World.drewN_drewN _ _ _⟩|exact⟨rfl,_,Eq.trans (World.drewN_drewN _ _ _) (congrArg (World.drewN _) (Nat.add_assoc _ _ _))⟩)));try go_wp2_with (first|(go_at_call 30;(with_reducible refine(spec_l1In.calls (rd l0_1 a4) 0 (wrap64 ((l0_0.length:Int) - 1)) true _ g0.out).mono ?_);rintro e w' ⟨rfl,⟨nd,rfl⟩⟩;(try first|exact⟨rfl,_,World.drewN_drewN _ _ _⟩|exact⟨rfl,_,Eq.trans (World.drewN_drewN _ _ _) (congrArg (World.drewN _) (Nat.add_assoc _ _ _))⟩))))
          go_roundg k2
          (case measure=>have:=c8.out;have:=d0.out;omega);case rel=>exact⟨(wrap64 (a4+1)),zq3,H',⟨by have:=c8.out;have:=d0.out;omega⟩,⟨zqe a1.out⟩,⟨zq5⟩⟩
         ·replace j5:=Bool.eq_false_iff.mpr j5;subst j5;rw [if_neg (show¬(false=true) by decide)] at H;obtain rfl:=Option.some.inj H;have o6:wr.cell? ⟨a3,0,none⟩=some (.slice A0_0 l0_0.length c0_0):=(blk_cell a1.out 0).trans rfl;have o7:wr.cell? ⟨a3,1,none⟩=some (.slice A0_1 l0_1.length c0_1):=(blk_cell a1.out 1).trans rfl;have q2:=blk_frozen a1.out 0;have q3:=blk_frozen a1.out 1;have d1:0≤(a4:Int):=zqo;have d8:a4<(l0_1.length:Int):=zqo;obtain⟨m8,h8,b3⟩:=Kd.at_int b2.out a4 d1 d8
          cases h8
          replace b3:=(HB.out.cell (World.block_lt_of_cell? w _ b3)).trans b3;replace d1:=eq_true d1;replace d8:=eq_true d8
          go_wp2_with (first|(go_at_call 30;(with_reducible refine(spec_l1In.calls (rd l0_1 a4) 0 (wrap64 ((l0_0.length:Int) - 1)) false _ g0.out).mono ?_);rintro e w' ⟨rfl,⟨nd,rfl⟩⟩;(try first|exact⟨rfl,_,World.drewN_drewN _ _ _⟩|exact⟨rfl,_,Eq.trans (World.drewN_drewN _ _ _) (congrArg (World.drewN _) (Nat.add_assoc _ _ _))⟩)))
          repeat(go_quiet (first|(go_at_call 30;(with_reducible refine(spec_l1In.calls (rd l0_1 a4) 0 (wrap64 ((l0_0.length:Int) - 1)) false _ g0.out).mono ?_);rintro e w' ⟨rfl,⟨nd,rfl⟩⟩;(try first|exact⟨rfl,_,World.drewN_drewN _ _ _⟩|exact⟨rfl,_,Eq.trans (World.drewN_drewN _ _ _) (congrArg (World.drewN _) (Nat.add_assoc _ _ _))⟩)));try go_wp2_with (first|(go_at_call 30;(with_reducible refine(spec_l1In.calls (rd l0_1 a4) 0 (wrap64 ((l0_0.length:Int) - 1)) false _ g0.out).mono ?_);rintro e w' ⟨rfl,⟨nd,rfl⟩⟩;(try first|exact⟨rfl,_,World.drewN_drewN _ _ _⟩|exact⟨rfl,_,Eq.trans (World.drewN_drewN _ _ _) (congrArg (World.drewN _) (Nat.add_assoc _ _ _))⟩))))
          go_ret
          exact⟨zq6,zq5⟩
        ·rw [if_neg j4] at H;exact absurd H (by simp)
       ·rw [if_neg j2] at H;exact absurd H (by simp)
      ·rw [if_neg g3] at H;have n1:decide (a4<(l0_0.length:Int))=false:=decide_eq_false g3;clear g3;replace H:=Option.bind_eq_some_iff.mp H;obtain⟨⟨e5,i8⟩,m1,H⟩:=H;(try dsimp only at H);have m0:=zqm m1;clear m1;have H':=zqm H;clear H;have o8:wr.cell? ⟨a3,0,none⟩=some (.slice A0_0 l0_0.length c0_0):=(blk_cell a1.out 0).trans rfl;have o9:wr.cell? ⟨a3,1,none⟩=some (.slice A0_1 l0_1.length c0_1):=(blk_cell a1.out 1).trans rfl;have q4:=blk_frozen a1.out 0;have q5:=blk_frozen a1.out 1
       go_wp2_with (first|(go_at_call 43;(with_reducible refine(spec_LeastOf.calls k2 _ _ l0_0 e5 i8 _ ?side1 ?side2 m0.out).mono ?_);(case side1=> exact zq9);(case side2=>exact a9.out);rintro e w' ⟨rfl,⟨nd,rfl⟩⟩;(try first|exact⟨rfl,_,World.drewN_drewN _ _ _⟩|exact⟨rfl,_,Eq.trans (World.drewN_drewN _ _ _) (congrArg (World.drewN _) (Nat.add_assoc _ _ _))⟩)))
       repeat(go_quiet (first|(go_at_call 43;(with_reducible refine(spec_LeastOf.calls k2 _ _ l0_0 e5 i8 _ ?side1 ?side2 m0.out).mono ?_);(case side1=> exact zq9);(case side2=>exact a9.out);rintro e w' ⟨rfl,⟨nd,rfl⟩⟩;(try first|exact⟨rfl,_,World.drewN_drewN _ _ _⟩|exact⟨rfl,_,Eq.trans (World.drewN_drewN _ _ _) (congrArg (World.drewN _) (Nat.add_assoc _ _ _))⟩)));try go_wp2_with (first|(go_at_call 43;(with_reducible refine(spec_LeastOf.calls k2 _ _ l0_0 e5 i8 _ ?side1 ?side2 m0.out).mono ?_);(case side1=> exact zq9);(case side2=>exact a9.out);rintro e w' ⟨rfl,⟨nd,rfl⟩⟩;(try first|exact⟨rfl,_,World.drewN_drewN _ _ _⟩|exact⟨rfl,_,Eq.trans (World.drewN_drewN _ _ _) (congrArg (World.drewN _) (Nat.add_assoc _ _ _))⟩))))
       go_loopg [7] k2 (fun kq v7 w'=> ∃(a0:Int),v7= .int .i64 a0∧Aside0 (spec_LogicOk.l1 kq (l0_0.length:Int) e5 a0 l0_0 l0_1=some r)∧Aside0 (kq≤k2)∧Aside0 (w'.heap[a3]? =some (.cells #[(.slice A0_0 l0_0.length c0_0),(.slice A0_1 l0_1.length c0_1)] 25 (0,0)))∧Aside0 (Below w.heap.size w w'))
       case atStart=>exact⟨(0),zq3,H',⟨Nat.le_refl _⟩,⟨zqe a1.out⟩,⟨zq5⟩⟩
       case round=>
        clear H';obtain⟨a0,rfl,HA,f0,a1,HB⟩:=hrel
        cases gk with
        |zero=>exact absurd HA.out (by simp [spec_LogicOk.l1])
        |succ k3=>
         have H:=HA.out;clear HA;simp only [spec_LogicOk.l1] at H
         by_cases g4:a0<(l0_0.length:Int)
         ·rw [if_pos g4] at H;have n2:decide (a0<(l0_0.length:Int))=true:=decide_eq_true g4;clear g4;have h7:=zqm H;clear H
          go_upto_region 13 with (fail)
          repeat(go_quiet (fail);go_upto_region 13 with (fail))
          go_cut [71] (fun s5 wc=> ∃(kq:Nat) (e6:Bool),s5= .bool e6∧Aside0 (spec_LogicOk.j3 kq (l0_0.length:Int) e5 a0 e6 l0_0 l0_1=some r)∧Aside0 (kq≤k3)∧Aside0 (wc.heap[a3]? =some (.cells #[(.slice A0_0 l0_0.length c0_0),(.slice A0_1 l0_1.length c0_1)] 25 (0,0)))∧Aside0 (Below w.heap.size w wc))
          case first=>
           have H:=h7.out;clear h7
           by_cases j6:0≤a0
           ·rw [if_pos j6] at H;have j7:decide (0≤a0)=true:=decide_eq_true j6;clear j6;(first|rw [j7]|(simp only [i64_w,i32_w];rw [j7])|skip)
            by_cases j8:a0<(l0_1.length:Int)
            ·rw [if_pos j8] at H;have s9:decide (a0<(l0_1.length:Int))=true:=decide_eq_true j8;clear j8
             by_cases j9:0≤(rd l0_1 a0)
             ·rw [if_pos j9] at H;have t0:decide (0≤(rd l0_1 a0))=true:=decide_eq_true j9;clear j9
              by_cases k0:(rd l0_1 a0)<(l0_1.length:Int)
              ·rw [if_pos k0] at H;have t1:decide ((rd l0_1 a0)<(l0_1.length:Int))=true:=decide_eq_true k0;clear k0
               by_cases f5:(rd l0_1 (rd l0_1 a0))=a0
               ·rw [if_pos f5] at H;have n3:((rd l0_1 (rd l0_1 a0))==a0)=true:=beq_iff_eq.mpr f5;have n4:((rd l0_1 (rd l0_1 a0)) !=a0)=false:=bne_eq_false_iff_eq.mpr f5;clear f5;replace H:=Option.bind_eq_some_iff.mp H;obtain⟨h0,m3,H⟩:=H;(try dsimp only at H);have m2:=zqm m3;clear m3;have H':=zqm H;clear H;have p0:wr.cell? ⟨a3,0,none⟩=some (.slice A0_0 l0_0.length c0_0):=(blk_cell a1.out 0).trans rfl;have p1:wr.cell? ⟨a3,1,none⟩=some (.slice A0_1 l0_1.length c0_1):=(blk_cell a1.out 1).trans rfl;have q6:=blk_frozen a1.out 0;have q7:=blk_frozen a1.out 1;have d2:0≤(a0:Int):=zqo;have d9:a0<(l0_1.length:Int):=zqo;obtain⟨f2,h9,b4⟩:=Kd.at_int b2.out a0 d2 d9
                cases h9
                replace b4:=(HB.out.cell (World.block_lt_of_cell? w _ b4)).trans b4;replace d2:=eq_true d2;replace d9:=eq_true d9;have d3:0≤((rd l0_1 a0):Int):=zqo;have e0:(rd l0_1 a0)<(l0_1.length:Int):=zqo;obtain⟨g6,i0,b5⟩:=Kd.at_int b2.out (rd l0_1 a0) d3 e0;obtain rfl:f2=g6:=(by injection i0);replace b5:=(HB.out.cell (World.block_lt_of_cell? w _ b5)).trans b5;replace d3:=eq_true d3;replace e0:=eq_true e0;have i5:0≤(a0:Int):=zqo;have i6:a0<(l0_1.length:Int):=zqo;obtain⟨m9,o2,e9⟩:=Kd.at_int b2.out a0 i5 i6;obtain rfl:f2=m9:=(by injection o2);replace e9:=(HB.out.cell (World.block_lt_of_cell? w _ e9)).trans e9;replace i5:=eq_true i5;replace i6:=eq_true i6
                go_wp2_with (first|(go_at_call 44;(with_reducible refine(spec_l1Meet.calls k3 _ _ l0_0 a0 (rd l0_1 a0) h0 _ ?side1 ?side2 m2.out).mono ?_);(case side1=> exact zq9);(case side2=>exact a9.out);rintro e w' ⟨rfl,⟨nd,rfl⟩⟩;(try first|exact⟨rfl,_,World.drewN_drewN _ _ _⟩|exact⟨rfl,_,Eq.trans (World.drewN_drewN _ _ _) (congrArg (World.drewN _) (Nat.add_assoc _ _ _))⟩)))
                repeat(go_quiet (first|(go_at_call 44;(with_reducible refine(spec_l1Meet.calls k3 _ _ l0_0 a0 (rd l0_1 a0) h0 _ ?side1 ?side2 m2.out).mono ?_);(case side1=> exact zq9);(case side2=>exact a9.out);rintro e w' ⟨rfl,⟨nd,rfl⟩⟩;(try first|exact⟨rfl,_,World.drewN_drewN _ _ _⟩|exact⟨rfl,_,Eq.trans (World.drewN_drewN _ _ _) (congrArg (World.drewN _) (Nat.add_assoc _ _ _))⟩)));try go_wp2_with (first|(go_at_call 44;(with_reducible refine(spec_l1Meet.calls k3 _ _ l0_0 a0 (rd l0_1 a0) h0 _ ?side1 ?side2 m2.out).mono ?_);(case side1=> exact zq9);(case side2=>exact a9.out);rintro e w' ⟨rfl,⟨nd,rfl⟩⟩;(try first|exact⟨rfl,_,World.drewN_drewN _ _ _⟩|exact⟨rfl,_,Eq.trans (World.drewN_drewN _ _ _) (congrArg (World.drewN _) (Nat.add_assoc _ _ _))⟩))))
                go_meet
                case rel=>exact⟨_,((h0 !=e5)),zq3,H',⟨zq100⟩,⟨zqe a1.out⟩,⟨zq5⟩⟩
               ·rw [if_neg f5] at H;have n3:((rd l0_1 (rd l0_1 a0))==a0)=false:=beq_eq_false_iff_ne.mpr f5;have n4:((rd l0_1 (rd l0_1 a0)) !=a0)=true:=bne_iff_ne.mpr f5;have H':=zqm H;clear H;have p2:wr.cell? ⟨a3,0,none⟩=some (.slice A0_0 l0_0.length c0_0):=(blk_cell a1.out 0).trans rfl;have p3:wr.cell? ⟨a3,1,none⟩=some (.slice A0_1 l0_1.length c0_1):=(blk_cell a1.out 1).trans rfl;have q8:=blk_frozen a1.out 0;have q9:=blk_frozen a1.out 1;have d2:0≤(a0:Int):=zqo;have d9:a0<(l0_1.length:Int):=zqo;obtain⟨f2,h9,b4⟩:=Kd.at_int b2.out a0 d2 d9
                cases h9
                replace b4:=(HB.out.cell (World.block_lt_of_cell? w _ b4)).trans b4;replace d2:=eq_true d2;replace d9:=eq_true d9;have d3:0≤((rd l0_1 a0):Int):=zqo;have e0:(rd l0_1 a0)<(l0_1.length:Int):=zqo;obtain⟨g6,i0,b5⟩:=Kd.at_int b2.out (rd l0_1 a0) d3 e0;obtain rfl:f2=g6:=(by injection i0);replace b5:=(HB.out.cell (World.block_lt_of_cell? w _ b5)).trans b5;replace d3:=eq_true d3;replace e0:=eq_true e0
                go_wp2
                repeat(go_quiet (fail);try go_wp2)
                go_meet
                case rel=>exact⟨_,(true),zq3,H',⟨zq100⟩,⟨zqe a1.out⟩,⟨zq5⟩⟩
              ·rw [if_neg k0] at H;exact absurd H (by simp)
             ·rw [if_neg j9] at H;exact absurd H (by simp)
            ·rw [if_neg j8] at H;exact absurd H (by simp)
           ·rw [if_neg j6] at H;exact absurd H (by simp)
          case rest=>
           clear h7;obtain⟨kq,e6,rfl,HA,e7,a1,HB⟩:=hcut
           cases kq with
           |zero=>exact absurd HA.out (by simp [spec_LogicOk.j3])
           |succ m7=>
            have H:=HA.out;clear HA;simp only [spec_LogicOk.j3] at H
            by_cases k1:e6=true
            ·subst k1;rw [if_pos rfl] at H;obtain rfl:=Option.some.inj H
             go_wp2
             repeat(go_quiet (fail);try go_wp2)
             go_ret
             exact⟨zq6,zq5⟩
            ·replace k1:=Bool.eq_false_iff.mpr k1;subst k1;rw [if_neg (show¬(false=true) by decide)] at H;have H':=zqm H;clear H
             go_wp2
             repeat(go_quiet (fail);try go_wp2)
             go_loopg [8] m7 (fun kq v8 w'=> ∃(a2:Int),v8= .int .i64 a2∧Aside0 (spec_LogicOk.l2 kq (l0_0.length:Int) e5 a0 a2 l0_0 l0_1=some r)∧Aside0 (kq≤m7)∧Aside0 (w'.heap[a3]? =some (.cells #[(.slice A0_0 l0_0.length c0_0),(.slice A0_1 l0_1.length c0_1)] 25 (0,0)))∧Aside0 (Below w.heap.size w w'))
             case atStart=>exact⟨(0),zq3,H',⟨Nat.le_refl _⟩,⟨zqe a1.out⟩,⟨zq5⟩⟩
             case round=>
              clear H';obtain⟨a2,rfl,HA,g2,a1,HB⟩:=hrel
              cases gk with
              |zero=>exact absurd HA.out (by simp [spec_LogicOk.l2])
              |succ k5=>
               have H:=HA.out;clear HA;simp only [spec_LogicOk.l2] at H
               by_cases g5:a2<(l0_0.length:Int)
               ·rw [if_pos g5] at H;have n5:decide (a2<(l0_0.length:Int))=true:=decide_eq_true g5;clear g5
                by_cases k4:0≤a0
                ·rw [if_pos k4] at H;have t2:decide (0≤a0)=true:=decide_eq_true k4;clear k4
                 by_cases k6:a0<(l0_0.length:Int)
                 ·rw [if_pos k6] at H;have t3:decide (a0<(l0_0.length:Int))=true:=decide_eq_true k6;clear k6
                  by_cases k7:0≤a2
                  ·rw [if_pos k7] at H;have t4:decide (0≤a2)=true:=decide_eq_true k7;clear k7
                   by_cases k8:a2<((rd_L1 l0_0 a0).length:Int)
                   ·rw [if_pos k8] at H;have t5:decide (a2<((rd_L1 l0_0 a0).length:Int))=true:=decide_eq_true k8;clear k8
                    by_cases f6:(rd (rd_L1 l0_0 a0) a2)=1
                    ·rw [if_pos f6] at H;have n6:((rd (rd_L1 l0_0 a0) a2)==1)=true:=beq_iff_eq.mpr f6;have n7:((rd (rd_L1 l0_0 a0) a2) !=1)=false:=bne_eq_false_iff_eq.mpr f6;clear f6
                     by_cases k9:a2<(l0_1.length:Int)
                     ·rw [if_pos k9] at H;have t6:decide (a2<(l0_1.length:Int))=true:=decide_eq_true k9;clear k9
                      by_cases l3:0≤(rd l0_1 a2)
                      ·rw [if_pos l3] at H;have t7:decide (0≤(rd l0_1 a2))=true:=decide_eq_true l3;clear l3
                       by_cases l4:(rd l0_1 a2)<(l0_0.length:Int)
                       ·rw [if_pos l4] at H;have t8:decide ((rd l0_1 a2)<(l0_0.length:Int))=true:=decide_eq_true l4;clear l4
                        by_cases l5:a0<(l0_1.length:Int)
                        ·rw [if_pos l5] at H;have t9:decide (a0<(l0_1.length:Int))=true:=decide_eq_true l5;clear l5
                         by_cases l6:0≤(rd l0_1 a0)
                         ·rw [if_pos l6] at H;have u0:decide (0≤(rd l0_1 a0))=true:=decide_eq_true l6;clear l6
                          by_cases l7:(rd l0_1 a0)<((rd_L1 l0_0 (rd l0_1 a2)).length:Int)
                          ·rw [if_pos l7] at H;have u1:decide ((rd l0_1 a0)<((rd_L1 l0_0 (rd l0_1 a2)).length:Int))=true:=decide_eq_true l7;clear l7
                           by_cases f7:(rd (rd_L1 l0_0 (rd l0_1 a2)) (rd l0_1 a0))=0
                           ·rw [if_pos f7] at H;have n8:((rd (rd_L1 l0_0 (rd l0_1 a2)) (rd l0_1 a0))==0)=true:=beq_iff_eq.mpr f7;have n9:((rd (rd_L1 l0_0 (rd l0_1 a2)) (rd l0_1 a0)) !=0)=false:=bne_eq_false_iff_eq.mpr f7;clear f7;obtain rfl:=Option.some.inj H;have p4:wr.cell? ⟨a3,0,none⟩=some (.slice A0_0 l0_0.length c0_0):=(blk_cell a1.out 0).trans rfl;have p5:wr.cell? ⟨a3,1,none⟩=some (.slice A0_1 l0_1.length c0_1):=(blk_cell a1.out 1).trans rfl;have r0:=blk_frozen a1.out 0;have r1:=blk_frozen a1.out 1;have c0:0≤(a0:Int):=zqo;have c2:a0<(l0_0.length:Int):=zqo;obtain⟨f3,h1,h2,f8,a7,b1,b0⟩:=at_L1 a6.out a0 c0 c2
                            cases f8
                            replace a7:=(HB.out.cell (World.block_lt_of_cell? w _ a7)).trans a7;have c4:=zqm b0;have g1:=zqm b1;clear b0 b1;replace c0:=eq_true c0;replace c2:=eq_true c2;have c1:0≤(a2:Int):=zqo;have c3:a2<((rd_L1 l0_0 a0).length:Int):=zqo;obtain⟨j1,f9,a8⟩:=Kd.at_int c4.out a2 c1 c3
                            cases f9
                            replace a8:=(HB.out.cell (World.block_lt_of_cell? w _ a8)).trans a8;replace c1:=eq_true c1;replace c3:=eq_true c3;have d4:0≤(a2:Int):=zqo;have e1:a2<(l0_1.length:Int):=zqo;obtain⟨g7,i1,b6⟩:=Kd.at_int b2.out a2 d4 e1
                            cases i1
                            replace b6:=(HB.out.cell (World.block_lt_of_cell? w _ b6)).trans b6;replace d4:=eq_true d4;replace e1:=eq_true e1;have d5:0≤((rd l0_1 a2):Int):=zqo;have e2:(rd l0_1 a2)<(l0_0.length:Int):=zqo;obtain⟨g8,m4,m6,i2,b7,c7,c5⟩:=at_L1 a6.out (rd l0_1 a2) d5 e2;obtain rfl:f3=g8:=(by injection i2);replace b7:=(HB.out.cell (World.block_lt_of_cell? w _ b7)).trans b7;have e8:=zqm c5;have l8:=zqm c7;clear c5 c7;replace d5:=eq_true d5;replace e2:=eq_true e2;have d6:0≤(a0:Int):=zqo;have e3:a0<(l0_1.length:Int):=zqo;obtain⟨g9,i3,b8⟩:=Kd.at_int b2.out a0 d6 e3;obtain rfl:g7=g9:=(by injection i3);replace b8:=(HB.out.cell (World.block_lt_of_cell? w _ b8)).trans b8;replace d6:=eq_true d6;replace e3:=eq_true e3;have d7:0≤((rd l0_1 a0):Int):=zqo;have e4:(rd l0_1 a0)<((rd_L1 l0_0 (rd l0_1 a2)).length:Int):=zqo;obtain⟨n0,i4,b9⟩:=Kd.at_int e8.out (rd l0_1 a0) d7 e4
                            cases i4
                            replace b9:=(HB.out.cell (World.block_lt_of_cell? w _ b9)).trans b9;replace d7:=eq_true d7;replace e4:=eq_true e4
                            go_wp2
                            repeat(go_quiet (fail);try go_wp2)
                            go_ret
                            exact⟨zq6,zq5⟩
                           ·rw [if_neg f7] at H;have n8:((rd (rd_L1 l0_0 (rd l0_1 a2)) (rd l0_1 a0))==0)=false:=beq_eq_false_iff_ne.mpr f7;have n9:((rd (rd_L1 l0_0 (rd l0_1 a2)) (rd l0_1 a0)) !=0)=true:=bne_iff_ne.mpr f7;have H':=zqm H;clear H;have p6:wr.cell? ⟨a3,0,none⟩=some (.slice A0_0 l0_0.length c0_0):=(blk_cell a1.out 0).trans rfl;have p7:wr.cell? ⟨a3,1,none⟩=some (.slice A0_1 l0_1.length c0_1):=(blk_cell a1.out 1).trans rfl;have r2:=blk_frozen a1.out 0;have r3:=blk_frozen a1.out 1;have c0:0≤(a0:Int):=zqo;have c2:a0<(l0_0.length:Int):=zqo;obtain⟨f3,h1,h2,f8,a7,b1,b0⟩:=at_L1 a6.out a0 c0 c2
                            cases f8
                            replace a7:=(HB.out.cell (World.block_lt_of_cell? w _ a7)).trans a7;have c4:=zqm b0;have g1:=zqm b1;clear b0 b1;replace c0:=eq_true c0;replace c2:=eq_true c2;have c1:0≤(a2:Int):=zqo;have c3:a2<((rd_L1 l0_0 a0).length:Int):=zqo;obtain⟨j1,f9,a8⟩:=Kd.at_int c4.out a2 c1 c3
                            cases f9
                            replace a8:=(HB.out.cell (World.block_lt_of_cell? w _ a8)).trans a8;replace c1:=eq_true c1;replace c3:=eq_true c3;have d4:0≤(a2:Int):=zqo;have e1:a2<(l0_1.length:Int):=zqo;obtain⟨g7,i1,b6⟩:=Kd.at_int b2.out a2 d4 e1
                            cases i1
                            replace b6:=(HB.out.cell (World.block_lt_of_cell? w _ b6)).trans b6;replace d4:=eq_true d4;replace e1:=eq_true e1;have d5:0≤((rd l0_1 a2):Int):=zqo;have e2:(rd l0_1 a2)<(l0_0.length:Int):=zqo;obtain⟨g8,m4,m6,i2,b7,c7,c5⟩:=at_L1 a6.out (rd l0_1 a2) d5 e2;obtain rfl:f3=g8:=(by injection i2);replace b7:=(HB.out.cell (World.block_lt_of_cell? w _ b7)).trans b7;have e8:=zqm c5;have l8:=zqm c7;clear c5 c7;replace d5:=eq_true d5;replace e2:=eq_true e2;have d6:0≤(a0:Int):=zqo;have e3:a0<(l0_1.length:Int):=zqo;obtain⟨g9,i3,b8⟩:=Kd.at_int b2.out a0 d6 e3;obtain rfl:g7=g9:=(by injection i3);replace b8:=(HB.out.cell (World.block_lt_of_cell? w _ b8)).trans b8;replace d6:=eq_true d6;replace e3:=eq_true e3;have d7:0≤((rd l0_1 a0):Int):=zqo;have e4:(rd l0_1 a0)<((rd_L1 l0_0 (rd l0_1 a2)).length:Int):=zqo;obtain⟨n0,i4,b9⟩:=Kd.at_int e8.out (rd l0_1 a0) d7 e4
                            cases i4
                            replace b9:=(HB.out.cell (World.block_lt_of_cell? w _ b9)).trans b9;replace d7:=eq_true d7;replace e4:=eq_true e4
                            go_wp2
                            repeat(go_quiet (fail);try go_wp2)
                            go_roundg k5
                            (case measure=> exact zq59);case rel=>exact⟨(wrap64 (a2+1)),zq3,H',⟨zq59⟩,⟨zqe a1.out⟩,⟨zq5⟩⟩
                          ·rw [if_neg l7] at H;exact absurd H (by simp)
                         ·rw [if_neg l6] at H;exact absurd H (by simp)
                        ·rw [if_neg l5] at H;exact absurd H (by simp)
                       ·rw [if_neg l4] at H;exact absurd H (by simp)
                      ·rw [if_neg l3] at H;exact absurd H (by simp)
                     ·rw [if_neg k9] at H;exact absurd H (by simp)
                    ·rw [if_neg f6] at H;have n6:((rd (rd_L1 l0_0 a0) a2)==1)=false:=beq_eq_false_iff_ne.mpr f6;have n7:((rd (rd_L1 l0_0 a0) a2) !=1)=true:=bne_iff_ne.mpr f6;have H':=zqm H;clear H;have p8:wr.cell? ⟨a3,0,none⟩=some (.slice A0_0 l0_0.length c0_0):=(blk_cell a1.out 0).trans rfl;have p9:wr.cell? ⟨a3,1,none⟩=some (.slice A0_1 l0_1.length c0_1):=(blk_cell a1.out 1).trans rfl;have r4:=blk_frozen a1.out 0;have r5:=blk_frozen a1.out 1;have c0:0≤(a0:Int):=zqo;have c2:a0<(l0_0.length:Int):=zqo;obtain⟨f3,h1,h2,f8,a7,b1,b0⟩:=at_L1 a6.out a0 c0 c2
                     cases f8
                     replace a7:=(HB.out.cell (World.block_lt_of_cell? w _ a7)).trans a7;have c4:=zqm b0;have g1:=zqm b1;clear b0 b1;replace c0:=eq_true c0;replace c2:=eq_true c2;have c1:0≤(a2:Int):=zqo;have c3:a2<((rd_L1 l0_0 a0).length:Int):=zqo;obtain⟨j1,f9,a8⟩:=Kd.at_int c4.out a2 c1 c3
                     cases f9
                     replace a8:=(HB.out.cell (World.block_lt_of_cell? w _ a8)).trans a8;replace c1:=eq_true c1;replace c3:=eq_true c3
                     go_wp2
                     repeat(go_quiet (fail);try go_wp2)
                     go_roundg k5
                     (case measure=> exact zq59);case rel=>exact⟨(wrap64 (a2+1)),zq3,H',⟨zq59⟩,⟨zqe a1.out⟩,⟨zq5⟩⟩
                   ·rw [if_neg k8] at H;exact absurd H (by simp)
                  ·rw [if_neg k7] at H;exact absurd H (by simp)
                 ·rw [if_neg k6] at H;exact absurd H (by simp)
                ·rw [if_neg k4] at H;exact absurd H (by simp)
               ·rw [if_neg g5] at H;have n5:decide (a2<(l0_0.length:Int))=false:=decide_eq_false g5;clear g5;have H':=zqm H;clear H
                go_wp2
                repeat(go_quiet (fail);try go_wp2)
                go_roundg k5
                (case measure=> exact zq59);case rel=>exact⟨(wrap64 (a0+1)),zq3,H',⟨zq59⟩,⟨zqe a1.out⟩,⟨zq5⟩⟩
         ·rw [if_neg g4] at H;have n2:decide (a0<(l0_0.length:Int))=false:=decide_eq_false g4;clear g4;obtain rfl:=Option.some.inj H
          go_wp2
          repeat(go_quiet (fail);try go_wp2)
          go_ret
          exact⟨zq6,zq5⟩
end
end Go.Proofs.Ytndbbbnofmlkdaa.Print
end
section
namespace Go.Proofs.Ytndbbbnofmlkdaa.Print
open Go.RowKit Go.Proofs.YtndbbbnofmlkdaaW.PrintWords Go.Proofs.YtndbbbnofmlkdaaW.PrintLast Go.Proofs.YtndbbbnofmlkdaaW.PrintMore
open Oml
section
def Best (n : Nat) (lb : Nat → Bool) (le : Nat → Nat → Bool) (i : Nat) (x : Int) : Prop :=
 (x= -1∧ ∀j,j<i→lb j=false)∨ ∃c:Nat,x=c∧c<i∧lb c=true∧ ∀j,j<i→lb j=true→(∀d,d<n→lb d=true→le d j=true)→j=c
theorem Best.zero {n : Nat} {lb : Nat → Bool} {le : Nat → Nat → Bool} : Best n lb le 0 (-1) := .inl ⟨rfl, fun _ h => absurd h (Nat.not_lt_zero _)⟩
theorem Best.skip {n i : Nat} {lb : Nat → Bool} {le : Nat → Nat → Bool} {x : Int} (h : Best n lb le i x) (hi : lb i = false) : Best n lb le (i + 1) x := by
 rcases h with ⟨h1,h2⟩|⟨c,h1,h2,h3,h4⟩
 ·refine .inl ⟨h1,fun j hj=>?_⟩
  rcases Nat.lt_or_ge j i with h|h
  ·exact h2 j h
  ·obtain rfl:j=i:=by omega
   exact hi
 ·refine .inr ⟨c,h1,by omega,h3,fun j hj k1 k2=>?_⟩
  rcases Nat.lt_or_ge j i with h|h
  ·exact h4 j h k1 k2
  ·obtain rfl:j=i:=by omega
   rw [hi] at k1;exact absurd k1 (by simp)
theorem Best.first {n i : Nat} {lb : Nat → Bool} {le : Nat → Nat → Bool} (h : Best n lb le i (-1)) (hi : lb i = true) : Best n lb le (i + 1) (i : Int) := by
 rcases h with ⟨h1,h2⟩|⟨c,h1,h2,h3,h4⟩
 ·refine .inr ⟨i,rfl,by omega,hi,fun j hj k1 _=>?_⟩
  rcases Nat.lt_or_ge j i with h|h
  ·rw [h2 j h] at k1;exact absurd k1 (by simp)
  ·omega
 ·omega
theorem Best.up {n i c : Nat} {lb : Nat → Bool} {le : Nat → Nat → Bool} (ha : ∀ a b, a < n → b < n → le a b = true → le b a = true → a = b) (hn : i < n) (h : Best n lb le i (c : Int)) (hi : lb i = true) (hc : le c i = true) : Best n lb le (i + 1) (i : Int) := by
 rcases h with ⟨h1,h2⟩|⟨c',h1,h2,h3,h4⟩
 ·omega
 ·obtain rfl:c=c':=by omega
  refine .inr ⟨i,rfl,by omega,hi,fun j hj k1 k2=>?_⟩
  rcases Nat.lt_or_ge j i with h|h
  ·obtain rfl:=h4 j h k1 k2
   exact ha j i (by omega) hn hc (k2 i hn hi)
  ·omega
theorem Best.stay {n i c : Nat} {lb : Nat → Bool} {le : Nat → Nat → Bool} (hn : i < n) (h : Best n lb le i (c : Int)) (hc : le c i = false) : Best n lb le (i + 1) (c : Int) := by
 rcases h with ⟨h1,h2⟩|⟨c',h1,h2,h3,h4⟩
 ·omega
 ·obtain rfl:c=c':=by omega
  refine .inr ⟨c,rfl,by omega,h3,fun j hj k1 k2=>?_⟩
  rcases Nat.lt_or_ge j i with h|h
  ·exact h4 j h k1 k2
  ·obtain rfl:j=i:=by omega
   have:=k2 c (by omega) h3
   rw [hc] at this;exact absurd this (by simp)
section
variable {U : List (List Int)} (O : Order U)
include O
theorem spec_l1Meet.ev {a b : Nat} (ha : a < U.length) (hb : b < U.length) : Ev (fun k => spec_l1Meet.f k U a b) (mI U a b) := by
 have hs:=O.small
 unfold spec_l1Meet.f
 refine Ev.loop (g:=fun k s i=>spec_l1Meet.l0 k U a b s i) U.length (Best U.length (fun i=>leB U i a && leB U i b) (leB U)) (by omega) (fun s h=>?_) (fun i s hi h=>?_) (-1) Best.zero
 ·refine Ev.succ ?_
  simp only [spec_l1Meet.l0]
  repeat(with_reducible first|refine Ev.ip ?_|refine Ev.iq ?_)
  rcases h with ⟨rfl,h⟩|⟨c,rfl,hc,h1,h2⟩
  ·have e:meetO U a b=none:=findN_none.2 fun i hi=>by
    have:(leB U i a && leB U i b)=false:=h i hi
    unfold meetP;rw [← Bool.and_assoc,this];rfl
   unfold mI
   rw [e]
   refine Ev.eq (Ev.all (n:=U.length) (g:=fun k i=>spec_l1Meet.l1 k U a b (-1) i) (fun _=>true) (go:= -1) (stop:= -1) (by omega) (fun _=>?_) fun i hi _ R hR=>?_) (by split <;> rfl)
   ·refine Ev.succ ?_
    simp only [spec_l1Meet.l1]
    repeat(with_reducible first|refine Ev.ip ?_|refine Ev.iq ?_)
    exact Ev.now _
   ·refine Ev.succ ?_
    have hrow:=O.row i hi
    have va:=O.val hi ha
    have vb:=O.val hi hb
    have hab:(leB U i a && leB U i b)=false:=h i hi
    simp only [spec_l1Meet.l1,rdL_nat,rd_nat,rd_row,hrow,va,vb]
    repeat(with_reducible first|refine Ev.ip ?_|refine Ev.iq ?_)
    cases xa:leB U i a with
    |false=>
     repeat(with_reducible first|refine Ev.ip ?_|refine Ev.iq ?_)
     exact hR rfl
    |true=>
     cases xb:leB U i b with
     |false=>
      repeat(with_reducible first|refine Ev.ip ?_|refine Ev.iq ?_)
      exact hR rfl
     |true=>rw [xa,xb] at hab;exact absurd hab (by simp)
  ·replace h1:(leB U c a && leB U c b)=true:=h1
   refine Ev.eq (Ev.all (n:=U.length) (g:=fun k i=>spec_l1Meet.l1 k U a b c i) (fun d=>!(leB U d a && leB U d b)||leB U d c) (go:=(c:Int)) (stop:= -1) (by omega) (fun _=>?_) fun i hi _ R hR=>?_) ?_
   ·refine Ev.succ ?_
    simp only [spec_l1Meet.l1]
    repeat(with_reducible first|refine Ev.ip ?_|refine Ev.iq ?_)
    exact Ev.now _
   ·refine Ev.succ ?_
    have hrow:=O.row i hi
    have va:=O.val hi ha
    have vb:=O.val hi hb
    have vc:=O.val hi hc
    simp only [spec_l1Meet.l1,rdL_nat,rd_nat,rd_row,hrow,va,vb,vc]
    repeat(with_reducible first|refine Ev.ip ?_|refine Ev.iq ?_)
    cases xa:leB U i a with
    |false=>
     repeat(with_reducible first|refine Ev.ip ?_|refine Ev.iq ?_)
     exact hR (by simp [xa])
    |true=>
     repeat(with_reducible first|refine Ev.ip ?_|refine Ev.iq ?_)
     cases xb:leB U i b with
     |false=>
      repeat(with_reducible first|refine Ev.ip ?_|refine Ev.iq ?_)
      exact hR (by simp [xa,xb])
     |true=>
      repeat(with_reducible first|refine Ev.ip ?_|refine Ev.iq ?_)
      cases xc:leB U i c with
      |false=>
       repeat(with_reducible first|refine Ev.ip ?_|refine Ev.iq ?_)
       exact Ev.now _
      |true=>
       repeat(with_reducible first|refine Ev.ip ?_|refine Ev.iq ?_)
       exact hR (by simp [xc])
   ·unfold mI
    have hP:meetP U a b c=allN U.length fun d=>!(leB U d a && leB U d b)||leB U d c:=by unfold meetP;rw [← Bool.and_assoc,h1];rfl
    rw [← hP]
    cases hp:meetP U a b c with
    |true=>rw [O.meet_eq hc hp];rfl
    |false=>
     cases e:meetO U a b with
     |none=>rfl
     |some m=>
      obtain⟨k1,k2⟩:=findN_some e
      obtain⟨q1,q2,q3⟩:=meetP_iff.1 k2
      have:=h2 m k1 (by simp [q1,q2]) fun d hd kd=>by
       rw [Bool.and_eq_true] at kd
       exact q3 d hd kd.1 kd.2
      rw [← this,k2] at hp
      exact absurd hp (by simp)
 ·have hrow:=O.row i hi
  have va:=O.val hi ha
  have vb:=O.val hi hb
  cases xa:leB U i a with
  |false=>
   refine⟨s,h.skip (by simp [xa]),fun K=>Ev.succ ?_⟩
   rw [xa] at va
   simp only [spec_l1Meet.l0,rdL_nat,rd_nat,rd_row,hrow,va,vb]
   repeat(with_reducible first|refine Ev.ip ?_|refine Ev.iq ?_)
   exact K
  |true=>
   cases xb:leB U i b with
   |false=>
    refine⟨s,h.skip (by simp [xb]),fun K=>Ev.succ ?_⟩
    rw [xa] at va;rw [xb] at vb
    simp only [spec_l1Meet.l0,rdL_nat,rd_nat,rd_row,hrow,va,vb]
    repeat(with_reducible first|refine Ev.ip ?_|refine Ev.iq ?_)
    exact K
   |true=>
    rw [xa] at va;rw [xb] at vb
    by_cases hneg:s= -1
    ·subst hneg
     refine⟨(i:Int),h.first (by simp [xa,xb]),fun K=>Ev.succ ?_⟩
     simp only [spec_l1Meet.l0,rdL_nat,rd_nat,rd_row,hrow,va,vb]
     repeat(with_reducible first|refine Ev.ip ?_|refine Ev.iq ?_)
     exact K
    ·obtain⟨c,rfl,hc⟩: ∃c:Nat,s=c∧c<i:=by
      rcases h with ⟨h1,_⟩|⟨c,h1,h2,_⟩
      ·exact absurd h1 hneg
      ·exact⟨c,h1,h2⟩
     have vc:=O.val (show c<U.length by omega) hi
     have hrowc:=O.row c (by omega)
     cases xc:leB U c i with
     |true=>
      refine⟨(i:Int),h.up O.anti hi (by simp [xa,xb]) xc,fun K=>Ev.succ ?_⟩
      rw [xc] at vc
      simp only [spec_l1Meet.l0,rdL_nat,rd_nat,rd_row,hrow,hrowc,va,vb,vc]
      repeat(with_reducible first|refine Ev.ip ?_|refine Ev.iq ?_)
      exact K
     |false=>
      refine⟨(c:Int),h.stay hi xc,fun K=>Ev.succ ?_⟩
      rw [xc] at vc
      simp only [spec_l1Meet.l0,rdL_nat,rd_nat,rd_row,hrow,hrowc,va,vb,vc]
      repeat(with_reducible first|refine Ev.ip ?_|refine Ev.iq ?_)
      exact K
theorem spec_l1Join.ev {a b : Nat} (ha : a < U.length) (hb : b < U.length) : Ev (fun k => spec_l1Join.f k U a b) (jI U a b) := by
 have hs:=O.small
 have hra:=O.row a ha
 have hrb:=O.row b hb
 unfold spec_l1Join.f
 refine Ev.loop (g:=fun k s i=>spec_l1Join.l0 k U a b s i) U.length (Best U.length (fun i=>leB U a i && leB U b i) (fun x y=>leB U y x)) (by omega) (fun s h=>?_) (fun i s hi h=>?_) (-1) Best.zero
 ·refine Ev.succ ?_
  simp only [spec_l1Join.l0]
  repeat(with_reducible first|refine Ev.ip ?_|refine Ev.iq ?_)
  rcases h with ⟨rfl,h⟩|⟨c,rfl,hc,h1,h2⟩
  ·have e:joinO U a b=none:=findN_none.2 fun i hi=>by
    have:(leB U a i && leB U b i)=false:=h i hi
    unfold joinP;rw [← Bool.and_assoc,this];rfl
   unfold jI
   rw [e]
   refine Ev.eq (Ev.all (n:=U.length) (g:=fun k i=>spec_l1Join.l1 k U a b (-1) i) (fun _=>true) (go:= -1) (stop:= -1) (by omega) (fun _=>?_) fun i hi _ R hR=>?_) (by split <;> rfl)
   ·refine Ev.succ ?_
    simp only [spec_l1Join.l1]
    repeat(with_reducible first|refine Ev.ip ?_|refine Ev.iq ?_)
    exact Ev.now _
   ·refine Ev.succ ?_
    have va:=O.val ha hi
    have vb:=O.val hb hi
    have hab:(leB U a i && leB U b i)=false:=h i hi
    simp only [spec_l1Join.l1,rdL_nat,rd_nat,rd_row,hra,hrb,va,vb]
    repeat(with_reducible first|refine Ev.ip ?_|refine Ev.iq ?_)
    cases xa:leB U a i with
    |false=>
     repeat(with_reducible first|refine Ev.ip ?_|refine Ev.iq ?_)
     exact hR rfl
    |true=>
     cases xb:leB U b i with
     |false=>
      repeat(with_reducible first|refine Ev.ip ?_|refine Ev.iq ?_)
      exact hR rfl
     |true=>rw [xa,xb] at hab;exact absurd hab (by simp)
  ·have hrc:=O.row c hc
   replace h1:(leB U a c && leB U b c)=true:=h1
   refine Ev.eq (Ev.all (n:=U.length) (g:=fun k i=>spec_l1Join.l1 k U a b c i) (fun d=>!(leB U a d && leB U b d)||leB U c d) (go:=(c:Int)) (stop:= -1) (by omega) (fun _=>?_) fun i hi _ R hR=>?_) ?_
   ·refine Ev.succ ?_
    simp only [spec_l1Join.l1]
    repeat(with_reducible first|refine Ev.ip ?_|refine Ev.iq ?_)
    exact Ev.now _
   ·refine Ev.succ ?_
    have va:=O.val ha hi
    have vb:=O.val hb hi
    have vc:=O.val hc hi
    simp only [spec_l1Join.l1,rdL_nat,rd_nat,rd_row,hra,hrb,hrc,va,vb,vc]
    repeat(with_reducible first|refine Ev.ip ?_|refine Ev.iq ?_)
    cases xa:leB U a i with
    |false=>
     repeat(with_reducible first|refine Ev.ip ?_|refine Ev.iq ?_)
     exact hR (by simp [xa])
    |true=>
     repeat(with_reducible first|refine Ev.ip ?_|refine Ev.iq ?_)
     cases xb:leB U b i with
     |false=>
      repeat(with_reducible first|refine Ev.ip ?_|refine Ev.iq ?_)
      exact hR (by simp [xa,xb])
     |true=>
      repeat(with_reducible first|refine Ev.ip ?_|refine Ev.iq ?_)
      cases xc:leB U c i with
      |false=>
       repeat(with_reducible first|refine Ev.ip ?_|refine Ev.iq ?_)
       exact Ev.now _
      |true=>
       repeat(with_reducible first|refine Ev.ip ?_|refine Ev.iq ?_)
       exact hR (by simp [xc])
   ·unfold jI
    have hP:joinP U a b c=allN U.length fun d=>!(leB U a d && leB U b d)||leB U c d:=by unfold joinP;rw [← Bool.and_assoc,h1];rfl
    rw [← hP]
    cases hp:joinP U a b c with
    |true=>rw [O.join_eq hc hp];rfl
    |false=>
     cases e:joinO U a b with
     |none=>rfl
     |some m=>
      obtain⟨k1,k2⟩:=findN_some e
      obtain⟨q1,q2,q3⟩:=joinP_iff.1 k2
      have:=h2 m k1 (by simp [q1,q2]) fun d hd kd=>by
       rw [Bool.and_eq_true] at kd
       exact q3 d hd kd.1 kd.2
      rw [← this,k2] at hp
      exact absurd hp (by simp)
 ·have hrow:=O.row i hi
  have va:=O.val ha hi
  have vb:=O.val hb hi
  cases xa:leB U a i with
  |false=>
   refine⟨s,h.skip (by simp [xa]),fun K=>Ev.succ ?_⟩
   rw [xa] at va
   simp only [spec_l1Join.l0,rdL_nat,rd_nat,rd_row,hra,hrb,va,vb]
   repeat(with_reducible first|refine Ev.ip ?_|refine Ev.iq ?_)
   exact K
  |true=>
   cases xb:leB U b i with
   |false=>
    refine⟨s,h.skip (by simp [xb]),fun K=>Ev.succ ?_⟩
    rw [xa] at va;rw [xb] at vb
    simp only [spec_l1Join.l0,rdL_nat,rd_nat,rd_row,hra,hrb,va,vb]
    repeat(with_reducible first|refine Ev.ip ?_|refine Ev.iq ?_)
    exact K
   |true=>
    rw [xa] at va;rw [xb] at vb
    by_cases hneg:s= -1
    ·subst hneg
     refine⟨(i:Int),h.first (by simp [xa,xb]),fun K=>Ev.succ ?_⟩
     simp only [spec_l1Join.l0,rdL_nat,rd_nat,rd_row,hra,hrb,va,vb]
     repeat(with_reducible first|refine Ev.ip ?_|refine Ev.iq ?_)
     exact K
    ·obtain⟨c,rfl,hc⟩: ∃c:Nat,s=c∧c<i:=by
      rcases h with ⟨h1,_⟩|⟨c,h1,h2,_⟩
      ·exact absurd h1 hneg
      ·exact⟨c,h1,h2⟩
     have vc:=O.val hi (show c<U.length by omega)
     cases xc:leB U i c with
     |true=>
      refine⟨(i:Int),h.up (fun x y hx hy e1 e2=>O.anti x y hx hy e2 e1) hi (by simp [xa,xb]) xc,fun K=>Ev.succ ?_⟩
      rw [xc] at vc
      simp only [spec_l1Join.l0,rdL_nat,rd_nat,rd_row,hrow,hra,hrb,va,vb,vc]
      repeat(with_reducible first|refine Ev.ip ?_|refine Ev.iq ?_)
      exact K
     |false=>
      refine⟨(c:Int),h.stay hi xc,fun K=>Ev.succ ?_⟩
      rw [xc] at vc
      simp only [spec_l1Join.l0,rdL_nat,rd_nat,rd_row,hrow,hra,hrb,va,vb,vc]
      repeat(with_reducible first|refine Ev.ip ?_|refine Ev.iq ?_)
      exact K
end
end
theorem l1In_eq (a b c : Int) : spec_l1In.f a b c = some (decide (b ≤ a) && decide (a ≤ c)) := by
 unfold spec_l1In.f
 by_cases h : a ≥ b
 ·rw [if_pos h]; simp [h]
 ·rw [if_neg h]; simp [h]
def rowS (U : List (List Int)) (i : Nat) : Bool := (U.getD i []).length == U.length && allN U.length fun j => at2 U i j == 0 || at2 U i j == 1
def relS (U : List (List Int)) (i : Nat) : Bool := allN U.length fun j => !(if i = j then !leB U i j else leB U i j && leB U j i) && allN U.length fun c => !(leB U i j && leB U j c) || leB U i c
theorem orderB_spec (U : List (List Int)) : orderB U = (decide (1 ≤ U.length) && (decide (U.length ≤ 12) && (allN U.length (rowS U) && allN U.length (relS U)))) := by
 rw [Bool.eq_iff_iff,orderB_iff]
 unfold rowS relS
 simp only [Bool.and_eq_true,decide_eq_true_eq,allN_iff,Bool.or_eq_true,beq_iff_eq,Bool.not_eq_true']
 constructor
 ·intro O
  refine⟨O.pos,O.small,fun i hi=>⟨O.row i hi,fun j hj=>O.bit i j hi hj⟩,fun i hi j hj=>⟨?_,fun c hc=>?_⟩⟩
  ·by_cases e:i=j
   ·rw [if_pos e,← e,O.refl i hi];rfl
   ·rw [if_neg e]
    cases k1:leB U i j
    ·rfl
    ·cases k2:leB U j i
     ·rfl
     ·exact absurd (O.anti i j hi hj k1 k2) e
  ·cases k1:leB U i j
   ·simp
   ·cases k2:leB U j c
    ·simp
    ·exact .inr (O.trans i j c hi hj hc k1 k2)
 ·rintro ⟨h1,h2,h3,h4⟩
  refine⟨h1,h2,fun a ha=>(h3 a ha).1,fun a b ha hb=>(h3 a ha).2 b hb,fun a ha=>?_,fun a b ha hb k1 k2=>?_,fun a b c ha hb hc k1 k2=>?_⟩
  ·have:=(h4 a ha a ha).1
   rw [if_pos rfl] at this
   simpa using this
  ·by_cases e:a=b
   ·exact e
   ·have:=(h4 a ha b hb).1
    rw [if_neg e,k1,k2] at this
    exact absurd this (by simp)
  ·rcases (h4 a ha b hb).2 c hc with e|e
   ·rw [k1,k2] at e;exact absurd e (by simp)
   ·exact e
theorem spec_OrderOk.ev (U : List (List Int)) : Ev (fun k => spec_OrderOk.f k U) (orderB U) := by
 rw [orderB_spec]
 unfold spec_OrderOk.f
 refine Ev.pbind (l1In_eq _ _ _) ?_
 by_cases h1:1≤U.length
 ·by_cases h2:U.length≤12
  ·rw [show (decide ((1:Int)≤U.length) && decide ((U.length:Int)≤12))=true by simp;omega]
   simp only [h1,h2,decide_true,Bool.true_and]
   repeat(with_reducible first|refine Ev.ip ?_|refine Ev.iq ?_)
   refine Ev.eq (Ev.all (n:=U.length) (g:=fun k i=>spec_OrderOk.l0 k U U.length i) (rowS U) (go:=allN U.length (relS U)) (stop:=false) (by omega) (fun hr=>?_) fun i hi _ R hR=>?_) (by cases allN U.length (rowS U) <;> rfl)
   ·have row: ∀i,i<U.length→(U.getD i []).length=U.length:=fun i hi=>by
     have:=hr i hi
     unfold rowS at this
     simp only [Bool.and_eq_true,beq_iff_eq] at this
     exact this.1
    have bit: ∀i j,i<U.length→j<U.length→at2 U i j=if leB U i j=true then 1 else 0:=fun i j hi hj=>by
     have:=hr i hi
     unfold rowS at this
     simp only [Bool.and_eq_true,beq_iff_eq,allN_iff,Bool.or_eq_true] at this
     unfold leB
     rcases this.2 j hj with e|e <;> simp [e]
    refine Ev.succ ?_
    simp only [spec_OrderOk.l0]
    repeat(with_reducible first|refine Ev.ip ?_|refine Ev.iq ?_)
    refine Ev.eq (Ev.all (n:=U.length) (g:=fun k i=>spec_OrderOk.l2 k U U.length i) (relS U) (go:=true) (stop:=false) (by omega) (fun _=>?_) fun a ha _ R hR=>?_) (by cases allN U.length _ <;> rfl)
    ·refine Ev.succ ?_
     simp only [spec_OrderOk.l2]
     repeat(with_reducible first|refine Ev.ip ?_|refine Ev.iq ?_)
     exact Ev.now _
    ·refine Ev.succ ?_
     simp only [spec_OrderOk.l2]
     repeat(with_reducible first|refine Ev.ip ?_|refine Ev.iq ?_)
     refine Ev.all (n:=U.length) (g:=fun k i=>spec_OrderOk.l3 k U U.length a i) _ (by omega) (fun h=>?_) fun b hb _ R2 hR2=>?_
     ·refine Ev.succ ?_
      simp only [spec_OrderOk.l3]
      repeat(with_reducible first|refine Ev.ip ?_|refine Ev.iq ?_)
      exact hR (allN_iff.2 h)
     ·have vab:=bit a b ha hb
      have vba:=bit b a hb ha
      have j4:Ev (fun k=>spec_OrderOk.j4 k U U.length a b (if a=b then !leB U a b else leB U a b && leB U b a)) (if(!(if a=b then !leB U a b else leB U a b && leB U b a) && allN U.length fun c=>!(leB U a b && leB U b c)||leB U a c)=true then R2 else false):=by
       refine Ev.succ ?_
       simp only [spec_OrderOk.j4]
       cases hx:(if a=b then !leB U a b else leB U a b && leB U b a) with
       |true=>
        repeat(with_reducible first|refine Ev.ip ?_|refine Ev.iq ?_)
        exact Ev.now _
       |false=>
        rw [hx,Bool.not_false,Bool.true_and] at hR2
        rw [Bool.not_false,Bool.true_and]
        repeat(with_reducible first|refine Ev.ip ?_|refine Ev.iq ?_)
        refine Ev.all (n:=U.length) (g:=fun k i=>spec_OrderOk.l4 k U U.length a b i) _ (by omega) (fun h=>?_) fun c hc _ R3 hR3=>?_
        ·refine Ev.succ ?_
         simp only [spec_OrderOk.l4]
         repeat(with_reducible first|refine Ev.ip ?_|refine Ev.iq ?_)
         exact hR2 (allN_iff.2 h)
        ·refine Ev.succ ?_
         have vbc:=bit b c hb hc
         have vac:=bit a c ha hc
         have ra:=row a ha
         have rb:=row b hb
         simp only [spec_OrderOk.l4,rdL_nat,rd_nat,rd_row,ra,rb,vab,vbc,vac]
         repeat(with_reducible first|refine Ev.ip ?_|refine Ev.iq ?_)
         cases f1:leB U a b with
         |false=>
          repeat(with_reducible first|refine Ev.ip ?_|refine Ev.iq ?_)
          exact hR3 (by simp [f1])
         |true=>
          repeat(with_reducible first|refine Ev.ip ?_|refine Ev.iq ?_)
          cases f2:leB U b c with
          |false=>
           repeat(with_reducible first|refine Ev.ip ?_|refine Ev.iq ?_)
           exact hR3 (by simp [f2])
          |true=>
           repeat(with_reducible first|refine Ev.ip ?_|refine Ev.iq ?_)
           cases f3:leB U a c with
           |false=>
            repeat(with_reducible first|refine Ev.ip ?_|refine Ev.iq ?_)
            exact Ev.now _
           |true=>
            repeat(with_reducible first|refine Ev.ip ?_|refine Ev.iq ?_)
            exact hR3 (by simp [f3])
      refine Ev.succ ?_
      have ra:=row a ha
      have rb:=row b hb
      simp only [spec_OrderOk.l3,rdL_nat,rd_nat,rd_row,ra,rb,vab,vba]
      repeat(with_reducible first|refine Ev.ip ?_|refine Ev.iq ?_)
      by_cases e:a=b
      ·rw [if_pos e] at j4 ⊢
       repeat(with_reducible first|refine Ev.ip ?_|refine Ev.iq ?_)
       cases f1:leB U a b with
       |false=>
        rw [f1] at j4
        repeat(with_reducible first|refine Ev.ip ?_|refine Ev.iq ?_)
        exact j4
       |true=>
        rw [f1] at j4
        repeat(with_reducible first|refine Ev.ip ?_|refine Ev.iq ?_)
        exact j4
      ·rw [if_neg e] at j4 ⊢
       repeat(with_reducible first|refine Ev.ip ?_|refine Ev.iq ?_)
       cases f1:leB U a b with
       |false=>
        rw [f1] at j4
        repeat(with_reducible first|refine Ev.ip ?_|refine Ev.iq ?_)
        exact j4
       |true=>
        rw [f1] at j4
        repeat(with_reducible first|refine Ev.ip ?_|refine Ev.iq ?_)
        rw [show ((if leB U b a=true then(1:Int) else 0)==1)=leB U b a by cases leB U b a <;> rfl]
        exact j4
   ·refine Ev.succ ?_
    simp only [spec_OrderOk.l0,rdL_nat]
    repeat(with_reducible first|refine Ev.ip ?_|refine Ev.iq ?_)
    by_cases e1:(U.getD i []).length=U.length
    ·repeat(with_reducible first|refine Ev.ip ?_|refine Ev.iq ?_)
     refine Ev.eq (Ev.all (n:=U.length) (g:=fun k j=>spec_OrderOk.l1 k U U.length i j) (fun j=>at2 U i j==0||at2 U i j==1) (go:=R) (stop:=false) (by omega) (fun h=>?_) fun j hj _ R2 hR2=>?_) (by unfold rowS;simp [-List.getD_eq_getElem?_getD,e1])
     ·refine Ev.succ ?_
      simp only [spec_OrderOk.l1]
      repeat(with_reducible first|refine Ev.ip ?_|refine Ev.iq ?_)
      exact hR (by unfold rowS;simp only [e1,BEq.rfl,Bool.true_and];exact allN_iff.2 h)
     ·refine Ev.succ ?_
      simp only [spec_OrderOk.l1,rdL_nat,rd_nat,rd_row,l1In_eq]
      repeat(with_reducible first|refine Ev.ip ?_|refine Ev.iq ?_)
      refine Ev.pbind rfl ?_
      have e:(decide (0≤at2 U i j) && decide (at2 U i j≤1))=(at2 U i j==0||at2 U i j==1):=by
       rw [Bool.eq_iff_iff];simp only [Bool.and_eq_true,decide_eq_true_eq,Bool.or_eq_true,beq_iff_eq];omega
      rw [e]
      cases hb:(at2 U i j==0||at2 U i j==1) with
      |true=>
       repeat(with_reducible first|refine Ev.ip ?_|refine Ev.iq ?_)
       exact hR2 hb
      |false=>
       repeat(with_reducible first|refine Ev.ip ?_|refine Ev.iq ?_)
       exact Ev.now _
    ·repeat(with_reducible first|refine Ev.ip ?_|refine Ev.iq ?_)
     exact Ev.eq (Ev.now _) (by unfold rowS;simp [-List.getD_eq_getElem?_getD,e1])
  ·rw [show (decide ((1:Int)≤U.length) && decide ((U.length:Int)≤12))=false by simp;omega]
   simp only [h1,h2,decide_true,decide_false,Bool.true_and,Bool.false_and]
   repeat(with_reducible first|refine Ev.ip ?_|refine Ev.iq ?_)
   exact Ev.now _
 ·rw [show (decide ((1:Int)≤U.length) && decide ((U.length:Int)≤12))=false by simp;omega]
  simp only [h1,decide_false,Bool.false_and]
  repeat(with_reducible first|refine Ev.ip ?_|refine Ev.iq ?_)
  exact Ev.now _
theorem meetO_comm (U : List (List Int)) (a b : Nat) : meetO U a b = meetO U b a := by
 unfold meetO
 refine findN_congr fun c _=>?_
 rw [Bool.eq_iff_iff,meetP_iff,meetP_iff]
 constructor <;> rintro ⟨h1,h2,h3⟩ <;> exact⟨h2,h1,fun d hd k1 k2=>h3 d hd k2 k1⟩
theorem joinO_comm (U : List (List Int)) (a b : Nat) : joinO U a b = joinO U b a := by
 unfold joinO
 refine findN_congr fun c _=>?_
 rw [Bool.eq_iff_iff,joinP_iff,joinP_iff]
 constructor <;> rintro ⟨h1,h2,h3⟩ <;> exact⟨h2,h1,fun d hd k1 k2=>h3 d hd k2 k1⟩
theorem lattice_half {U : List (List Int)} (O : Order U) : (allN U.length fun a => allN U.length fun b => (meetO U a b).isSome && (joinO U a b).isSome) = allN U.length fun a => allN a fun b => (meetO U a b).isSome && (joinO U a b).isSome := by
 rw [Bool.eq_iff_iff]
 simp only [allN_iff]
 constructor
 ·intro h a ha b hb
  exact h a ha b (by omega)
 ·intro h a ha b hb
  rcases Nat.lt_trichotomy b a with hlt|rfl|hlt
  ·exact h a ha b hlt
  ·rw [O.meet_eq (a:=b) (b:=b) hb (meetP_iff.2 ⟨O.refl b hb,O.refl b hb,fun d _ h _=>h⟩),O.join_eq (a:=b) (b:=b) hb (joinP_iff.2 ⟨O.refl b hb,O.refl b hb,fun d _ h _=>h⟩)]
   rfl
  ·rw [meetO_comm,joinO_comm]
   exact h b hb a hlt
theorem spec_LatticeOk.ev (U : List (List Int)) : Ev (fun k => spec_LatticeOk.f k U) (latticeB U) := by
 unfold spec_LatticeOk.f latticeB
 have ho:=spec_OrderOk.ev U
 cases hb:orderB U with
 |false=>
  rw [hb] at ho
  have fin:Ev (fun k=>spec_LatticeOk.j1 k U 0 false) false:=by
   refine Ev.succ ?_
   simp only [spec_LatticeOk.j1]
   repeat(with_reducible first|refine Ev.ip ?_|refine Ev.iq ?_)
   exact Ev.bind ho (Ev.now _)
  refine Ev.succ ?_
  simp only [spec_LatticeOk.l0]
  by_cases h0:(0:Int)<(U.length:Int)
  ·repeat(with_reducible first|refine Ev.ip ?_|refine Ev.iq ?_)
   exact Ev.bind ho fin
  ·repeat(with_reducible first|refine Ev.ip ?_|refine Ev.iq ?_)
   exact fin
 |true=>
  rw [hb] at ho
  have O:=orderB_iff.1 hb
  have hs:=O.small
  refine Ev.eq (Ev.all (n:=U.length) (g:=fun k i=>spec_LatticeOk.l0 k U i) (fun a=>allN a fun b=>(meetO U a b).isSome && (joinO U a b).isSome) (go:=true) (stop:=false) (by omega) (fun _=>?_) fun a ha _ R hR=>?_) (by rw [Bool.true_and,lattice_half O];cases allN U.length _ <;> rfl)
  ·refine Ev.succ ?_
   simp only [spec_LatticeOk.l0]
   repeat(with_reducible first|refine Ev.ip ?_|refine Ev.iq ?_)
   refine Ev.succ ?_
   simp only [spec_LatticeOk.j1]
   repeat(with_reducible first|refine Ev.ip ?_|refine Ev.iq ?_)
   exact Ev.bind ho (Ev.now _)
  ·refine Ev.succ ?_
   simp only [spec_LatticeOk.l0]
   repeat(with_reducible first|refine Ev.ip ?_|refine Ev.iq ?_)
   refine Ev.bind ho ?_
   refine Ev.succ ?_
   simp only [spec_LatticeOk.j1]
   repeat(with_reducible first|refine Ev.ip ?_|refine Ev.iq ?_)
   refine Ev.all (n:=a) (g:=fun k i=>spec_LatticeOk.l1 k U a i) _ (by omega) (fun h=>?_) fun b hb' _ R2 hR2=>?_
   ·refine Ev.succ ?_
    simp only [spec_LatticeOk.l1]
    repeat(with_reducible first|refine Ev.ip ?_|refine Ev.iq ?_)
    exact hR (allN_iff.2 h)
   ·refine Ev.succ ?_
    have hb:b<U.length:=by omega
    simp only [spec_LatticeOk.l1]
    repeat(with_reducible first|refine Ev.ip ?_|refine Ev.iq ?_)
    refine Ev.bind (spec_l1Meet.ev O ha hb) ?_
    unfold mI
    cases em:meetO U a b with
    |none=>
     refine Ev.ite_pos (by simp [optI]) ?_
     exact Ev.eq (Ev.now _) (by simp)
    |some m=>
     refine Ev.ite_neg (by have:=optI_neg (some 0);simp [optI]) ?_
     refine Ev.bind (spec_l1Join.ev O ha hb) ?_
     unfold jI
     cases ej:joinO U a b with
     |none=>
      refine Ev.ite_pos (by simp [optI]) ?_
      exact Ev.eq (Ev.now _) (by simp)
     |some j=>
      refine Ev.ite_neg (by have:=optI_neg (some 0);simp [optI]) ?_
      exact Ev.eq (hR2 (by simp [em,ej])) (by simp)
theorem spec_LeastOf.ev (U : List (List Int)) : Ev (fun k => spec_LeastOf.f k U) (if orderB U = true then (optI (leastO U), (leastO U).isSome) else (-1, false)) := by
 unfold spec_LeastOf.f
 have ho:=spec_OrderOk.ev U
 cases hb:orderB U with
 |false=>
  rw [hb] at ho
  have fin:Ev (fun k=>spec_LeastOf.j1 k U 0 false) (-1,false):=by
   refine Ev.succ ?_
   simp only [spec_LeastOf.j1]
   repeat(with_reducible first|refine Ev.ip ?_|refine Ev.iq ?_)
   exact Ev.now _
  repeat(with_reducible first|refine Ev.ip ?_|refine Ev.iq ?_)
  refine Ev.succ ?_
  simp only [spec_LeastOf.l0]
  by_cases h0:(0:Int)<(U.length:Int)
  ·repeat(with_reducible first|refine Ev.ip ?_|refine Ev.iq ?_)
   exact Ev.eq (Ev.bind ho fin) (by simp)
  ·repeat(with_reducible first|refine Ev.ip ?_|refine Ev.iq ?_)
   exact Ev.eq fin (by simp)
 |true=>
  rw [hb] at ho
  have O:=orderB_iff.1 hb
  have hs:=O.small
  refine Ev.eq (Ev.find (n:=U.length) (g:=fun k i=>spec_LeastOf.l0 k U i) (fun a=>allN U.length fun b=>leB U a b) (none':=(-1,false)) (some':=fun i=>((i:Int),true)) (by omega) (fun _=>?_) fun a ha _ R hR=>?_) (by rw [if_pos rfl];unfold leastO;cases findN U.length _ <;> rfl)
  ·refine Ev.succ ?_
   simp only [spec_LeastOf.l0]
   repeat(with_reducible first|refine Ev.ip ?_|refine Ev.iq ?_)
   refine Ev.succ ?_
   simp only [spec_LeastOf.j1]
   repeat(with_reducible first|refine Ev.ip ?_|refine Ev.iq ?_)
   exact Ev.now _
  ·refine Ev.succ ?_
   simp only [spec_LeastOf.l0]
   repeat(with_reducible first|refine Ev.ip ?_|refine Ev.iq ?_)
   refine Ev.bind ho ?_
   refine Ev.succ ?_
   simp only [spec_LeastOf.j1]
   repeat(with_reducible first|refine Ev.ip ?_|refine Ev.iq ?_)
   have key: ∀d i,i+d=U.length→ ∀fl:Bool,(fl && allFrom U.length (fun b=>leB U a b) i)=allN U.length (fun b=>leB U a b)→Ev (fun k=>spec_LeastOf.l1 k U a fl i) (if allN U.length (fun b=>leB U a b)=true then((a:Int),true) else R):=by
    intro d
    induction d with
    |zero=>
     intro i hi fl hfl
     refine Ev.succ ?_
     simp only [spec_LeastOf.l1]
     rw [allFrom_ge (by omega),Bool.and_true] at hfl
     rw [hfl]
     repeat(with_reducible first|refine Ev.ip ?_|refine Ev.iq ?_)
     cases ha':allN U.length (fun b=>leB U a b) with
     |true=>
      repeat(with_reducible first|refine Ev.ip ?_|refine Ev.iq ?_)
      exact Ev.now _
     |false=>
      repeat(with_reducible first|refine Ev.ip ?_|refine Ev.iq ?_)
      exact hR ha'
    |succ d ih=>
     intro i hi fl hfl
     rw [allFrom_lt (by omega)] at hfl
     refine Ev.succ ?_
     have rl:=O.row a ha
     simp only [spec_LeastOf.l1,rdL_nat,rd_nat,rd_row,wrap_nat (show i<4611686018427387904 by omega),rl]
     repeat(with_reducible first|refine Ev.ip ?_|refine Ev.iq ?_)
     cases fl with
     |true=>
      repeat(with_reducible first|refine Ev.ip ?_|refine Ev.iq ?_)
      exact ih (i+1) (by omega) _ hfl
     |false=>
      repeat(with_reducible first|refine Ev.ip ?_|refine Ev.iq ?_)
      exact ih (i+1) (by omega) _ (by rw [← hfl];simp)
   exact key U.length 0 (by omega) true (by rw [allFrom_zero,Bool.true_and])
def negS (U : List (List Int)) (N : List Int) (a : Nat) : Bool :=
 at1 N (at1 N a).toNat==(a:Int) && (mI U a (at1 N a).toNat==optI (leastO U) && allN U.length fun b=>!leB U a b||leB U (at1 N b).toNat (at1 N a).toNat)
theorem logicB_spec (U : List (List Int)) (N : List Int) : logicB U N = (latticeB U && (N.length == U.length && (allN U.length (fun a => decide (0 ≤ at1 N a) && decide (at1 N a < U.length)) && allN U.length (negS U N)))) := by
 unfold logicB negS mI
 have e: ∀x y:Option Nat,(optI x==optI y)=(x==y):=by
  intro x y
  rw [Bool.eq_iff_iff,beq_iff_eq,beq_iff_eq]
  exact⟨optI_inj,fun h=>by rw [h]⟩
 simp only [e]
theorem spec_LogicOk.ev (U : List (List Int)) (N : List Int) : Ev (fun k => spec_LogicOk.f k U N) (logicB U N) := by
 rw [logicB_spec]
 unfold spec_LogicOk.f
 refine Ev.bind (spec_LatticeOk.ev U) ?_
 have jf:Ev (fun k=>spec_LogicOk.j0 k U.length true U N) false:=by
  refine Ev.succ ?_
  simp only [spec_LogicOk.j0]
  repeat(with_reducible first|refine Ev.ip ?_|refine Ev.iq ?_)
  exact Ev.now _
 cases hl:latticeB U with
 |false=>
  repeat(with_reducible first|refine Ev.ip ?_|refine Ev.iq ?_)
  exact Ev.eq jf (by simp)
 |true=>
  have O:=latticeB_order hl
  have hs:=O.small
  repeat(with_reducible first|refine Ev.ip ?_|refine Ev.iq ?_)
  by_cases hn:N.length=U.length
  ·rw [show ((N.length:Int) !=(U.length:Int))=false by rw [hn];simp,show (N.length==U.length)=true by simp [hn]]
   simp only [Bool.true_and]
   refine Ev.succ ?_
   simp only [spec_LogicOk.j0]
   repeat(with_reducible first|refine Ev.ip ?_|refine Ev.iq ?_)
   refine Ev.eq (Ev.all (n:=U.length) (g:=fun k i=>spec_LogicOk.l0 k U.length i U N) (fun a=>decide (0≤at1 N a) && decide (at1 N a<U.length)) (go:=allN U.length (negS U N)) (stop:=false) (by omega) (fun hr=>?_) fun i hi _ R hR=>?_) (by cases allN U.length fun a=>decide (0≤at1 N a) && decide (at1 N a<U.length) <;> rfl)
   ·have ran: ∀a,a<U.length→ ∃m:Nat,at1 N a=m∧m<U.length:=fun a ha=>by
     have:=hr a ha
     simp only [Bool.and_eq_true,decide_eq_true_eq] at this
     exact⟨(at1 N a).toNat,by omega,by omega⟩
    refine Ev.succ ?_
    simp only [spec_LogicOk.l0]
    repeat(with_reducible first|refine Ev.ip ?_|refine Ev.iq ?_)
    refine Ev.bind (spec_LeastOf.ev U) ?_
    rw [if_pos (orderB_iff.2 O)]
    refine Ev.eq (Ev.all (n:=U.length) (g:=fun k i=>spec_LogicOk.l1 k U.length (optI (leastO U)) i U N) (negS U N) (go:=true) (stop:=false) (by omega) (fun _=>?_) fun a ha _ R hR=>?_) (by cases allN U.length (negS U N) <;> rfl)
    ·refine Ev.succ ?_
     simp only [spec_LogicOk.l1]
     repeat(with_reducible first|refine Ev.ip ?_|refine Ev.iq ?_)
     exact Ev.now _
    ·obtain⟨m,hm,hmn⟩:=ran a ha
     have fal:Ev (fun k=>spec_LogicOk.j3 k U.length (optI (leastO U)) a true U N) false:=by
      refine Ev.succ ?_
      simp only [spec_LogicOk.j3]
      repeat(with_reducible first|refine Ev.ip ?_|refine Ev.iq ?_)
      exact Ev.now _
     refine Ev.succ ?_
     simp only [spec_LogicOk.l1,rd_nat,hm]
     have hneg:negS U N a=(at1 N m==(a:Int) && (mI U a m==optI (leastO U) && allN U.length fun b=>!leB U a b||leB U (at1 N b).toNat m)):=by unfold negS;rw [hm,Int.toNat_natCast]
     repeat(with_reducible first|refine Ev.ip ?_|refine Ev.iq ?_)
     by_cases e1:at1 N m=a
     ·repeat(with_reducible first|refine Ev.ip ?_|refine Ev.iq ?_)
      refine Ev.bind (spec_l1Meet.ev O ha hmn) ?_
      by_cases e2:mI U a m=optI (leastO U)
      ·rw [show (mI U a m !=optI (leastO U))=false by simp [e2]]
       refine Ev.succ ?_
       simp only [spec_LogicOk.j3]
       repeat(with_reducible first|refine Ev.ip ?_|refine Ev.iq ?_)
       have hneg2:negS U N a=allN U.length fun b=>!leB U a b||leB U (at1 N b).toNat m:=by rw [hneg,show (at1 N m==(a:Int))=true by simp [e1],show (mI U a m==optI (leastO U))=true by simp [e2],Bool.true_and,Bool.true_and]
       rw [hneg2]
       refine Ev.all (n:=U.length) (g:=fun k i=>spec_LogicOk.l2 k U.length (optI (leastO U)) a i U N) _ (by omega) (fun h=>?_) fun b hb _ R3 hR3=>?_
       ·refine Ev.succ ?_
        simp only [spec_LogicOk.l2]
        repeat(with_reducible first|refine Ev.ip ?_|refine Ev.iq ?_)
        exact hR (by rw [hneg2];exact allN_iff.2 h)
       ·obtain⟨q,hq,hqn⟩:=ran b hb
        have vab:=O.val ha hb
        have vqm:=O.val hqn hmn
        have ra:=O.row a ha
        have rq:=O.row q hqn
        refine Ev.succ ?_
        simp only [spec_LogicOk.l2,rdL_nat,rd_nat,rd_row,hq,hm,ra,rq,vab,vqm,Int.toNat_natCast]
        rw [hq,Int.toNat_natCast] at hR3
        repeat(with_reducible first|refine Ev.ip ?_|refine Ev.iq ?_)
        cases f1:leB U a b with
        |false=>
         repeat(with_reducible first|refine Ev.ip ?_|refine Ev.iq ?_)
         exact hR3 (by simp [f1])
        |true=>
         repeat(with_reducible first|refine Ev.ip ?_|refine Ev.iq ?_)
         cases f2:leB U q m with
         |false=>
          repeat(with_reducible first|refine Ev.ip ?_|refine Ev.iq ?_)
          exact Ev.now _
         |true=>
          repeat(with_reducible first|refine Ev.ip ?_|refine Ev.iq ?_)
          exact hR3 (by simp [f2])
      ·rw [show (mI U a m !=optI (leastO U))=true by simp [e2]]
       exact Ev.eq fal (by rw [hneg];simp [e2])
     ·repeat(with_reducible first|refine Ev.ip ?_|refine Ev.iq ?_)
      exact Ev.eq fal (by rw [hneg];simp [e1])
   ·refine Ev.succ ?_
    simp only [spec_LogicOk.l0,rd_nat,l1In_eq]
    repeat(with_reducible first|refine Ev.ip ?_|refine Ev.iq ?_)
    refine Ev.pbind rfl ?_
    have e:(decide (0≤at1 N i) && decide (at1 N i≤wrap64 ((U.length:Int) - 1)))=(decide (0≤at1 N i) && decide (at1 N i<U.length)):=by
     rw [wrap_small (by omega) (by omega)]
     congr 1
     rw [decide_eq_decide];omega
    rw [e]
    cases hb:(decide (0≤at1 N i) && decide (at1 N i<U.length)) with
    |true=>
     repeat(with_reducible first|refine Ev.ip ?_|refine Ev.iq ?_)
     exact hR hb
    |false=>
     repeat(with_reducible first|refine Ev.ip ?_|refine Ev.iq ?_)
     exact Ev.now _
  ·rw [show ((N.length:Int) !=(U.length:Int))=true by rw [bne_iff_ne];omega,show (N.length==U.length)=false by simp [hn]]
   exact Ev.eq jf (by simp)
end Go.Proofs.Ytndbbbnofmlkdaa.Print
end
section
namespace Go.Proofs.Ytndbbbnofmlkdaa.Print
open Go.RowKit Go.Proofs.YtndbbbnofmlkdaaW.PrintWords Go.Proofs.YtndbbbnofmlkdaaW.PrintLast Go.Proofs.YtndbbbnofmlkdaaW.PrintMore
section
attribute [local go_sem] max2_int min2_int max_two min_two max_three min_three max_four min_four
def laws_eqLogicS.l0 : Nat → List (S25) → List (S25) → Int → Option (Bool)
 | 0, _, _, _ => none
 | k + 1, x0, x1, x5 => if x5 < (x0.length : Int) then (if 0 ≤ x5 then (if x5 < (x1.length : Int) then ((laws_eqLogic.f k ((rd_T25 x0 x5).f0) ((rd_T25 x0 x5).f1) ((rd_T25 x1 x5).f0) ((rd_T25 x1 x5).f1)).bind fun t148 => (if t148 = true then (laws_eqLogicS.l0 k x0 x1 (wrap64 (x5 + 1))) else (some false))) else (none)) else (none)) else (some true)
def laws_eqLogicS.f (k : Nat) (l0 : List (S25)) (l1 : List (S25)) : Option (Bool) := if (l0.length : Int) = (l1.length : Int) then (laws_eqLogicS.l0 k l0 l1 0) else (some false)
def laws_eqLogicS.T6 : Bool × List (List Nat × List Nat) := (true, [([], []), ([], []), ([0, 1], [0, 1]), ([2], [2]), ([], []), ([], []), ([4, 5], [4, 5]), ([6], [6]), ([3, 7], [3, 7]), ([8], [8])])
def laws_eqLogicS.B6 : List Nat := [0, 0, 3, 7, 0, 0, 48, 112, 255, 511]
theorem laws_eqLogicS.tab6 : rtab .any (opsOf Try.f17 6) = laws_eqLogicS.T6 := by kernel_rfl
theorem laws_eqLogicS.bits6 : waitsOk laws_eqLogicS.T6.2 laws_eqLogicS.B6 = true := by kernel_rfl
set_option maxHeartbeats 8000000 in
set_option maxRecDepth 100000 in
theorem laws_eqLogicS.calls (k : Nat) (A0 : Option Addr) (c0 : Nat) (l0 : List (S25)) (A1 : Option Addr) (c1 : Nat) (l1 : List (S25)) (r : Bool) (w : World) (hr0 : Kd.C k25 w A0 l0.length l0) (hc0 : l0.length ≤ c0) (hr1 : Kd.C k25 w A1 l1.length l1) (hc1 : l1.length ≤ c1) (h : laws_eqLogicS.f k l0 l1 = some r) :
  Calls Try.prog 17 #[.slice A0 l0.length c0, .slice A1 l1.length c1] w fun e w' => e = .returned (.bool r) ∧ Below w.heap.size w w' := by
 have hu25:=Try.underlying25;have e9:=zqm hr0;have f7:=zqm hc0;clear hr0 hc0;have f2:=zqm hr1;have f8:=zqm hc1;clear hr1 hc1;have HB:=zqm (Below.refl w.heap.size w);have H:(if(l0.length:Int)=(l1.length:Int) then(laws_eqLogicS.l0 k l0 l1 0) else(some false))=some r:=h;clear h
 by_cases c3:(l0.length:Int)=(l1.length:Int)
 ·rw [if_pos c3] at H;have e4:((l0.length:Int)==(l1.length:Int))=true:=beq_iff_eq.mpr c3;have e5:((l0.length:Int) !=(l1.length:Int))=false:=bne_eq_false_iff_eq.mpr c3;(have e6:(l0.length==l1.length)=true:=by first|simpa using c3|(simp at c3 ⊢;omega));clear c3;have H':=zqm H;clear H
  go_enter Try.func17,Try.ntmps17
  go_wp2
  go_loopg [5] k (fun kq v5 w'=> ∃(a0:Int),v5= .int .i64 a0∧Aside0 (laws_eqLogicS.l0 kq l0 l1 a0=some r)∧Aside0 (kq≤k)∧Aside0 (Below w.heap.size w w'))
  case atStart=>exact⟨(0),zq3,H',⟨Nat.le_refl _⟩,⟨zq0⟩⟩
  case round=>
   clear H';(try clear c1);(try clear p2);(try clear c3);(try clear e4);(try clear e5);(try clear e6);obtain⟨a0,rfl,HA,e8,HB⟩:=hrel
   cases gk with
   |zero=>exact absurd HA.out (by simp [laws_eqLogicS.l0])
   |succ k1=>
    have H:=HA.out;clear HA;simp only [laws_eqLogicS.l0] at H
    by_cases c4:a0<(l0.length:Int)
    ·rw [if_pos c4] at H;have f3:decide (a0<(l0.length:Int))=true:=decide_eq_true c4;clear c4
     by_cases c5:0≤a0
     ·rw [if_pos c5] at H;have f5:decide (0≤a0)=true:=decide_eq_true c5;clear c5
      by_cases c6:a0<(l1.length:Int)
      ·rw [if_pos c6] at H;have f6:decide (a0<(l1.length:Int))=true:=decide_eq_true c6;clear c6;replace H:=Option.bind_eq_some_iff.mp H;obtain⟨f4,e7,H⟩:=H;(try dsimp only at H);have A7:=zqm e7;clear e7
       by_cases c8:f4=true
       ·subst c8;rw [if_pos rfl] at H;have H':=zqm H;clear H;(try go_wp2);replace HB:=zqm (below_drew1 HB.out);have d4:0≤(a0:Int):=zqo;have d6:a0<(l0.length:Int):=zqo;obtain⟨b7,b9,d0,c2,d1,e2,a1,a2,b3,a9,b4,b0⟩:=at_T25 e9.out a0 d4 d6;have hw146_1:=a2;have hw146_0:=a1
        cases e2
        replace a1:=(HB.out.cell (World.block_lt_of_cell? w _ a1)).trans a1;replace a2:=(HB.out.cell (World.block_lt_of_cell? w _ a2)).trans a2;have a5:=zqm a9;have d8:=zqm b3;clear a9 b3;have a6:=zqm b0;have d9:=zqm b4;clear b0 b4;replace d4:=eq_true d4;replace d6:=eq_true d6;have d5:0≤(a0:Int):=zqo;have d7:a0<(l1.length:Int):=zqo;obtain⟨b8,c7,d2,c9,d3,e3,a3,a4,b5,b1,b6,b2⟩:=at_T25 f2.out a0 d5 d7;have hw147_1:=a4;have hw147_0:=a3
        cases e3
        replace a3:=(HB.out.cell (World.block_lt_of_cell? w _ a3)).trans a3;replace a4:=(HB.out.cell (World.block_lt_of_cell? w _ a4)).trans a4;have a7:=zqm b1;have e0:=zqm b5;clear b1 b5;have a8:=zqm b2;have e1:=zqm b6;clear b2 b6;replace d5:=eq_true d5;replace d7:=eq_true d7;refine start_ (n:=10) (S:=fun w'=>w'.cell? (b7.add ((a0).toNat*2))=some (.slice b9 ((rd_T25 l0 a0).f0).length d0)∧w'.cell? ⟨(b7.add ((a0).toNat*2)).block,(b7.add ((a0).toNat*2)).off+1,none⟩=some (.slice c2 ((rd_T25 l0 a0).f1).length d1)∧w'.cell? (b8.add ((a0).toNat*2))=some (.slice c7 ((rd_T25 l1 a0).f0).length d2)∧w'.cell? ⟨(b8.add ((a0).toNat*2)).block,(b8.add ((a0).toNat*2)).off+1,none⟩=some (.slice c9 ((rd_T25 l1 a0).f1).length d3)) (ds:= []) (zqb 10 0) zqk rfl rfl ⟨((HB.out.cell (World.block_lt_of_cell? w _ hw146_0)).trans hw146_0),((HB.out.cell (World.block_lt_of_cell? w _ hw146_1)).trans hw146_1),((HB.out.cell (World.block_lt_of_cell? w _ hw147_0)).trans hw147_0),((HB.out.cell (World.block_lt_of_cell? w _ hw147_1)).trans hw147_1)⟩ (fun hHeld=>?_);refine with_tabW laws_eqLogicS.tab6 laws_eqLogicS.bits6 (fun HT_ HW_=>?_);generalize wr.drew=w9 at HB a5 a6 a7 a8 a1 a2 a3 a4 hHeld ⊢;refine zqp 0 17 (zqb 10 1) HT_ ?_;refine zqp 1 18 (zqb 10 3) HT_ ?_;refine zqp 2 19 (zqb 10 7) HT_ ?_;refine zqp 4 21 (zqb 10 23) HT_ ?_;refine zqp 5 22 (zqb 10 55) HT_ ?_;refine zqp 6 23 (zqb 10 119) HT_ ?_;refine zqw 3 20 (zqb 10 127) HT_ HW_ hHeld ?_;refine zqw 7 24 (zqb 10 255) HT_ HW_ hHeld ?_;refine one_ (i:=8) (N:=some 25) (zqb 10 511) rfl rfl (one_of HT_.out zqk) (by decide) (fun K hK=>?_);refine goes_ Try.func16 zqk rfl #[.agg #[.slice b9 ((rd_T25 l0 a0).f0).length d0,.slice c2 ((rd_T25 l0 a0).f1).length d1],.agg #[.slice c7 ((rd_T25 l1 a0).f0).length d2,.slice c9 ((rd_T25 l1 a0).f1).length d3]] (by rfl) rfl rfl zq1 ?_;(with_reducible refine(laws_eqLogic.calls k1 _ _ ((rd_T25 l0 a0).f0) _ _ ((rd_T25 l0 a0).f1) _ _ ((rd_T25 l1 a0).f0) _ _ ((rd_T25 l1 a0).f1) true _ ?side1 ?side2 ?side3 ?side4 ?side5 ?side6 ?side7 ?side8 A7.out).mono ?_);(case side1=> exact zq62);(case side2=>exact d8.out);(case side3=> exact zq9);(case side4=>exact d9.out);(case side5=> exact zq63);(case side6=>exact e0.out);(case side7=> exact zq23);(case side8=>exact e1.out);rintro e f9 ⟨rfl,hb⟩;refine⟨_,rfl,?_⟩;replace HB:=zqm (below_step zq0 hb);clear hb;refine hK.out _ _ ⟨((HB.out.cell (World.block_lt_of_cell? w _ hw146_0)).trans hw146_0),((HB.out.cell (World.block_lt_of_cell? w _ hw146_1)).trans hw146_1),((HB.out.cell (World.block_lt_of_cell? w _ hw147_0)).trans hw147_0),((HB.out.cell (World.block_lt_of_cell? w _ hw147_1)).trans hw147_1)⟩ (fun hHeld=>?_);clear hK K;refine norm_ (a':=?_) ?_ ?_;rotate_left
        ·show Act.put _ (some 25) _=_;exact zqs
        refine zqp 9 26 (zqb 10 1023) HT_ ?_;refine done_ (done_of HT_.out zqk) ?_;try go_wp2
        go_roundg k1
        (case measure=>have:=e8.out;omega);case rel=>exact⟨(wrap64 (a0+1)),zq3,H',⟨by have:=e8.out;omega⟩,⟨zq0⟩⟩
       ·replace c8:=Bool.eq_false_iff.mpr c8;subst c8;rw [if_neg (show¬(false=true) by decide)] at H;obtain rfl:=Option.some.inj H;(try go_wp2);replace HB:=zqm (below_drew1 HB.out);have d4:0≤(a0:Int):=zqo;have d6:a0<(l0.length:Int):=zqo;obtain⟨b7,b9,d0,c2,d1,e2,a1,a2,b3,a9,b4,b0⟩:=at_T25 e9.out a0 d4 d6;have hw146_1:=a2;have hw146_0:=a1
        cases e2
        replace a1:=(HB.out.cell (World.block_lt_of_cell? w _ a1)).trans a1;replace a2:=(HB.out.cell (World.block_lt_of_cell? w _ a2)).trans a2;have a5:=zqm a9;have d8:=zqm b3;clear a9 b3;have a6:=zqm b0;have d9:=zqm b4;clear b0 b4;replace d4:=eq_true d4;replace d6:=eq_true d6;have d5:0≤(a0:Int):=zqo;have d7:a0<(l1.length:Int):=zqo;obtain⟨b8,c7,d2,c9,d3,e3,a3,a4,b5,b1,b6,b2⟩:=at_T25 f2.out a0 d5 d7;have hw147_1:=a4;have hw147_0:=a3
        cases e3
        replace a3:=(HB.out.cell (World.block_lt_of_cell? w _ a3)).trans a3;replace a4:=(HB.out.cell (World.block_lt_of_cell? w _ a4)).trans a4;have a7:=zqm b1;have e0:=zqm b5;clear b1 b5;have a8:=zqm b2;have e1:=zqm b6;clear b2 b6;replace d5:=eq_true d5;replace d7:=eq_true d7;refine start_ (n:=10) (S:=fun w'=>w'.cell? (b7.add ((a0).toNat*2))=some (.slice b9 ((rd_T25 l0 a0).f0).length d0)∧w'.cell? ⟨(b7.add ((a0).toNat*2)).block,(b7.add ((a0).toNat*2)).off+1,none⟩=some (.slice c2 ((rd_T25 l0 a0).f1).length d1)∧w'.cell? (b8.add ((a0).toNat*2))=some (.slice c7 ((rd_T25 l1 a0).f0).length d2)∧w'.cell? ⟨(b8.add ((a0).toNat*2)).block,(b8.add ((a0).toNat*2)).off+1,none⟩=some (.slice c9 ((rd_T25 l1 a0).f1).length d3)) (ds:= []) (zqb 10 0) zqk rfl rfl ⟨((HB.out.cell (World.block_lt_of_cell? w _ hw146_0)).trans hw146_0),((HB.out.cell (World.block_lt_of_cell? w _ hw146_1)).trans hw146_1),((HB.out.cell (World.block_lt_of_cell? w _ hw147_0)).trans hw147_0),((HB.out.cell (World.block_lt_of_cell? w _ hw147_1)).trans hw147_1)⟩ (fun hHeld=>?_);refine with_tabW laws_eqLogicS.tab6 laws_eqLogicS.bits6 (fun HT_ HW_=>?_);generalize wr.drew=g0 at HB a5 a6 a7 a8 a1 a2 a3 a4 hHeld ⊢;refine zqp 0 17 (zqb 10 1) HT_ ?_;refine zqp 1 18 (zqb 10 3) HT_ ?_;refine zqp 2 19 (zqb 10 7) HT_ ?_;refine zqp 4 21 (zqb 10 23) HT_ ?_;refine zqp 5 22 (zqb 10 55) HT_ ?_;refine zqp 6 23 (zqb 10 119) HT_ ?_;refine zqw 3 20 (zqb 10 127) HT_ HW_ hHeld ?_;refine zqw 7 24 (zqb 10 255) HT_ HW_ hHeld ?_;refine one_ (i:=8) (N:=some 25) (zqb 10 511) rfl rfl (one_of HT_.out zqk) (by decide) (fun K hK=>?_);refine goes_ Try.func16 zqk rfl #[.agg #[.slice b9 ((rd_T25 l0 a0).f0).length d0,.slice c2 ((rd_T25 l0 a0).f1).length d1],.agg #[.slice c7 ((rd_T25 l1 a0).f0).length d2,.slice c9 ((rd_T25 l1 a0).f1).length d3]] (by rfl) rfl rfl zq1 ?_;(with_reducible refine(laws_eqLogic.calls k1 _ _ ((rd_T25 l0 a0).f0) _ _ ((rd_T25 l0 a0).f1) _ _ ((rd_T25 l1 a0).f0) _ _ ((rd_T25 l1 a0).f1) false _ ?side1 ?side2 ?side3 ?side4 ?side5 ?side6 ?side7 ?side8 A7.out).mono ?_);(case side1=> exact zq62);(case side2=>exact d8.out);(case side3=> exact zq9);(case side4=>exact d9.out);(case side5=> exact zq63);(case side6=>exact e0.out);(case side7=> exact zq23);(case side8=>exact e1.out);rintro e g1 ⟨rfl,hb⟩;refine⟨_,rfl,?_⟩;replace HB:=zqm (below_step zq0 hb);clear hb;refine hK.out _ _ ⟨((HB.out.cell (World.block_lt_of_cell? w _ hw146_0)).trans hw146_0),((HB.out.cell (World.block_lt_of_cell? w _ hw146_1)).trans hw146_1),((HB.out.cell (World.block_lt_of_cell? w _ hw147_0)).trans hw147_0),((HB.out.cell (World.block_lt_of_cell? w _ hw147_1)).trans hw147_1)⟩ (fun hHeld=>?_);clear hK K;refine norm_ (a':=?_) ?_ ?_;rotate_left
        ·show Act.put _ (some 25) _=_;exact zqs
        refine zqp 9 26 (zqb 10 1023) HT_ ?_;refine done_ (done_of HT_.out zqk) ?_;try go_wp2
        go_ret
        exact⟨zq6,zq0⟩
      ·rw [if_neg c6] at H;exact absurd H (by simp)
     ·rw [if_neg c5] at H;exact absurd H (by simp)
    ·rw [if_neg c4] at H;have f3:decide (a0<(l0.length:Int))=false:=decide_eq_false c4;clear c4;obtain rfl:=Option.some.inj H
     go_wp2
     go_ret
     exact⟨zq6,zq0⟩
 ·rw [if_neg c3] at H;have e4:((l0.length:Int)==(l1.length:Int))=false:=beq_eq_false_iff_ne.mpr c3;have e5:((l0.length:Int) !=(l1.length:Int))=true:=bne_iff_ne.mpr c3;(have e6:(l0.length==l1.length)=false:=by first|simpa using c3|(simp at c3 ⊢;omega));obtain rfl:=Option.some.inj H
  go_enter Try.func17,Try.ntmps17
  go_wp2
  go_ret
  exact⟨zq6,zq0⟩
end
section
attribute [local go_sem] max2_int min2_int max_two min_two max_three min_three max_four min_four
def laws_eqDesk.f (k : Nat) (l0_0 : List (List Int)) (l0_1 : List Int) (l0_2 : List (S25)) (l1_0 : List (List Int)) (l1_1 : List Int) (l1_2 : List (S25)) : Option (Bool) := (laws_eqLogic.f k l0_0 l0_1 l1_0 l1_1).bind fun t151 => (if t151 = true then ((laws_eqLogicS.f k l0_2 l1_2).bind fun t152 => (if t152 = true then (some true) else (some false))) else (some false))
set_option maxHeartbeats 8000000 in
set_option maxRecDepth 100000 in
theorem laws_eqDesk.calls (k : Nat) (A0_0 : Option Addr) (c0_0 : Nat) (l0_0 : List (List Int)) (A0_1 : Option Addr) (c0_1 : Nat) (l0_1 : List Int) (A0_2 : Option Addr) (c0_2 : Nat) (l0_2 : List (S25)) (A1_0 : Option Addr) (c1_0 : Nat) (l1_0 : List (List Int)) (A1_1 : Option Addr) (c1_1 : Nat) (l1_1 : List Int) (A1_2 : Option Addr) (c1_2 : Nat) (l1_2 : List (S25)) (r : Bool) (w : World) (hr0_0 : Kd.C (Kd.slice 3 (Kd.int .i64)) w A0_0 l0_0.length l0_0) (hc0_0 : l0_0.length ≤ c0_0) (hr0_1 : Kd.C (Kd.int .i64) w A0_1 l0_1.length l0_1) (hc0_1 : l0_1.length ≤ c0_1) (hr0_2 : Kd.C k25 w A0_2 l0_2.length l0_2) (hc0_2 : l0_2.length ≤ c0_2) (hr1_0 : Kd.C (Kd.slice 3 (Kd.int .i64)) w A1_0 l1_0.length l1_0) (hc1_0 : l1_0.length ≤ c1_0) (hr1_1 : Kd.C (Kd.int .i64) w A1_1 l1_1.length l1_1) (hc1_1 : l1_1.length ≤ c1_1) (hr1_2 : Kd.C k25 w A1_2 l1_2.length l1_2) (hc1_2 : l1_2.length ≤ c1_2) (h : laws_eqDesk.f k l0_0 l0_1 l0_2 l1_0 l1_1 l1_2 = some r) :
  Calls Try.prog 7 #[.agg #[.slice A0_0 l0_0.length c0_0, .slice A0_1 l0_1.length c0_1, .slice A0_2 l0_2.length c0_2], .agg #[.slice A1_0 l1_0.length c1_0, .slice A1_1 l1_1.length c1_1, .slice A1_2 l1_2.length c1_2]] w fun e w' => e = .returned (.bool r) ∧ Below w.heap.size w w' := by
 have hu28:=Try.underlying28;have hu25:=Try.underlying25;have b8:=zqm hr0_0;have b4:=zqm hc0_0;clear hr0_0 hc0_0;have b9:=zqm hr0_1;have b5:=zqm hc0_1;clear hr0_1 hc0_1;have d0:=zqm hr0_2;have c8:=zqm hc0_2;clear hr0_2 hc0_2;have c0:=zqm hr1_0;have b6:=zqm hc1_0;clear hr1_0 hc1_0;have c1:=zqm hr1_1;have b7:=zqm hc1_1;clear hr1_1 hc1_1;have d1:=zqm hr1_2;have c9:=zqm hc1_2;clear hr1_2 hc1_2;have HB:=zqm (Below.refl w.heap.size w);have H:((laws_eqLogic.f k l0_0 l0_1 l1_0 l1_1).bind fun c2=>(if c2=true then((laws_eqLogicS.f k l0_2 l1_2).bind fun c3=>(if c3=true then(some true) else(some false))) else(some false)))=some r:=h;clear h;replace H:=Option.bind_eq_some_iff.mp H;obtain⟨c2,d2,H⟩:=H;(try dsimp only at H);have A3:=zqm d2;clear d2
 by_cases c4:c2=true
 ·subst c4;rw [if_pos rfl] at H;replace H:=Option.bind_eq_some_iff.mp H;obtain⟨c3,d3,H⟩:=H;(try dsimp only at H);have A5:=zqm d3;clear d3
  by_cases c6:c3=true
  ·subst c6;rw [if_pos rfl] at H;obtain rfl:=Option.some.inj H
   go_enter Try.func7,Try.ntmps7
   go_wp2_with (first|((with_reducible refine gate_dst (N:=2) rfl ?_);refine box_event ?hg (N:=2) ?hd (cs:= #[.slice A0_0 l0_0.length c0_0,.slice A0_1 l0_1.length c0_1,.slice A0_2 l0_2.length c0_2]) (t:=28) ?hr ?_;(case hd=>rfl);(case hg=>rfl);(case hr=> exact zq13);intro a1 hg w7 hbox hb;have a8:=zqm (below_step zq0 hb);have a0:=zqm (hbox);have c5:=zqm ((by rw [hg];exact(below_size zq0):w.heap.size≤a1));have a4:=zqm ((by rw [hg];exact(below_size zq0):w.heap.size≤a1));clear HB;have HB:=a8;clear a8 hb hbox hg)|((with_reducible refine gate_dst (N:=3) rfl ?_);refine box_event ?hg (N:=3) ?hd (cs:= #[.slice A1_0 l1_0.length c1_0,.slice A1_1 l1_1.length c1_1,.slice A1_2 l1_2.length c1_2]) (t:=28) ?hr ?_;(case hd=>rfl);(case hg=>rfl);(case hr=> exact zq13);intro a3 hg w8 hbox hb;have a8:=zqm (blk_below (g:=a1) (o:= .cells #[.slice A0_0 l0_0.length c0_0,.slice A0_1 l0_1.length c0_1,.slice A0_2 l0_2.length c0_2] 28 (0,0)) (zqe a0.out) hb);have a9:=zqm (below_step zq7 hb);have a2:=zqm (hbox);have c7:=zqm ((by rw [hg];exact(below_size zq7):w.heap.size≤a3));have a5:=zqm ((by rw [hg];exact(below_size zq7):w.heap.size≤a3));have a6:=zqm ((by rw [hg];exact Nat.ne_of_lt (blk_lt (g:=a1) (o:= .cells #[.slice A0_0 l0_0.length c0_0,.slice A0_1 l0_1.length c0_1,.slice A0_2 l0_2.length c0_2] 28 (0,0)) (zqe a0.out)):a1≠a3));have a7:=zqm ((by rw [hg];exact Nat.ne_of_gt (blk_lt (g:=a1) (o:= .cells #[.slice A0_0 l0_0.length c0_0,.slice A0_1 l0_1.length c0_1,.slice A0_2 l0_2.length c0_2] 28 (0,0)) (zqe a0.out)):a3≠a1));clear a0 HB;have a0:=a8;have HB:=a9;clear a8 a9 hb hbox hg;have j8:=a6.out;have j9:=a7.out;have d4:w8.cell? ⟨a1,0,none⟩=some (.slice A0_0 l0_0.length c0_0):=(blk_cell a0.out 0).trans rfl;have d5:w8.cell? ⟨a1,1,none⟩=some (.slice A0_1 l0_1.length c0_1):=(blk_cell a0.out 1).trans rfl;have d6:w8.cell? ⟨a1,2,none⟩=some (.slice A0_2 l0_2.length c0_2):=(blk_cell a0.out 2).trans rfl;have g4:=blk_frozen a0.out 0;have g5:=blk_frozen a0.out 1;have g6:=blk_frozen a0.out 2;have d7:w8.cell? ⟨a3,0,none⟩=some (.slice A1_0 l1_0.length c1_0):=(blk_cell a2.out 0).trans rfl;have d8:w8.cell? ⟨a3,1,none⟩=some (.slice A1_1 l1_1.length c1_1):=(blk_cell a2.out 1).trans rfl;have d9:w8.cell? ⟨a3,2,none⟩=some (.slice A1_2 l1_2.length c1_2):=(blk_cell a2.out 2).trans rfl;have g7:=blk_frozen a2.out 0;have g8:=blk_frozen a2.out 1;have g9:=blk_frozen a2.out 2)|((with_reducible refine gate_callee (f:=16) rfl ?_);refine goesL_ (some 9) rfl rfl Try.func16 zqk rfl #[.agg #[.slice A0_0 l0_0.length c0_0,.slice A0_1 l0_1.length c0_1],.agg #[.slice A1_0 l1_0.length c1_0,.slice A1_1 l1_1.length c1_1]] rfl zq1 ?_;(with_reducible refine(laws_eqLogic.calls k _ _ l0_0 _ _ l0_1 _ _ l1_0 _ _ l1_1 true _ ?side1 ?side2 ?side3 ?side4 ?side5 ?side6 ?side7 ?side8 A3.out).mono ?_);(case side1=> exact zq46);(case side2=>exact b4.out);(case side3=> exact zq28);(case side4=>exact b5.out);(case side5=> exact zq47);(case side6=>exact b6.out);(case side7=> exact zq48);(case side8=>exact b7.out);rintro e b0 ⟨rfl,hb⟩;refine⟨_,rfl,?_⟩;replace a0:=zqm (blk_below (g:=a1) (o:= .cells #[.slice A0_0 l0_0.length c0_0,.slice A0_1 l0_1.length c0_1,.slice A0_2 l0_2.length c0_2] 28 (0,0)) (zqe a0.out) hb);replace a2:=zqm (blk_below (g:=a3) (o:= .cells #[.slice A1_0 l1_0.length c1_0,.slice A1_1 l1_1.length c1_1,.slice A1_2 l1_2.length c1_2] 28 (0,0)) (zqe a2.out) hb);replace HB:=zqm (below_step zq15 hb);clear hb;have e0:b0.cell? ⟨a1,0,none⟩=some (.slice A0_0 l0_0.length c0_0):=(blk_cell a0.out 0).trans rfl;have e1:b0.cell? ⟨a1,1,none⟩=some (.slice A0_1 l0_1.length c0_1):=(blk_cell a0.out 1).trans rfl;have e2:b0.cell? ⟨a1,2,none⟩=some (.slice A0_2 l0_2.length c0_2):=(blk_cell a0.out 2).trans rfl;have h0:=blk_frozen a0.out 0;have h1:=blk_frozen a0.out 1;have h2:=blk_frozen a0.out 2;have e3:b0.cell? ⟨a3,0,none⟩=some (.slice A1_0 l1_0.length c1_0):=(blk_cell a2.out 0).trans rfl;have e4:b0.cell? ⟨a3,1,none⟩=some (.slice A1_1 l1_1.length c1_1):=(blk_cell a2.out 1).trans rfl;have e5:b0.cell? ⟨a3,2,none⟩=some (.slice A1_2 l1_2.length c1_2):=(blk_cell a2.out 2).trans rfl;have h3:=blk_frozen a2.out 0;have h4:=blk_frozen a2.out 1;have h5:=blk_frozen a2.out 2)|((with_reducible refine gate_callee (f:=17) rfl ?_);refine goesL_ (some 15) rfl rfl Try.func17 zqk rfl #[.slice A0_2 l0_2.length c0_2,.slice A1_2 l1_2.length c1_2] rfl zq1 ?_;(with_reducible refine(laws_eqLogicS.calls k _ _ l0_2 _ _ l1_2 true _ ?side1 ?side2 ?side3 ?side4 A5.out).mono ?_);(case side1=> exact zq49);(case side2=>exact c8.out);(case side3=> exact zq67);(case side4=>exact c9.out);rintro e k0 ⟨rfl,hb⟩;refine⟨_,rfl,?_⟩;replace a0:=zqm (blk_below (g:=a1) (o:= .cells #[.slice A0_0 l0_0.length c0_0,.slice A0_1 l0_1.length c0_1,.slice A0_2 l0_2.length c0_2] 28 (0,0)) (zqe a0.out) hb);replace a2:=zqm (blk_below (g:=a3) (o:= .cells #[.slice A1_0 l1_0.length c1_0,.slice A1_1 l1_1.length c1_1,.slice A1_2 l1_2.length c1_2] 28 (0,0)) (zqe a2.out) hb);replace HB:=zqm (below_step zq15 hb);clear hb))
   go_ret
   exact⟨zq6,zq15⟩
  ·replace c6:=Bool.eq_false_iff.mpr c6;subst c6;rw [if_neg (show¬(false=true) by decide)] at H;obtain rfl:=Option.some.inj H
   go_enter Try.func7,Try.ntmps7
   go_wp2_with (first|((with_reducible refine gate_dst (N:=2) rfl ?_);refine box_event ?hg (N:=2) ?hd (cs:= #[.slice A0_0 l0_0.length c0_0,.slice A0_1 l0_1.length c0_1,.slice A0_2 l0_2.length c0_2]) (t:=28) ?hr ?_;(case hd=>rfl);(case hg=>rfl);(case hr=> exact zq13);intro a1 hg k1 hbox hb;have a8:=zqm (below_step zq0 hb);have a0:=zqm (hbox);have c5:=zqm ((by rw [hg];exact(below_size zq0):w.heap.size≤a1));have a4:=zqm ((by rw [hg];exact(below_size zq0):w.heap.size≤a1));clear HB;have HB:=a8;clear a8 hb hbox hg)|((with_reducible refine gate_dst (N:=3) rfl ?_);refine box_event ?hg (N:=3) ?hd (cs:= #[.slice A1_0 l1_0.length c1_0,.slice A1_1 l1_1.length c1_1,.slice A1_2 l1_2.length c1_2]) (t:=28) ?hr ?_;(case hd=>rfl);(case hg=>rfl);(case hr=> exact zq13);intro a3 hg b1 hbox hb;have a8:=zqm (blk_below (g:=a1) (o:= .cells #[.slice A0_0 l0_0.length c0_0,.slice A0_1 l0_1.length c0_1,.slice A0_2 l0_2.length c0_2] 28 (0,0)) (zqe a0.out) hb);have a9:=zqm (below_step zq7 hb);have a2:=zqm (hbox);have c7:=zqm ((by rw [hg];exact(below_size zq7):w.heap.size≤a3));have a5:=zqm ((by rw [hg];exact(below_size zq7):w.heap.size≤a3));have a6:=zqm ((by rw [hg];exact Nat.ne_of_lt (blk_lt (g:=a1) (o:= .cells #[.slice A0_0 l0_0.length c0_0,.slice A0_1 l0_1.length c0_1,.slice A0_2 l0_2.length c0_2] 28 (0,0)) (zqe a0.out)):a1≠a3));have a7:=zqm ((by rw [hg];exact Nat.ne_of_gt (blk_lt (g:=a1) (o:= .cells #[.slice A0_0 l0_0.length c0_0,.slice A0_1 l0_1.length c0_1,.slice A0_2 l0_2.length c0_2] 28 (0,0)) (zqe a0.out)):a3≠a1));clear a0 HB;have a0:=a8;have HB:=a9;clear a8 a9 hb hbox hg;have j4:=a6.out;have j6:=a7.out;have e6:b1.cell? ⟨a1,0,none⟩=some (.slice A0_0 l0_0.length c0_0):=(blk_cell a0.out 0).trans rfl;have e7:b1.cell? ⟨a1,1,none⟩=some (.slice A0_1 l0_1.length c0_1):=(blk_cell a0.out 1).trans rfl;have e8:b1.cell? ⟨a1,2,none⟩=some (.slice A0_2 l0_2.length c0_2):=(blk_cell a0.out 2).trans rfl;have h6:=blk_frozen a0.out 0;have h7:=blk_frozen a0.out 1;have h8:=blk_frozen a0.out 2;have e9:b1.cell? ⟨a3,0,none⟩=some (.slice A1_0 l1_0.length c1_0):=(blk_cell a2.out 0).trans rfl;have f0:b1.cell? ⟨a3,1,none⟩=some (.slice A1_1 l1_1.length c1_1):=(blk_cell a2.out 1).trans rfl;have f1:b1.cell? ⟨a3,2,none⟩=some (.slice A1_2 l1_2.length c1_2):=(blk_cell a2.out 2).trans rfl;have h9:=blk_frozen a2.out 0;have i0:=blk_frozen a2.out 1;have i1:=blk_frozen a2.out 2)|((with_reducible refine gate_callee (f:=16) rfl ?_);refine goesL_ (some 9) rfl rfl Try.func16 zqk rfl #[.agg #[.slice A0_0 l0_0.length c0_0,.slice A0_1 l0_1.length c0_1],.agg #[.slice A1_0 l1_0.length c1_0,.slice A1_1 l1_1.length c1_1]] rfl zq1 ?_;(with_reducible refine(laws_eqLogic.calls k _ _ l0_0 _ _ l0_1 _ _ l1_0 _ _ l1_1 true _ ?side1 ?side2 ?side3 ?side4 ?side5 ?side6 ?side7 ?side8 A3.out).mono ?_);(case side1=> exact zq46);(case side2=>exact b4.out);(case side3=> exact zq28);(case side4=>exact b5.out);(case side5=> exact zq47);(case side6=>exact b6.out);(case side7=> exact zq48);(case side8=>exact b7.out);rintro e b2 ⟨rfl,hb⟩;refine⟨_,rfl,?_⟩;replace a0:=zqm (blk_below (g:=a1) (o:= .cells #[.slice A0_0 l0_0.length c0_0,.slice A0_1 l0_1.length c0_1,.slice A0_2 l0_2.length c0_2] 28 (0,0)) (zqe a0.out) hb);replace a2:=zqm (blk_below (g:=a3) (o:= .cells #[.slice A1_0 l1_0.length c1_0,.slice A1_1 l1_1.length c1_1,.slice A1_2 l1_2.length c1_2] 28 (0,0)) (zqe a2.out) hb);replace HB:=zqm (below_step zq15 hb);clear hb;have f2:b2.cell? ⟨a1,0,none⟩=some (.slice A0_0 l0_0.length c0_0):=(blk_cell a0.out 0).trans rfl;have f3:b2.cell? ⟨a1,1,none⟩=some (.slice A0_1 l0_1.length c0_1):=(blk_cell a0.out 1).trans rfl;have f4:b2.cell? ⟨a1,2,none⟩=some (.slice A0_2 l0_2.length c0_2):=(blk_cell a0.out 2).trans rfl;have i2:=blk_frozen a0.out 0;have i3:=blk_frozen a0.out 1;have i4:=blk_frozen a0.out 2;have f5:b2.cell? ⟨a3,0,none⟩=some (.slice A1_0 l1_0.length c1_0):=(blk_cell a2.out 0).trans rfl;have f6:b2.cell? ⟨a3,1,none⟩=some (.slice A1_1 l1_1.length c1_1):=(blk_cell a2.out 1).trans rfl;have f7:b2.cell? ⟨a3,2,none⟩=some (.slice A1_2 l1_2.length c1_2):=(blk_cell a2.out 2).trans rfl;have i5:=blk_frozen a2.out 0;have i6:=blk_frozen a2.out 1;have i7:=blk_frozen a2.out 2)|((with_reducible refine gate_callee (f:=17) rfl ?_);refine goesL_ (some 15) rfl rfl Try.func17 zqk rfl #[.slice A0_2 l0_2.length c0_2,.slice A1_2 l1_2.length c1_2] rfl zq1 ?_;(with_reducible refine(laws_eqLogicS.calls k _ _ l0_2 _ _ l1_2 false _ ?side1 ?side2 ?side3 ?side4 A5.out).mono ?_);(case side1=> exact zq49);(case side2=>exact c8.out);(case side3=> exact zq67);(case side4=>exact c9.out);rintro e k2 ⟨rfl,hb⟩;refine⟨_,rfl,?_⟩;replace a0:=zqm (blk_below (g:=a1) (o:= .cells #[.slice A0_0 l0_0.length c0_0,.slice A0_1 l0_1.length c0_1,.slice A0_2 l0_2.length c0_2] 28 (0,0)) (zqe a0.out) hb);replace a2:=zqm (blk_below (g:=a3) (o:= .cells #[.slice A1_0 l1_0.length c1_0,.slice A1_1 l1_1.length c1_1,.slice A1_2 l1_2.length c1_2] 28 (0,0)) (zqe a2.out) hb);replace HB:=zqm (below_step zq15 hb);clear hb))
   go_ret
   exact⟨zq6,zq15⟩
 ·replace c4:=Bool.eq_false_iff.mpr c4;subst c4;rw [if_neg (show¬(false=true) by decide)] at H;obtain rfl:=Option.some.inj H
  go_enter Try.func7,Try.ntmps7
  go_wp2_with (first|((with_reducible refine gate_dst (N:=2) rfl ?_);refine box_event ?hg (N:=2) ?hd (cs:= #[.slice A0_0 l0_0.length c0_0,.slice A0_1 l0_1.length c0_1,.slice A0_2 l0_2.length c0_2]) (t:=28) ?hr ?_;(case hd=>rfl);(case hg=>rfl);(case hr=> exact zq13);intro a1 hg k3 hbox hb;have a8:=zqm (below_step zq0 hb);have a0:=zqm (hbox);have c5:=zqm ((by rw [hg];exact(below_size zq0):w.heap.size≤a1));have a4:=zqm ((by rw [hg];exact(below_size zq0):w.heap.size≤a1));clear HB;have HB:=a8;clear a8 hb hbox hg)|((with_reducible refine gate_dst (N:=3) rfl ?_);refine box_event ?hg (N:=3) ?hd (cs:= #[.slice A1_0 l1_0.length c1_0,.slice A1_1 l1_1.length c1_1,.slice A1_2 l1_2.length c1_2]) (t:=28) ?hr ?_;(case hd=>rfl);(case hg=>rfl);(case hr=> exact zq13);intro a3 hg b3 hbox hb;have a8:=zqm (blk_below (g:=a1) (o:= .cells #[.slice A0_0 l0_0.length c0_0,.slice A0_1 l0_1.length c0_1,.slice A0_2 l0_2.length c0_2] 28 (0,0)) (zqe a0.out) hb);have a9:=zqm (below_step zq7 hb);have a2:=zqm (hbox);have c7:=zqm ((by rw [hg];exact(below_size zq7):w.heap.size≤a3));have a5:=zqm ((by rw [hg];exact(below_size zq7):w.heap.size≤a3));have a6:=zqm ((by rw [hg];exact Nat.ne_of_lt (blk_lt (g:=a1) (o:= .cells #[.slice A0_0 l0_0.length c0_0,.slice A0_1 l0_1.length c0_1,.slice A0_2 l0_2.length c0_2] 28 (0,0)) (zqe a0.out)):a1≠a3));have a7:=zqm ((by rw [hg];exact Nat.ne_of_gt (blk_lt (g:=a1) (o:= .cells #[.slice A0_0 l0_0.length c0_0,.slice A0_1 l0_1.length c0_1,.slice A0_2 l0_2.length c0_2] 28 (0,0)) (zqe a0.out)):a3≠a1));clear a0 HB;have a0:=a8;have HB:=a9;clear a8 a9 hb hbox hg;have j5:=a6.out;have j7:=a7.out;have f8:b3.cell? ⟨a1,0,none⟩=some (.slice A0_0 l0_0.length c0_0):=(blk_cell a0.out 0).trans rfl;have f9:b3.cell? ⟨a1,1,none⟩=some (.slice A0_1 l0_1.length c0_1):=(blk_cell a0.out 1).trans rfl;have g0:b3.cell? ⟨a1,2,none⟩=some (.slice A0_2 l0_2.length c0_2):=(blk_cell a0.out 2).trans rfl;have i8:=blk_frozen a0.out 0;have i9:=blk_frozen a0.out 1;have j0:=blk_frozen a0.out 2;have g1:b3.cell? ⟨a3,0,none⟩=some (.slice A1_0 l1_0.length c1_0):=(blk_cell a2.out 0).trans rfl;have g2:b3.cell? ⟨a3,1,none⟩=some (.slice A1_1 l1_1.length c1_1):=(blk_cell a2.out 1).trans rfl;have g3:b3.cell? ⟨a3,2,none⟩=some (.slice A1_2 l1_2.length c1_2):=(blk_cell a2.out 2).trans rfl;have j1:=blk_frozen a2.out 0;have j2:=blk_frozen a2.out 1;have j3:=blk_frozen a2.out 2)|((with_reducible refine gate_callee (f:=16) rfl ?_);refine goesL_ (some 9) rfl rfl Try.func16 zqk rfl #[.agg #[.slice A0_0 l0_0.length c0_0,.slice A0_1 l0_1.length c0_1],.agg #[.slice A1_0 l1_0.length c1_0,.slice A1_1 l1_1.length c1_1]] rfl zq1 ?_;(with_reducible refine(laws_eqLogic.calls k _ _ l0_0 _ _ l0_1 _ _ l1_0 _ _ l1_1 false _ ?side1 ?side2 ?side3 ?side4 ?side5 ?side6 ?side7 ?side8 A3.out).mono ?_);(case side1=> exact zq46);(case side2=>exact b4.out);(case side3=> exact zq28);(case side4=>exact b5.out);(case side5=> exact zq47);(case side6=>exact b6.out);(case side7=> exact zq48);(case side8=>exact b7.out);rintro e k4 ⟨rfl,hb⟩;refine⟨_,rfl,?_⟩;replace a0:=zqm (blk_below (g:=a1) (o:= .cells #[.slice A0_0 l0_0.length c0_0,.slice A0_1 l0_1.length c0_1,.slice A0_2 l0_2.length c0_2] 28 (0,0)) (zqe a0.out) hb);replace a2:=zqm (blk_below (g:=a3) (o:= .cells #[.slice A1_0 l1_0.length c1_0,.slice A1_1 l1_1.length c1_1,.slice A1_2 l1_2.length c1_2] 28 (0,0)) (zqe a2.out) hb);replace HB:=zqm (below_step zq15 hb);clear hb))
  go_ret
  exact⟨zq6,zq15⟩
end
section
attribute [local go_sem] max2_int min2_int max_two min_two max_three min_three max_four min_four
def laws_szLogicS.l0 : Nat → List (S34) → Int → Int → Option (Int)
 | 0, _, _, _ => none
 | k + 1, x0, x1, x5 => if x5 < (x0.length : Int) then (if 0 ≤ x5 then ((laws_szLogic.f k ((rd_T34 x0 x5).f0) ((rd_T34 x0 x5).f1) x1).bind fun t200 => (if t200 < 0 then (some (-1)) else (laws_szLogicS.l0 k x0 t200 (wrap64 (x5 + 1))))) else (none)) else (some x1)
def laws_szLogicS.f (k : Nat) (l0 : List (S34)) (a1 : Int) : Option (Int) := if (wrap64 (a1 - (l0.length : Int))) < 0 then (some (-1)) else (laws_szLogicS.l0 k l0 (wrap64 (a1 - (l0.length : Int))) 0)
set_option maxHeartbeats 8000000 in
set_option maxRecDepth 100000 in
theorem laws_szLogicS.calls (k : Nat) (A0 : Option Addr) (c0 : Nat) (l0 : List (S34)) (a1 : Int) (r : Int) (w : World) (hr0 : Kd.C k34 w A0 l0.length l0) (hc0 : l0.length ≤ c0) (h : laws_szLogicS.f k l0 a1 = some r) :
  Calls Try.prog 23 #[.slice A0 l0.length c0, .int .i64 a1] w fun e w' => e = .returned (.int .i64 r) ∧ Below w.heap.size w w' := by
 have hu34:=Try.underlying34;have d1:=zqm hr0;have d5:=zqm hc0;clear hr0 hc0;have HB:=zqm (Below.refl w.heap.size w);have H:(if(wrap64 (a1 - (l0.length:Int)))<0 then(some (-1)) else(laws_szLogicS.l0 k l0 (wrap64 (a1 - (l0.length:Int))) 0))=some r:=h;clear h
 by_cases c3:(wrap64 (a1 - (l0.length:Int)))<0
 ·rw [if_pos c3] at H;have c6:decide ((wrap64 (a1 - (l0.length:Int)))<0)=true:=decide_eq_true c3;clear c3;obtain rfl:=Option.some.inj H
  go_enter Try.func23,Try.ntmps23
  go_wp2
  go_ret
  exact⟨zq6,zq0⟩
 ·rw [if_neg c3] at H;have c6:decide ((wrap64 (a1 - (l0.length:Int)))<0)=false:=decide_eq_false c3;clear c3;have H':=zqm H;clear H
  go_enter Try.func23,Try.ntmps23
  go_wp2
  go_loopg [1,5] k (fun kq v1 v5 w'=> ∃(b0:Int) (a0:Int),v1= .int .i64 b0∧v5= .int .i64 a0∧Aside0 (laws_szLogicS.l0 kq l0 b0 a0=some r)∧Aside0 (kq≤k)∧Aside0 (Below w.heap.size w w'))
  case atStart=>exact⟨(wrap64 (a1 - (l0.length:Int))),(0),zq3,zq3,H',⟨Nat.le_refl _⟩,⟨zq0⟩⟩
  case round=>
   clear H';(try clear c2);(try clear p2);(try clear c3);(try clear c6);obtain⟨b0,a0,rfl,rfl,HA,d0,HB⟩:=hrel
   cases gk with
   |zero=>exact absurd HA.out (by simp [laws_szLogicS.l0])
   |succ k1=>
    have H:=HA.out;clear HA;simp only [laws_szLogicS.l0] at H
    by_cases c4:a0<(l0.length:Int)
    ·rw [if_pos c4] at H;have d2:decide (a0<(l0.length:Int))=true:=decide_eq_true c4;clear c4
     by_cases c5:0≤a0
     ·rw [if_pos c5] at H;have d4:decide (0≤a0)=true:=decide_eq_true c5;clear c5;replace H:=Option.bind_eq_some_iff.mp H;obtain⟨b5,c9,H⟩:=H;(try dsimp only at H);have A6:=zqm c9;clear c9
      by_cases c7:b5<0
      ·rw [if_pos c7] at H;have d3:decide (b5<0)=true:=decide_eq_true c7;clear c7;obtain rfl:=Option.some.inj H;have a8:0≤(a0:Int):=zqo;have a9:a0<(l0.length:Int):=zqo;obtain⟨c8,b6,b8,b7,b9,c1,a2,a3,a6,a4,a7,a5⟩:=at_T34 d1.out a0 a8 a9
       cases c1
       replace a2:=(HB.out.cell (World.block_lt_of_cell? w _ a2)).trans a2;replace a3:=(HB.out.cell (World.block_lt_of_cell? w _ a3)).trans a3;have b3:=zqm a4;have b1:=zqm a6;clear a4 a6;have b4:=zqm a5;have b2:=zqm a7;clear a5 a7;replace a8:=eq_true a8;replace a9:=eq_true a9
       go_wp2_with (first|((with_reducible refine gate_callee (f:=22) rfl ?_);refine goesL_ (some 23) rfl rfl Try.func22 zqk rfl #[.agg #[.slice b6 ((rd_T34 l0 a0).f0).length b8,.slice b7 ((rd_T34 l0 a0).f1).length b9],.int .i64 b0] rfl zq1 ?_;(with_reducible refine(laws_szLogic.calls k1 _ _ ((rd_T34 l0 a0).f0) _ _ ((rd_T34 l0 a0).f1) b0 b5 _ ?side1 ?side2 ?side3 ?side4 A6.out).mono ?_);(case side1=> exact zq19);(case side2=>exact b1.out);(case side3=> exact zq27);(case side4=>exact b2.out);rintro e w8 ⟨rfl,hb⟩;refine⟨_,rfl,?_⟩;replace HB:=zqm (below_step zq0 hb);clear hb))
       go_ret
       exact⟨zq6,zq0⟩
      ·rw [if_neg c7] at H;have d3:decide (b5<0)=false:=decide_eq_false c7;clear c7;have H':=zqm H;clear H;have a8:0≤(a0:Int):=zqo;have a9:a0<(l0.length:Int):=zqo;obtain⟨c8,b6,b8,b7,b9,c1,a2,a3,a6,a4,a7,a5⟩:=at_T34 d1.out a0 a8 a9
       cases c1
       replace a2:=(HB.out.cell (World.block_lt_of_cell? w _ a2)).trans a2;replace a3:=(HB.out.cell (World.block_lt_of_cell? w _ a3)).trans a3;have b3:=zqm a4;have b1:=zqm a6;clear a4 a6;have b4:=zqm a5;have b2:=zqm a7;clear a5 a7;replace a8:=eq_true a8;replace a9:=eq_true a9
       go_wp2_with (first|((with_reducible refine gate_callee (f:=22) rfl ?_);refine goesL_ (some 23) rfl rfl Try.func22 zqk rfl #[.agg #[.slice b6 ((rd_T34 l0 a0).f0).length b8,.slice b7 ((rd_T34 l0 a0).f1).length b9],.int .i64 b0] rfl zq1 ?_;(with_reducible refine(laws_szLogic.calls k1 _ _ ((rd_T34 l0 a0).f0) _ _ ((rd_T34 l0 a0).f1) b0 b5 _ ?side1 ?side2 ?side3 ?side4 A6.out).mono ?_);(case side1=> exact zq19);(case side2=>exact b1.out);(case side3=> exact zq27);(case side4=>exact b2.out);rintro e w9 ⟨rfl,hb⟩;refine⟨_,rfl,?_⟩;replace HB:=zqm (below_step zq0 hb);clear hb))
       go_roundg k1
       (case measure=>have:=d0.out;omega);case rel=>exact⟨(b5),(wrap64 (a0+1)),zq3,zq3,H',⟨by have:=d0.out;omega⟩,⟨zq0⟩⟩
     ·rw [if_neg c5] at H;exact absurd H (by simp)
    ·rw [if_neg c4] at H;have d2:decide (a0<(l0.length:Int))=false:=decide_eq_false c4;clear c4;obtain rfl:=Option.some.inj H
     go_wp2
     go_ret
     exact⟨zq6,zq0⟩
end
section
attribute [local go_sem] max2_int min2_int max_two min_two max_three min_three max_four min_four
def laws_szDesk.f (k : Nat) (l0_0 : List (List Int)) (l0_1 : List Int) (l0_2 : List (S34)) (a1 : Int) : Option (Int) := (laws_szLogic.f k l0_0 l0_1 a1).bind fun t202 => (if t202 < 0 then (some (-1)) else ((laws_szLogicS.f k l0_2 t202).bind fun t203 => (if t203 < 0 then (some (-1)) else (some t203))))
set_option maxHeartbeats 8000000 in
set_option maxRecDepth 100000 in
theorem laws_szDesk.calls (k : Nat) (A0_0 : Option Addr) (c0_0 : Nat) (l0_0 : List (List Int)) (A0_1 : Option Addr) (c0_1 : Nat) (l0_1 : List Int) (A0_2 : Option Addr) (c0_2 : Nat) (l0_2 : List (S34)) (a1 : Int) (r : Int) (w : World) (hr0_0 : Kd.C (Kd.slice 3 (Kd.int .i64)) w A0_0 l0_0.length l0_0) (hc0_0 : l0_0.length ≤ c0_0) (hr0_1 : Kd.C (Kd.int .i64) w A0_1 l0_1.length l0_1) (hc0_1 : l0_1.length ≤ c0_1) (hr0_2 : Kd.C k34 w A0_2 l0_2.length l0_2) (hc0_2 : l0_2.length ≤ c0_2) (h : laws_szDesk.f k l0_0 l0_1 l0_2 a1 = some r) :
  Calls Try.prog 10 #[.agg #[.slice A0_0 l0_0.length c0_0, .slice A0_1 l0_1.length c0_1, .slice A0_2 l0_2.length c0_2], .int .i64 a1] w fun e w' => e = .returned (.int .i64 r) ∧ Below w.heap.size w w' := by
 have hu37:=Try.underlying37;have hu34:=Try.underlying34;have a9:=zqm hr0_0;have a7:=zqm hc0_0;clear hr0_0 hc0_0;have b0:=zqm hr0_1;have a8:=zqm hc0_1;clear hr0_1 hc0_1;have b3:=zqm hr0_2;have b2:=zqm hc0_2;clear hr0_2 hc0_2;have HB:=zqm (Below.refl w.heap.size w);have H:((laws_szLogic.f k l0_0 l0_1 a1).bind fun a3=>(if a3<0 then(some (-1)) else((laws_szLogicS.f k l0_2 a3).bind fun a5=>(if a5<0 then(some (-1)) else(some a5)))))=some r:=h;clear h;replace H:=Option.bind_eq_some_iff.mp H;obtain⟨a3,b8,H⟩:=H;(try dsimp only at H);have A3:=zqm b8;clear b8
 by_cases c4:a3<0
 ·rw [if_pos c4] at H;have c0:decide (a3<0)=true:=decide_eq_true c4;clear c4;obtain rfl:=Option.some.inj H
  go_enter Try.func10,Try.ntmps10
  go_wp2_with (first|((with_reducible refine gate_dst (N:=2) rfl ?_);refine box_event ?hg (N:=2) ?hd (cs:= #[.slice A0_0 l0_0.length c0_0,.slice A0_1 l0_1.length c0_1,.slice A0_2 l0_2.length c0_2]) (t:=37) ?hr ?_;(case hd=>rfl);(case hg=>rfl);(case hr=> exact zq13);intro a2 hg w5 hbox hb;have a6:=zqm (below_step zq0 hb);have a0:=zqm (hbox);have b1:=zqm ((by rw [hg];exact(below_size zq0):w.heap.size≤a2));have a4:=zqm ((by rw [hg];exact(below_size zq0):w.heap.size≤a2));clear HB;have HB:=a6;clear a6 hb hbox hg;have e8:w5.cell? ⟨a2,0,none⟩=some (.slice A0_0 l0_0.length c0_0):=(blk_cell a0.out 0).trans rfl;have e9:w5.cell? ⟨a2,1,none⟩=some (.slice A0_1 l0_1.length c0_1):=(blk_cell a0.out 1).trans rfl;have f0:w5.cell? ⟨a2,2,none⟩=some (.slice A0_2 l0_2.length c0_2):=(blk_cell a0.out 2).trans rfl;have f1:=blk_frozen a0.out 0;have f2:=blk_frozen a0.out 1;have f3:=blk_frozen a0.out 2)|((with_reducible refine gate_callee (f:=22) rfl ?_);refine goesL_ (some 8) rfl rfl Try.func22 zqk rfl #[.agg #[.slice A0_0 l0_0.length c0_0,.slice A0_1 l0_1.length c0_1],.int .i64 a1] rfl zq1 ?_;(with_reducible refine(laws_szLogic.calls k _ _ l0_0 _ _ l0_1 a1 a3 _ ?side1 ?side2 ?side3 ?side4 A3.out).mono ?_);(case side1=> exact zq43);(case side2=>exact a7.out);(case side3=> exact zq44);(case side4=>exact a8.out);rintro e w7 ⟨rfl,hb⟩;refine⟨_,rfl,?_⟩;replace a0:=zqm (blk_below (g:=a2) (o:= .cells #[.slice A0_0 l0_0.length c0_0,.slice A0_1 l0_1.length c0_1,.slice A0_2 l0_2.length c0_2] 37 (0,0)) (zqe a0.out) hb);replace HB:=zqm (below_step zq7 hb);clear hb))
  go_ret
  exact⟨zq6,zq7⟩
 ·rw [if_neg c4] at H;have c0:decide (a3<0)=false:=decide_eq_false c4;clear c4;replace H:=Option.bind_eq_some_iff.mp H;obtain⟨a5,b9,H⟩:=H;(try dsimp only at H);have A8:=zqm b9;clear b9
  by_cases c9:a5<0
  ·rw [if_pos c9] at H;have c1:decide (a5<0)=true:=decide_eq_true c9;clear c9;obtain rfl:=Option.some.inj H
   go_enter Try.func10,Try.ntmps10
   go_wp2_with (first|((with_reducible refine gate_dst (N:=2) rfl ?_);refine box_event ?hg (N:=2) ?hd (cs:= #[.slice A0_0 l0_0.length c0_0,.slice A0_1 l0_1.length c0_1,.slice A0_2 l0_2.length c0_2]) (t:=37) ?hr ?_;(case hd=>rfl);(case hg=>rfl);(case hr=> exact zq13);intro a2 hg b4 hbox hb;have a6:=zqm (below_step zq0 hb);have a0:=zqm (hbox);have b1:=zqm ((by rw [hg];exact(below_size zq0):w.heap.size≤a2));have a4:=zqm ((by rw [hg];exact(below_size zq0):w.heap.size≤a2));clear HB;have HB:=a6;clear a6 hb hbox hg;have c2:b4.cell? ⟨a2,0,none⟩=some (.slice A0_0 l0_0.length c0_0):=(blk_cell a0.out 0).trans rfl;have c3:b4.cell? ⟨a2,1,none⟩=some (.slice A0_1 l0_1.length c0_1):=(blk_cell a0.out 1).trans rfl;have c5:b4.cell? ⟨a2,2,none⟩=some (.slice A0_2 l0_2.length c0_2):=(blk_cell a0.out 2).trans rfl;have d6:=blk_frozen a0.out 0;have d7:=blk_frozen a0.out 1;have d8:=blk_frozen a0.out 2)|((with_reducible refine gate_callee (f:=22) rfl ?_);refine goesL_ (some 8) rfl rfl Try.func22 zqk rfl #[.agg #[.slice A0_0 l0_0.length c0_0,.slice A0_1 l0_1.length c0_1],.int .i64 a1] rfl zq1 ?_;(with_reducible refine(laws_szLogic.calls k _ _ l0_0 _ _ l0_1 a1 a3 _ ?side1 ?side2 ?side3 ?side4 A3.out).mono ?_);(case side1=> exact zq43);(case side2=>exact a7.out);(case side3=> exact zq44);(case side4=>exact a8.out);rintro e b5 ⟨rfl,hb⟩;refine⟨_,rfl,?_⟩;replace a0:=zqm (blk_below (g:=a2) (o:= .cells #[.slice A0_0 l0_0.length c0_0,.slice A0_1 l0_1.length c0_1,.slice A0_2 l0_2.length c0_2] 37 (0,0)) (zqe a0.out) hb);replace HB:=zqm (below_step zq7 hb);clear hb;have c6:b5.cell? ⟨a2,0,none⟩=some (.slice A0_0 l0_0.length c0_0):=(blk_cell a0.out 0).trans rfl;have c7:b5.cell? ⟨a2,1,none⟩=some (.slice A0_1 l0_1.length c0_1):=(blk_cell a0.out 1).trans rfl;have c8:b5.cell? ⟨a2,2,none⟩=some (.slice A0_2 l0_2.length c0_2):=(blk_cell a0.out 2).trans rfl;have d9:=blk_frozen a0.out 0;have e0:=blk_frozen a0.out 1;have e1:=blk_frozen a0.out 2)|((with_reducible refine gate_callee (f:=23) rfl ?_);refine goesL_ (some 14) rfl rfl Try.func23 zqk rfl #[.slice A0_2 l0_2.length c0_2,.int .i64 a3] rfl zq1 ?_;(with_reducible refine(laws_szLogicS.calls k _ _ l0_2 a3 a5 _ ?side1 ?side2 A8.out).mono ?_);(case side1=> exact zq19);(case side2=>exact b2.out);rintro e f4 ⟨rfl,hb⟩;refine⟨_,rfl,?_⟩;replace a0:=zqm (blk_below (g:=a2) (o:= .cells #[.slice A0_0 l0_0.length c0_0,.slice A0_1 l0_1.length c0_1,.slice A0_2 l0_2.length c0_2] 37 (0,0)) (zqe a0.out) hb);replace HB:=zqm (below_step zq7 hb);clear hb))
   go_ret
   exact⟨zq6,zq7⟩
  ·rw [if_neg c9] at H;have c1:decide (a5<0)=false:=decide_eq_false c9;clear c9;obtain rfl:=Option.some.inj H
   go_enter Try.func10,Try.ntmps10
   go_wp2_with (first|((with_reducible refine gate_dst (N:=2) rfl ?_);refine box_event ?hg (N:=2) ?hd (cs:= #[.slice A0_0 l0_0.length c0_0,.slice A0_1 l0_1.length c0_1,.slice A0_2 l0_2.length c0_2]) (t:=37) ?hr ?_;(case hd=>rfl);(case hg=>rfl);(case hr=> exact zq13);intro a2 hg b6 hbox hb;have a6:=zqm (below_step zq0 hb);have a0:=zqm (hbox);have b1:=zqm ((by rw [hg];exact(below_size zq0):w.heap.size≤a2));have a4:=zqm ((by rw [hg];exact(below_size zq0):w.heap.size≤a2));clear HB;have HB:=a6;clear a6 hb hbox hg;have d0:b6.cell? ⟨a2,0,none⟩=some (.slice A0_0 l0_0.length c0_0):=(blk_cell a0.out 0).trans rfl;have d1:b6.cell? ⟨a2,1,none⟩=some (.slice A0_1 l0_1.length c0_1):=(blk_cell a0.out 1).trans rfl;have d2:b6.cell? ⟨a2,2,none⟩=some (.slice A0_2 l0_2.length c0_2):=(blk_cell a0.out 2).trans rfl;have e2:=blk_frozen a0.out 0;have e3:=blk_frozen a0.out 1;have e4:=blk_frozen a0.out 2)|((with_reducible refine gate_callee (f:=22) rfl ?_);refine goesL_ (some 8) rfl rfl Try.func22 zqk rfl #[.agg #[.slice A0_0 l0_0.length c0_0,.slice A0_1 l0_1.length c0_1],.int .i64 a1] rfl zq1 ?_;(with_reducible refine(laws_szLogic.calls k _ _ l0_0 _ _ l0_1 a1 a3 _ ?side1 ?side2 ?side3 ?side4 A3.out).mono ?_);(case side1=> exact zq43);(case side2=>exact a7.out);(case side3=> exact zq44);(case side4=>exact a8.out);rintro e b7 ⟨rfl,hb⟩;refine⟨_,rfl,?_⟩;replace a0:=zqm (blk_below (g:=a2) (o:= .cells #[.slice A0_0 l0_0.length c0_0,.slice A0_1 l0_1.length c0_1,.slice A0_2 l0_2.length c0_2] 37 (0,0)) (zqe a0.out) hb);replace HB:=zqm (below_step zq7 hb);clear hb;have d3:b7.cell? ⟨a2,0,none⟩=some (.slice A0_0 l0_0.length c0_0):=(blk_cell a0.out 0).trans rfl;have d4:b7.cell? ⟨a2,1,none⟩=some (.slice A0_1 l0_1.length c0_1):=(blk_cell a0.out 1).trans rfl;have d5:b7.cell? ⟨a2,2,none⟩=some (.slice A0_2 l0_2.length c0_2):=(blk_cell a0.out 2).trans rfl;have e5:=blk_frozen a0.out 0;have e6:=blk_frozen a0.out 1;have e7:=blk_frozen a0.out 2)|((with_reducible refine gate_callee (f:=23) rfl ?_);refine goesL_ (some 14) rfl rfl Try.func23 zqk rfl #[.slice A0_2 l0_2.length c0_2,.int .i64 a3] rfl zq1 ?_;(with_reducible refine(laws_szLogicS.calls k _ _ l0_2 a3 a5 _ ?side1 ?side2 A8.out).mono ?_);(case side1=> exact zq19);(case side2=>exact b2.out);rintro e f5 ⟨rfl,hb⟩;refine⟨_,rfl,?_⟩;replace a0:=zqm (blk_below (g:=a2) (o:= .cells #[.slice A0_0 l0_0.length c0_0,.slice A0_1 l0_1.length c0_1,.slice A0_2 l0_2.length c0_2] 37 (0,0)) (zqe a0.out) hb);replace HB:=zqm (below_step zq7 hb);clear hb))
   go_ret
   exact⟨zq6,zq7⟩
end
section
attribute [local go_sem] max2_int min2_int max_two min_two max_three min_three max_four min_four
def spec_DeskOk.l0 : Nat → Int → List (List Int) → List Int → List (S25) → Option (Bool)
 | 0, _, _, _, _ => none
 | k + 1, x3, x269000, x269001, x269002 => if x3 < (x269002.length : Int) then (if 0 ≤ x3 then ((spec_LogicOk.f k ((rd_T25 x269002 x3).f0) ((rd_T25 x269002 x3).f1)).bind fun t270 => (if t270 = true then (spec_DeskOk.l0 k (wrap64 (x3 + 1)) x269000 x269001 x269002) else (some false))) else (none)) else ((spec_LogicOk.f k x269000 x269001).bind fun t271 => (if t271 = true then (some (decide ((x269002.length : Int) ≤ 8))) else (some false)))
def spec_DeskOk.f (k : Nat) (l0_0 : List (List Int)) (l0_1 : List Int) (l0_2 : List (S25)) : Option (Bool) := spec_DeskOk.l0 k 0 l0_0 l0_1 l0_2
set_option maxHeartbeats 8000000 in
set_option maxRecDepth 100000 in
theorem spec_DeskOk.calls (k : Nat) (A0_0 : Option Addr) (c0_0 : Nat) (l0_0 : List (List Int)) (A0_1 : Option Addr) (c0_1 : Nat) (l0_1 : List Int) (A0_2 : Option Addr) (c0_2 : Nat) (l0_2 : List (S25)) (r : Bool) (w : World) (hr0_0 : Kd.C (Kd.slice 3 (Kd.int .i64)) w A0_0 l0_0.length l0_0) (hc0_0 : l0_0.length ≤ c0_0) (hr0_1 : Kd.C (Kd.int .i64) w A0_1 l0_1.length l0_1) (hc0_1 : l0_1.length ≤ c0_1) (hr0_2 : Kd.C k25 w A0_2 l0_2.length l0_2) (hc0_2 : l0_2.length ≤ c0_2) (h : spec_DeskOk.f k l0_0 l0_1 l0_2 = some r) :
  Calls Try.prog 11 #[.agg #[.slice A0_0 l0_0.length c0_0, .slice A0_1 l0_1.length c0_1, .slice A0_2 l0_2.length c0_2]] w fun e w' => e = .returned (.bool r) ∧ Below w.heap.size w w' := by
 have hu28:=Try.underlying28;have hu25:=Try.underlying25;have c8:=zqm hr0_0;have c5:=zqm hc0_0;clear hr0_0 hc0_0;have c9:=zqm hr0_1;have c7:=zqm hc0_1;clear hr0_1 hc0_1;have d0:=zqm hr0_2;have h4:=zqm hc0_2;clear hr0_2 hc0_2;have HB:=zqm (Below.refl w.heap.size w);have H:(spec_DeskOk.l0 k 0 l0_0 l0_1 l0_2)=some r:=h;clear h;have H':=zqm H;clear H
 go_enter Try.func11,Try.ntmps11
 go_wp2_with (first|((with_reducible refine gate_dst (N:=1) rfl ?_);(try(refine gate_guard (by rfl) ?_;dsimp only));refine box_event ?hg (N:=1) ?hd (cs:= #[.slice A0_0 l0_0.length c0_0,.slice A0_1 l0_1.length c0_1,.slice A0_2 l0_2.length c0_2]) (t:=28) ?hr ?_;(case hd=>rfl);(case hg=>rfl);(case hr=> exact zq13);intro a1 hg w2 hbox hb;have d7:=zqm (below_step zq0 hb);have a0:=zqm (hbox);have h3:=zqm ((by rw [hg];exact(below_size zq0):w.heap.size≤a1));have a5:=zqm ((by rw [hg];exact(below_size zq0):w.heap.size≤a1));clear HB;have HB:=d7;clear d7 hb hbox hg))
 go_loopg [3] k (fun kq v3 w'=> ∃(a2:Int),v3= .int .i64 a2∧Aside0 (spec_DeskOk.l0 kq a2 l0_0 l0_1 l0_2=some r)∧Aside0 (kq≤k)∧Aside0 (w'.heap[a1]? =some (.cells #[(.slice A0_0 l0_0.length c0_0),(.slice A0_1 l0_1.length c0_1),(.slice A0_2 l0_2.length c0_2)] 28 (0,0)))∧Aside0 (Below w.heap.size w w'))
 case atStart=>exact⟨(0),zq3,H',⟨Nat.le_refl _⟩,⟨zqe a0.out⟩,⟨zq5⟩⟩
 case round=>
  clear H';(try clear c1);(try clear p2);obtain⟨a2,rfl,HA,d6,a0,HB⟩:=hrel
  cases gk with
  |zero=>exact absurd HA.out (by simp [spec_DeskOk.l0])
  |succ k1=>
   have H:=HA.out;clear HA;simp only [spec_DeskOk.l0] at H
   by_cases c3:a2<(l0_2.length:Int)
   ·rw [if_pos c3] at H;have d8:decide (a2<(l0_2.length:Int))=true:=decide_eq_true c3;clear c3
    by_cases c4:0≤a2
    ·rw [if_pos c4] at H;have h5:decide (0≤a2)=true:=decide_eq_true c4;clear c4;replace H:=Option.bind_eq_some_iff.mp H;obtain⟨d9,d5,H⟩:=H;(try dsimp only at H);have A5:=zqm d5;clear d5
     by_cases c6:d9=true
     ·subst c6;rw [if_pos rfl] at H;have H':=zqm H;clear H;have g1:wr.cell? ⟨a1,0,none⟩=some (.slice A0_0 l0_0.length c0_0):=(blk_cell a0.out 0).trans rfl;have g2:wr.cell? ⟨a1,1,none⟩=some (.slice A0_1 l0_1.length c0_1):=(blk_cell a0.out 1).trans rfl;have g3:wr.cell? ⟨a1,2,none⟩=some (.slice A0_2 l0_2.length c0_2):=(blk_cell a0.out 2).trans rfl;have g7:=blk_frozen a0.out 0;have g8:=blk_frozen a0.out 1;have g9:=blk_frozen a0.out 2;have b0:0≤(a2:Int):=zqo;have b1:a2<(l0_2.length:Int):=zqo;obtain⟨c0,b6,b8,b7,b9,c2,a3,a4,a8,a6,a9,a7⟩:=at_T25 d0.out a2 b0 b1
      cases c2
      replace a3:=(HB.out.cell (World.block_lt_of_cell? w _ a3)).trans a3;replace a4:=(HB.out.cell (World.block_lt_of_cell? w _ a4)).trans a4;have b4:=zqm a6;have b2:=zqm a8;clear a6 a8;have b5:=zqm a7;have b3:=zqm a9;clear a7 a9;replace b0:=eq_true b0;replace b1:=eq_true b1
      go_wp2_with (first|((with_reducible refine gate_callee (f:=24) rfl ?_);refine goesL_ (some 16) rfl rfl Try.func24 zqk rfl #[.agg #[.slice b6 ((rd_T25 l0_2 a2).f0).length b8,.slice b7 ((rd_T25 l0_2 a2).f1).length b9]] rfl zq1 ?_;(with_reducible refine(spec_LogicOk.calls k1 _ _ ((rd_T25 l0_2 a2).f0) _ _ ((rd_T25 l0_2 a2).f1) true _ ?side1 ?side2 ?side3 ?side4 A5.out).mono ?_);(case side1=> exact zq27);(case side2=>exact b2.out);(case side3=> exact zq64);(case side4=>exact b3.out);rintro e w8 ⟨rfl,hb⟩;refine⟨_,rfl,?_⟩;replace a0:=zqm (blk_below (g:=a1) (o:= .cells #[.slice A0_0 l0_0.length c0_0,.slice A0_1 l0_1.length c0_1,.slice (some c0) l0_2.length c0_2] 28 (0,0)) (zqe a0.out) hb);replace HB:=zqm (below_step zq5 hb);clear hb))
      go_roundg k1
      (case measure=>have:=d6.out;omega);case rel=>exact⟨(wrap64 (a2+1)),zq3,H',⟨by have:=d6.out;omega⟩,⟨zqe a0.out⟩,⟨zq5⟩⟩
     ·replace c6:=Bool.eq_false_iff.mpr c6;subst c6;rw [if_neg (show¬(false=true) by decide)] at H;obtain rfl:=Option.some.inj H;have g4:wr.cell? ⟨a1,0,none⟩=some (.slice A0_0 l0_0.length c0_0):=(blk_cell a0.out 0).trans rfl;have g5:wr.cell? ⟨a1,1,none⟩=some (.slice A0_1 l0_1.length c0_1):=(blk_cell a0.out 1).trans rfl;have g6:wr.cell? ⟨a1,2,none⟩=some (.slice A0_2 l0_2.length c0_2):=(blk_cell a0.out 2).trans rfl;have h0:=blk_frozen a0.out 0;have h1:=blk_frozen a0.out 1;have h2:=blk_frozen a0.out 2;have b0:0≤(a2:Int):=zqo;have b1:a2<(l0_2.length:Int):=zqo;obtain⟨c0,b6,b8,b7,b9,c2,a3,a4,a8,a6,a9,a7⟩:=at_T25 d0.out a2 b0 b1
      cases c2
      replace a3:=(HB.out.cell (World.block_lt_of_cell? w _ a3)).trans a3;replace a4:=(HB.out.cell (World.block_lt_of_cell? w _ a4)).trans a4;have b4:=zqm a6;have b2:=zqm a8;clear a6 a8;have b5:=zqm a7;have b3:=zqm a9;clear a7 a9;replace b0:=eq_true b0;replace b1:=eq_true b1
      go_wp2_with (first|((with_reducible refine gate_callee (f:=24) rfl ?_);refine goesL_ (some 16) rfl rfl Try.func24 zqk rfl #[.agg #[.slice b6 ((rd_T25 l0_2 a2).f0).length b8,.slice b7 ((rd_T25 l0_2 a2).f1).length b9]] rfl zq1 ?_;(with_reducible refine(spec_LogicOk.calls k1 _ _ ((rd_T25 l0_2 a2).f0) _ _ ((rd_T25 l0_2 a2).f1) false _ ?side1 ?side2 ?side3 ?side4 A5.out).mono ?_);(case side1=> exact zq27);(case side2=>exact b2.out);(case side3=> exact zq64);(case side4=>exact b3.out);rintro e h6 ⟨rfl,hb⟩;refine⟨_,rfl,?_⟩;replace a0:=zqm (blk_below (g:=a1) (o:= .cells #[.slice A0_0 l0_0.length c0_0,.slice A0_1 l0_1.length c0_1,.slice (some c0) l0_2.length c0_2] 28 (0,0)) (zqe a0.out) hb);replace HB:=zqm (below_step zq5 hb);clear hb))
      go_ret
      exact⟨zq6,zq5⟩
    ·rw [if_neg c4] at H;exact absurd H (by simp)
   ·rw [if_neg c3] at H;have d8:decide (a2<(l0_2.length:Int))=false:=decide_eq_false c3;clear c3;replace H:=Option.bind_eq_some_iff.mp H;obtain⟨e0,d2,H⟩:=H;(try dsimp only at H);have d4:=zqm d2;clear d2
    by_cases d1:e0=true
    ·subst d1;rw [if_pos rfl] at H;obtain rfl:=Option.some.inj H;have e1:wr.cell? ⟨a1,0,none⟩=some (.slice A0_0 l0_0.length c0_0):=(blk_cell a0.out 0).trans rfl;have e2:wr.cell? ⟨a1,1,none⟩=some (.slice A0_1 l0_1.length c0_1):=(blk_cell a0.out 1).trans rfl;have e3:wr.cell? ⟨a1,2,none⟩=some (.slice A0_2 l0_2.length c0_2):=(blk_cell a0.out 2).trans rfl;have f2:=blk_frozen a0.out 0;have f3:=blk_frozen a0.out 1;have f4:=blk_frozen a0.out 2
     go_wp2_with (first|((with_reducible refine gate_callee (f:=24) rfl ?_);refine goesL_ (some 20) rfl rfl Try.func24 zqk rfl #[.agg #[.slice A0_0 l0_0.length c0_0,.slice A0_1 l0_1.length c0_1]] rfl zq1 ?_;(with_reducible refine(spec_LogicOk.calls k1 _ _ l0_0 _ _ l0_1 true _ ?side1 ?side2 ?side3 ?side4 d4.out).mono ?_);(case side1=> exact zq65);(case side2=>exact c5.out);(case side3=> exact zq66);(case side4=>exact c7.out);rintro e d3 ⟨rfl,hb⟩;refine⟨_,rfl,?_⟩;replace a0:=zqm (blk_below (g:=a1) (o:= .cells #[.slice A0_0 l0_0.length c0_0,.slice A0_1 l0_1.length c0_1,.slice A0_2 l0_2.length c0_2] 28 (0,0)) (zqe a0.out) hb);replace HB:=zqm (below_step zq5 hb);clear hb;have e4:d3.cell? ⟨a1,0,none⟩=some (.slice A0_0 l0_0.length c0_0):=(blk_cell a0.out 0).trans rfl;have e5:d3.cell? ⟨a1,1,none⟩=some (.slice A0_1 l0_1.length c0_1):=(blk_cell a0.out 1).trans rfl;have e6:d3.cell? ⟨a1,2,none⟩=some (.slice A0_2 l0_2.length c0_2):=(blk_cell a0.out 2).trans rfl;have f5:=blk_frozen a0.out 0;have f6:=blk_frozen a0.out 1;have f7:=blk_frozen a0.out 2))
     go_ret
     exact⟨zq6,zq5⟩
    ·replace d1:=Bool.eq_false_iff.mpr d1;subst d1;rw [if_neg (show¬(false=true) by decide)] at H;obtain rfl:=Option.some.inj H;have e7:wr.cell? ⟨a1,0,none⟩=some (.slice A0_0 l0_0.length c0_0):=(blk_cell a0.out 0).trans rfl;have e8:wr.cell? ⟨a1,1,none⟩=some (.slice A0_1 l0_1.length c0_1):=(blk_cell a0.out 1).trans rfl;have e9:wr.cell? ⟨a1,2,none⟩=some (.slice A0_2 l0_2.length c0_2):=(blk_cell a0.out 2).trans rfl;have f8:=blk_frozen a0.out 0;have f9:=blk_frozen a0.out 1;have g0:=blk_frozen a0.out 2
     go_wp2_with (first|((with_reducible refine gate_callee (f:=24) rfl ?_);refine goesL_ (some 20) rfl rfl Try.func24 zqk rfl #[.agg #[.slice A0_0 l0_0.length c0_0,.slice A0_1 l0_1.length c0_1]] rfl zq1 ?_;(with_reducible refine(spec_LogicOk.calls k1 _ _ l0_0 _ _ l0_1 false _ ?side1 ?side2 ?side3 ?side4 d4.out).mono ?_);(case side1=> exact zq65);(case side2=>exact c5.out);(case side3=> exact zq66);(case side4=>exact c7.out);rintro e h7 ⟨rfl,hb⟩;refine⟨_,rfl,?_⟩;replace a0:=zqm (blk_below (g:=a1) (o:= .cells #[.slice A0_0 l0_0.length c0_0,.slice A0_1 l0_1.length c0_1,.slice A0_2 l0_2.length c0_2] 28 (0,0)) (zqe a0.out) hb);replace HB:=zqm (below_step zq5 hb);clear hb))
     go_ret
     exact⟨zq6,zq5⟩
end
section
attribute [local go_sem] max2_int min2_int max_two min_two max_three min_three max_four min_four
def laws_toLogicS.l0 : Nat → List (S34) → List (S25) → Int → Option ((List (S25)))
 | 0, _, _, _ => none
 | k + 1, x0, x3, x4 => if x4 < (x0.length : Int) then (if 0 ≤ x4 then ((laws_toLogic.f k ((rd_T34 x0 x4).f0) ((rd_T34 x0 x4).f1)).bind fun bt298 => (if x4 < (x3.length : Int) then (laws_toLogicS.l0 k x0 (x3.set (x4 : Int).toNat (⟨bt298.1, bt298.2⟩ : S25)) (wrap64 (x4 + 1))) else (none))) else (none)) else (some x3)
def laws_toLogicS.f (k : Nat) (l0 : List (S34)) : Option ((List (S25))) := if 0 ≤ (l0.length : Int) then (if ((l0.length : Int) : Int).toNat ≤ 5864062014805 then (laws_toLogicS.l0 k l0 (List.replicate ((l0.length : Int) : Int).toNat z25) 0) else (none)) else (none)
set_option maxHeartbeats 8000000 in
set_option maxRecDepth 100000 in
theorem laws_toLogicS.calls (k : Nat) (A0 : Option Addr) (c0 : Nat) (l0 : List (S34)) (r : List (S25)) (w : World) (hr0 : Kd.C k34 w A0 l0.length l0) (hc0 : l0.length ≤ c0) (h : laws_toLogicS.f k l0 = some r) :
  Calls Try.prog 26 #[.slice A0 l0.length c0] w fun e w' => ∃ v0_ : Value, e = .returned (v0_) ∧ Kd.R k25 25 w' w.heap.size (fun _ => True) v0_ r ∧ Below w.heap.size w w' := by
 have hu34:=Try.underlying34;have hu25:=Try.underlying25;have g9:=zqm hr0;have i8:=zqm hc0;clear hr0 hc0;have HB:=zqm (Below.refl w.heap.size w);have H:(if 0≤(l0.length:Int) then(if((l0.length:Int):Int).toNat≤5864062014805 then(laws_toLogicS.l0 k l0 (List.replicate ((l0.length:Int):Int).toNat z25) 0) else(none)) else(none))=some r:=h;clear h
 by_cases c2:0≤(l0.length:Int)
 ·rw [if_pos c2] at H;have g1:=eq_true c2;have g2:decide (0≤(l0.length:Int))=true:=decide_eq_true c2;clear c2
  by_cases c3:((l0.length:Int):Int).toNat≤5864062014805
  ·rw [if_pos c3] at H;have g3:=eq_true c3;have g4:decide (((l0.length:Int):Int).toNat≤5864062014805)=true:=decide_eq_true c3;clear c3;obtain⟨f6,b4⟩: ∃y_:List (S25),y_=(List.replicate ((l0.length:Int):Int).toNat z25):=⟨_,rfl⟩;replace H:(laws_toLogicS.l0 k l0 f6 0)=some r:=zqy b4 H;have d0:=zqm b4;clear b4;have H':=zqm H;clear H
   go_enter Try.func26,Try.ntmps26
   go_wp2_with (first|((with_reducible refine gate_dst (N:=7) rfl ?_);refine Kd.R_make k25 _ 25 rfl (N:=7) rfl 26 _ _ rfl (l0.length:Int) rfl rfl Try.underlying26 (.agg #[(.slice none 0 0),(.slice none 0 0)]) 48 info25 rfl (by decide) (by omega) z25 (ok:=fun _=>True) (okp:=fun _=>True) (k25_mkM _ _ _ z25 (Kd.R_nil _ _ _ _ _) (Kd.R_nil _ _ _ _ _)) (fun _ hk=>hk) trivial (zqo) (Nat.le_trans (Nat.mul_le_mul_right _ (zqo:(l0.length:Int).toNat≤5864062014805)) (by omega)) (Below.refl _ _) (Nat.le_refl _) ?_;intro g8 w4 b8 hb hg_ hnew_;clear hg_ hnew_;(first|rw [← d0.out] at b8|(simp only [Int.reduceToNat] at b8;rw [← d0.out] at b8));have f7:=zqm (Kd.R_lower b8 (below_size zq0));replace HB:=zqm (below_step zq0 hb);clear hb b8))
   go_loopg [4] k (fun kq v4 w'=> ∃(a1:List (S25)) (a0:Int),v4= .int .i64 a0∧Aside0 (laws_toLogicS.l0 kq l0 a1 a0=some r)∧Aside0 (kq≤k)∧Aside0 (Kd.R k25 25 w' w.heap.size (fun _=>True) g8 a1)∧Aside0 (Below w.heap.size w w'))
   case atStart=>exact⟨(f6),(0),zq3,H',⟨Nat.le_refl _⟩,⟨zqfR f7.out⟩,⟨zq0⟩⟩
   case round=>
    clear H';(try clear c2);(try clear g1);(try clear g2);(try clear p2);(try clear c3);(try clear g3);(try clear g4);obtain⟨a1,a0,rfl,HA,g0,HO_3,HB⟩:=hrel
    cases gk with
    |zero=>exact absurd HA.out (by simp [laws_toLogicS.l0])
    |succ k1=>
     have H:=HA.out;clear HA;simp only [laws_toLogicS.l0] at H
     by_cases c6:a0<(l0.length:Int)
     ·rw [if_pos c6] at H;have g5:decide (a0<(l0.length:Int))=true:=decide_eq_true c6;clear c6
      by_cases c7:0≤a0
      ·rw [if_pos c7] at H;have i3:decide (0≤a0)=true:=decide_eq_true c7;clear c7;replace H:=Option.bind_eq_some_iff.mp H;obtain⟨⟨b6,b7⟩,f9,H⟩:=H;(try dsimp only at H);have A8:=zqm f9;clear f9
       by_cases c9:a0<(a1.length:Int)
       ·rw [if_pos c9] at H;have i4:decide (a0<(a1.length:Int))=true:=decide_eq_true c9;clear c9;obtain⟨c8,b5⟩: ∃y_:List (S25),y_=(a1.set (a0:Int).toNat (⟨b6,b7⟩:S25)):=⟨_,rfl⟩;replace H:(laws_toLogicS.l0 k1 l0 c8 (wrap64 (a0+1)))=some r:=zqy b5 H;have f8:=zqm b5;clear b5;have H':=zqm H;clear H;have b9:0≤(a0:Int):=zqo;have c1:a0<(l0.length:Int):=zqo;obtain⟨i2,d5,d8,d6,d9,g6,a3,a4,a9,a7,b0,a8⟩:=at_T34 g9.out a0 b9 c1
        cases g6
        replace a3:=(HB.out.cell (World.block_lt_of_cell? w _ a3)).trans a3;replace a4:=(HB.out.cell (World.block_lt_of_cell? w _ a4)).trans a4;have d3:=zqm a7;have d1:=zqm a9;clear a7 a9;have d4:=zqm a8;have d2:=zqm b0;clear a8 b0;replace b9:=eq_true b9;replace c1:=eq_true c1
        go_wp2_with (first|((with_reducible refine gate_callee (f:=25) rfl ?_);refine goesL_ (some 20) rfl rfl Try.func25 zqk rfl #[.agg #[.slice d5 ((rd_T34 l0 a0).f0).length d8,.slice d6 ((rd_T34 l0 a0).f1).length d9]] rfl zq1 ?_;(with_reducible refine(laws_toLogic.calls k1 _ _ ((rd_T34 l0 a0).f0) _ _ ((rd_T34 l0 a0).f1) b6 b7 _ ?side1 ?side2 ?side3 ?side4 A8.out).mono ?_);(case side1=>repeat(first|exact(Kd.C_below d3.out HB.out)|(with_reducible refine Kd.C_alloc ?_ _)|(with_reducible refine Kd.C_drewN ?_ _)|(with_reducible refine Kd.C_drew ?_)));(case side2=>exact d1.out);(case side3=>repeat(first|exact(Kd.C_below d4.out HB.out)|(with_reducible refine Kd.C_alloc ?_ _)|(with_reducible refine Kd.C_drewN ?_ _)|(with_reducible refine Kd.C_drew ?_)));(case side4=>exact d2.out);rintro e a6 ⟨c4,c5,rfl,e5,e6,hb⟩;refine⟨_,rfl,?_⟩;replace HO_3:=zqm (Kd.R_mono (Kd.R_told (Kd.R_told (Kd.R_old (zqfR HO_3.out) hb) (Kd.S_base e5)) (Kd.R_base e6)) (fun _ h_=>h_.1));have b1:=zqm (Kd.S_lower e5 (below_size zq0));have b2:=zqm (Kd.R_lower e6 (below_size zq0));replace HB:=zqm (below_step zq0 hb);clear hb e5 e6;have e9:0≤(a0:Int):=zqo;have f2:(a0:Int)<((a1.length:Int):Int):=zqo;obtain⟨a2,e0,e1,e2,g7,i7,d7⟩:=Kd.R_form HO_3.out (by omega);(first|cases e1|(injection e1 with ea_ en_ ec_;(first|subst ea_|(injection ea_ with ea_;subst ea_));subst ec_;clear en_));have GB10:=zqm e2;have GG10:=zqm d7;clear e2 g7 d7;obtain⟨i5,hcl10,hM10,b3,hfr10⟩:=Kd.R_elem HO_3.out z25 (a0:Int) e9 f2;obtain⟨f3,f4,rfl,h2,h3⟩:=k25_openM hM10;have h8:a6.cell? ⟨a2,(a0:Int).toNat*2,none⟩=some (f3):=b3 0 _ rfl;have h9:a6.cell? ⟨a2,(a0:Int).toNat*2+1,none⟩=some (f4):=b3 1 _ rfl;have h6:a6.frozen? ⟨a2,(a0:Int).toNat*2,none⟩=false:=hfr10 0;have h7:a6.frozen? ⟨a2,(a0:Int).toNat*2+1,none⟩=false:=hfr10 1;clear hcl10 b3 hfr10;(try clear hM10);replace e9:=eq_true e9;replace f2:=eq_true f2;have n_:=zqm (Kd.R_mono (ok':=(fun k_=>some k_≠(c4:Value).ownBlock∧some k_≠(c5:Value).ownBlock)) HO_3.out (fun k_ hk=>⟨hk.1.2,hk.2⟩));clear HO_3;have HO_3:=n_;clear n_;have HX12:=zqm (show Kd.R k25 25 a6 w.heap.size (fun _=>True) (.slice (some ⟨a2,0,none⟩) a1.length e0) a1 from (by refine zqfR ?_;exact Kd.R_mono HO_3.out (fun _ hk=>trivial)));obtain⟨i6,hcl12,hM12,a5,hfr12⟩:=Kd.R_elem HX12.out z25 (a0:Int) (zqo) (by have h_:(a0:Int)<((a1.length:Int):Int):=zqo;first|exact h_|(have e_:=(Kd.R_reads' HO_3.out).1;omega)|simpa using h_);obtain⟨i0,i1,rfl,h4,h5⟩:=k25_openM hM12;have HP12:=Kd.R_seg HX12.out (a0:Int) (zqo) (by have h_:(a0:Int)<((a1.length:Int):Int):=zqo;first|exact h_|(have e_:=(Kd.R_reads' HO_3.out).1;omega)|simpa using h_) (seg:= [c4,c5]) (j:=0) hcl12 a5 (show 2≤2 from by decide) (x':=(⟨b6,b7⟩:S25)) (k25_mkM _ _ _ (⟨b6,b7⟩:S25) (Kd.R_mono (Kd.R_apart' ((Kd.S_R b1.out)) (Kd.R_typed HO_3.out) (by decide)) (fun k_ hk=>⟨trivial,fun e_=>(hk.2) (by rw [e_];rfl)⟩)) (Kd.R_mono (Kd.R_apart' (b2.out) (Kd.R_typed HO_3.out) (by decide)) (fun k_ hk=>⟨trivial,fun e_=>(hk.2) (by rw [e_];rfl)⟩))) (fun _ hk=>hk);have e7:=a5 0 _ rfl;(try simp only [show (k25).sz=2 from rfl,Nat.mul_one,Nat.add_zero] at e7);have e3:=hfr12 0;(try simp only [show (k25).sz=2 from rfl,Nat.mul_one,Nat.add_zero] at e3);have e8:=a5 1 _ rfl;(try simp only [show (k25).sz=2 from rfl,Nat.mul_one,Nat.add_zero] at e8);have e4:=hfr12 1;(try simp only [show (k25).sz=2 from rfl,Nat.mul_one,Nat.add_zero] at e4);clear hcl12 a5 hfr12;(try clear hM12))|((with_reducible refine gate_store (t:=25) (p:=21) rfl ?_);refine store_event (t:=25) (p:=21) (v:=?vo_w13) (w1:=((a6.setCell ⟨a2,(a0:Int).toNat*2,none⟩ (c4)).setCell ⟨a2,(a0:Int).toNat*2+1,none⟩ (c5))) ?hg ?ho ?hn ?hr ?_;(case ho=>rfl);(case hg=>rfl);(case hn=>rfl);(case hr=>(obtain⟨_,_,h0⟩:=Kd.R_slice (Kd.S_R b1.out);obtain⟨_,_,h1⟩:=Kd.R_slice b2.out;rw [h0,h1];first|(go_simp;done)|(go_simp;rfl)));intro f5 hw;have hg:a6.grownBy f5 (some a2):=(by rw [hw];exact HP12.2);have hp_:Kd.R k25 25 f5 w.heap.size (fun _=>True) (.slice (some ⟨a2,0,none⟩) a1.length e0) c8:=(by rw [hw,f8.out];exact HP12.1);clear HP12;replace HO_3:=zqm (hp_);replace HB:=zqm ((by rw [hw];exact below_set (below_set (HB.out) GB10.out) GB10.out:Below w.heap.size w f5));clear b1 b2;clear hg hw hp_))
        go_roundg k1
        (case measure=>have:=g0.out;omega);case rel=>exact⟨(c8),(wrap64 (a0+1)),zq3,H',⟨by have:=g0.out;omega⟩,⟨zqfR HO_3.out⟩,⟨zq0⟩⟩
       ·rw [if_neg c9] at H;exact absurd H (by simp)
      ·rw [if_neg c7] at H;exact absurd H (by simp)
     ·rw [if_neg c6] at H;have g5:decide (a0<(l0.length:Int))=false:=decide_eq_false c6;clear c6;obtain rfl:=Option.some.inj H
      go_wp2
      go_ret
      exact⟨_,zq6,zqfR HO_3.out,zq0⟩
  ·rw [if_neg c3] at H;exact absurd H (by simp)
 ·rw [if_neg c2] at H;exact absurd H (by simp)
end
section
attribute [local go_sem] max2_int min2_int max_two min_two max_three min_three max_four min_four
def laws_toDesk.f (k : Nat) (l0_0 : List (List Int)) (l0_1 : List Int) (l0_2 : List (S34)) : Option ((List (List Int)) × List Int × (List (S25))) := (laws_toLogic.f k l0_0 l0_1).bind fun bt308 => ((laws_toLogicS.f k l0_2).bind fun t314 => (some (bt308.1, bt308.2, t314)))
set_option maxHeartbeats 8000000 in
set_option maxRecDepth 100000 in
theorem laws_toDesk.calls (k : Nat) (A0_0 : Option Addr) (c0_0 : Nat) (l0_0 : List (List Int)) (A0_1 : Option Addr) (c0_1 : Nat) (l0_1 : List Int) (A0_2 : Option Addr) (c0_2 : Nat) (l0_2 : List (S34)) (r1 : List (List Int)) (r2 : List Int) (r3 : List (S25)) (w : World) (hr0_0 : Kd.C (Kd.slice 3 (Kd.int .i64)) w A0_0 l0_0.length l0_0) (hc0_0 : l0_0.length ≤ c0_0) (hr0_1 : Kd.C (Kd.int .i64) w A0_1 l0_1.length l0_1) (hc0_1 : l0_1.length ≤ c0_1) (hr0_2 : Kd.C k34 w A0_2 l0_2.length l0_2) (hc0_2 : l0_2.length ≤ c0_2) (h : laws_toDesk.f k l0_0 l0_1 l0_2 = some (r1, r2, r3)) :
  Calls Try.prog 12 #[.agg #[.slice A0_0 l0_0.length c0_0, .slice A0_1 l0_1.length c0_1, .slice A0_2 l0_2.length c0_2]] w fun e w' => ∃ v0_ v1_ v2_ : Value, e = .returned (.agg #[v0_, v1_, v2_]) ∧ Kd.S (Kd.slice 3 (Kd.int .i64)) 23 w' w.heap.size (fun k_ => some k_ ≠ (v1_ : Value).ownBlock) v0_ r1 ∧ Kd.R (Kd.int .i64) 3 w' w.heap.size (fun _ => True) v1_ r2 ∧ Kd.R k25 25 w' w.heap.size (fun k_ => some k_ ≠ (v0_ : Value).ownBlock ∧ some k_ ≠ (v1_ : Value).ownBlock) v2_ r3 ∧ Below w.heap.size w w' := by
 have hu37:=Try.underlying37;have hu28:=Try.underlying28;have hu34:=Try.underlying34;have hu25:=Try.underlying25;have d6:=zqm hr0_0;have d3:=zqm hc0_0;clear hr0_0 hc0_0;have d7:=zqm hr0_1;have d4:=zqm hc0_1;clear hr0_1 hc0_1;have d8:=zqm hr0_2;have d5:=zqm hc0_2;clear hr0_2 hc0_2;have HB:=zqm (Below.refl w.heap.size w);have H:((laws_toLogic.f k l0_0 l0_1).bind fun d2=>((laws_toLogicS.f k l0_2).bind fun b1=>(some (d2.1,d2.2,b1))))=some (r1,r2,r3):=h;clear h;replace H:=Option.bind_eq_some_iff.mp H;obtain⟨⟨a7,a8⟩,d9,H⟩:=H;replace H:((laws_toLogicS.f k l0_2).bind fun b1=>(some (a7,a8,b1)))=some (r1,r2,r3):=H;have A2:=zqm d9;clear d9;replace H:=Option.bind_eq_some_iff.mp H;obtain⟨b1,e0,H⟩:=H;replace H:(some (a7,a8,b1))=some (r1,r2,r3):=H;have A3:=zqm e0;clear e0;simp only [Option.some.injEq,Prod.mk.injEq] at H;obtain⟨rfl,rfl,rfl⟩:=H
 go_enter Try.func12,Try.ntmps12
 go_wp2_with (first|((with_reducible refine gate_dst (N:=1) rfl ?_);refine box_event ?hg (N:=1) ?hd (cs:= #[.slice A0_0 l0_0.length c0_0,.slice A0_1 l0_1.length c0_1,.slice A0_2 l0_2.length c0_2]) (t:=37) ?hr ?_;(case hd=>rfl);(case hg=>rfl);(case hr=> exact zq13);intro a4 hg w4 hbox hb;have b8:=zqm (below_step zq0 hb);have a0:=zqm (hbox);have h6:=zqm ((by rw [hg];exact(below_size zq0):w.heap.size≤a4));have a6:=zqm ((by rw [hg];exact(below_size zq0):w.heap.size≤a4));clear HB;have HB:=b8;clear b8 hb hbox hg)|((with_reducible refine gate_dst (N:=2) rfl ?_);refine box_event ?hg (N:=2) ?hd (cs:= #[.slice none 0 0,.slice none 0 0,.slice none 0 0]) (t:=28) ?hr ?_;(case hd=>rfl);(case hg=>rfl);(case hr=> exact zq13);intro a2 hg w5 hbox hb;have b8:=zqm (blk_below (g:=a4) (o:= .cells #[.slice A0_0 l0_0.length c0_0,.slice A0_1 l0_1.length c0_1,.slice A0_2 l0_2.length c0_2] 37 (0,0)) (zqe a0.out) hb);have c3:=zqm (below_step zq2 hb);have a5:=zqm (hbox);have h7:=zqm ((by rw [hg];exact(below_size zq2):w.heap.size≤a2));have b2:=zqm ((by rw [hg];exact(below_size zq2):w.heap.size≤a2));have c6:=zqm ((by rw [hg];exact Nat.ne_of_lt (blk_lt (g:=a4) (o:= .cells #[.slice A0_0 l0_0.length c0_0,.slice A0_1 l0_1.length c0_1,.slice A0_2 l0_2.length c0_2] 37 (0,0)) (zqe a0.out)):a4≠a2));have c7:=zqm ((by rw [hg];exact Nat.ne_of_gt (blk_lt (g:=a4) (o:= .cells #[.slice A0_0 l0_0.length c0_0,.slice A0_1 l0_1.length c0_1,.slice A0_2 l0_2.length c0_2] 37 (0,0)) (zqe a0.out)):a2≠a4));clear a0 HB;have a0:=b8;have HB:=c3;clear b8 c3 hb hbox hg)|((with_reducible refine gate_dst (N:=3) rfl ?_);refine box_event ?hg (N:=3) ?hd (cs:= #[.slice none 0 0,.slice none 0 0,.slice none 0 0]) (t:=28) ?hr ?_;(case hd=>rfl);(case hg=>rfl);(case hr=> exact zq13);intro a1 hg w6 hbox hb;have b8:=zqm (blk_below (g:=a4) (o:= .cells #[.slice A0_0 l0_0.length c0_0,.slice A0_1 l0_1.length c0_1,.slice A0_2 l0_2.length c0_2] 37 (0,0)) (zqe a0.out) hb);have c3:=zqm (blk_below (g:=a2) (o:= .cells #[.slice none 0 0,.slice none 0 0,.slice none 0 0] 28 (0,0)) (zqe a5.out) hb);have e2:=zqm (below_step zq42 hb);have a3:=zqm (hbox);have h8:=zqm ((by rw [hg];exact(below_size zq42):w.heap.size≤a1));have b6:=zqm ((by rw [hg];exact(below_size zq42):w.heap.size≤a1));have b7:=zqm ((by rw [hg];exact Nat.ne_of_lt (blk_lt (g:=a4) (o:= .cells #[.slice A0_0 l0_0.length c0_0,.slice A0_1 l0_1.length c0_1,.slice A0_2 l0_2.length c0_2] 37 (0,0)) (zqe a0.out)):a4≠a1));have c8:=zqm ((by rw [hg];exact Nat.ne_of_gt (blk_lt (g:=a4) (o:= .cells #[.slice A0_0 l0_0.length c0_0,.slice A0_1 l0_1.length c0_1,.slice A0_2 l0_2.length c0_2] 37 (0,0)) (zqe a0.out)):a1≠a4));have b5:=zqm ((by rw [hg];exact Nat.ne_of_lt (blk_lt (g:=a2) (o:= .cells #[.slice none 0 0,.slice none 0 0,.slice none 0 0] 28 (0,0)) (zqe a5.out)):a2≠a1));have c9:=zqm ((by rw [hg];exact Nat.ne_of_gt (blk_lt (g:=a2) (o:= .cells #[.slice none 0 0,.slice none 0 0,.slice none 0 0] 28 (0,0)) (zqe a5.out)):a1≠a2));clear a0 a5 HB;have a0:=b8;have a5:=c3;have HB:=e2;clear b8 c3 e2 hb hbox hg;have i1:=c6.out;have i3:=c7.out;have i2:=b7.out;have i4:=c8.out;have h0:w6.cell? ⟨a4,0,none⟩=some (.slice A0_0 l0_0.length c0_0):=(blk_cell a0.out 0).trans rfl;have h1:w6.cell? ⟨a4,1,none⟩=some (.slice A0_1 l0_1.length c0_1):=(blk_cell a0.out 1).trans rfl;have h2:w6.cell? ⟨a4,2,none⟩=some (.slice A0_2 l0_2.length c0_2):=(blk_cell a0.out 2).trans rfl;have h3:=blk_frozen a0.out 0;have h4:=blk_frozen a0.out 1;have h5:=blk_frozen a0.out 2)|((with_reducible refine gate_callee (f:=25) rfl ?_);refine goesL_ (some 6) rfl rfl Try.func25 zqk rfl #[.agg #[.slice A0_0 l0_0.length c0_0,.slice A0_1 l0_1.length c0_1]] rfl zq1 ?_;(with_reducible refine(laws_toLogic.calls k _ _ l0_0 _ _ l0_1 a7 a8 _ ?side1 ?side2 ?side3 ?side4 A2.out).mono ?_);(case side1=> exact zq10);(case side2=>exact d3.out);(case side3=> exact zq11);(case side4=>exact d4.out);rintro e c4 ⟨i5,i6,rfl,d0,e1,hb⟩;refine⟨_,rfl,?_⟩;have b9:=zqm (Kd.S_lower d0 (below_size zq14));have c0:=zqm (Kd.R_lower e1 (below_size zq14));replace a0:=zqm (blk_below (g:=a4) (o:= .cells #[.slice A0_0 l0_0.length c0_0,.slice A0_1 l0_1.length c0_1,.slice A0_2 l0_2.length c0_2] 37 (0,0)) (zqe a0.out) hb);replace a5:=zqm (blk_below (g:=a2) (o:= .cells #[.slice none 0 0,.slice none 0 0,.slice none 0 0] 28 (0,0)) (zqe a5.out) hb);replace a3:=zqm (blk_below (g:=a1) (o:= .cells #[.slice none 0 0,.slice none 0 0,.slice none 0 0] 28 (0,0)) (zqe a3.out) hb);replace HB:=zqm (below_step zq14 hb);clear hb d0 e1;obtain⟨a9,b0,e3⟩:=Kd.S_slice b9.out;subst e3;have h9:=c9.out;have i0:=b5.out;have e6:c4.cell? ⟨a1,0,none⟩=some (.slice none 0 0):=(blk_cell a3.out 0).trans rfl;have e7:c4.cell? ⟨a1,1,none⟩=some (.slice none 0 0):=(blk_cell a3.out 1).trans rfl;have e8:c4.cell? ⟨a1,2,none⟩=some (.slice none 0 0):=(blk_cell a3.out 2).trans rfl;have f8:=blk_frozen a3.out 0;have f9:=blk_frozen a3.out 1;have g0:=blk_frozen a3.out 2;obtain⟨b3,b4,e4⟩:=Kd.R_slice c0.out;subst e4;have e9:c4.cell? ⟨a4,0,none⟩=some (.slice A0_0 l0_0.length c0_0):=(blk_cell a0.out 0).trans rfl;have f0:c4.cell? ⟨a4,1,none⟩=some (.slice A0_1 l0_1.length c0_1):=(blk_cell a0.out 1).trans rfl;have f1:c4.cell? ⟨a4,2,none⟩=some (.slice A0_2 l0_2.length c0_2):=(blk_cell a0.out 2).trans rfl;have g1:=blk_frozen a0.out 0;have g2:=blk_frozen a0.out 1;have g3:=blk_frozen a0.out 2)|((with_reducible refine gate_callee (f:=26) rfl ?_);refine goesL_ (some 10) rfl rfl Try.func26 zqk rfl #[.slice A0_2 l0_2.length c0_2] rfl zq1 ?_;(with_reducible refine(laws_toLogicS.calls k _ _ l0_2 b1 _ ?side1 ?side2 A3.out).mono ?_);(case side1=>exact Kd.C_below d8.out zq14);(case side2=>exact d5.out);rintro e c5 ⟨i7,rfl,d0,hb⟩;refine⟨_,rfl,?_⟩;have b8:=zqm (Kd.S_below zq54 hb);have c3:=zqm (Kd.R_below zq53 hb);have d1:=zqm (Kd.R_lower (Kd.R_new' (Kd.R_new' d0 (Kd.S_lt zq54)) (Kd.R_lt zq53)) (below_size zq14));replace a0:=zqm (blk_below (g:=a4) (o:= .cells #[.slice A0_0 l0_0.length c0_0,.slice A0_1 l0_1.length c0_1,.slice A0_2 l0_2.length c0_2] 37 (0,0)) (by refine zqe ?_;refine blk_far ?_ b7.out _;refine zqe ?_;refine blk_far ?_ b7.out _;refine zqe ?_;exact a0.out) hb);replace a5:=zqm (blk_below (g:=a2) (o:= .cells #[.slice none 0 0,.slice none 0 0,.slice none 0 0] 28 (0,0)) (by refine zqe ?_;refine blk_far ?_ b5.out _;refine zqe ?_;refine blk_far ?_ b5.out _;refine zqe ?_;exact a5.out) hb);replace a3:=zqm (blk_below (g:=a1) (o:= .cells #[.slice a9 a7.length b0,.slice b3 a8.length b4,.slice none 0 0] 28 (0,0)) (by refine zqe ?_;refine blk_put (cs:= #[.slice a9 a7.length b0,.slice none 0 0,.slice none 0 0]) ?_ 1 _ rfl;refine zqe ?_;refine blk_put (cs:= #[.slice none 0 0,.slice none 0 0,.slice none 0 0]) ?_ 0 _ rfl;refine zqe ?_;exact a3.out) hb);replace HB:=zqm (below_step zq14 hb);clear b9 c0;have b9:=b8;have c0:=c3;clear b8 c3 hb d0;obtain⟨c1,c2,e5⟩:=Kd.R_slice d1.out;subst e5;have f2:c5.cell? ⟨a1,0,none⟩=some (.slice a9 a7.length b0):=(blk_cell a3.out 0).trans rfl;have f3:c5.cell? ⟨a1,1,none⟩=some (.slice b3 a8.length b4):=(blk_cell a3.out 1).trans rfl;have f4:c5.cell? ⟨a1,2,none⟩=some (.slice none 0 0):=(blk_cell a3.out 2).trans rfl;have g4:=blk_frozen a3.out 0;have g5:=blk_frozen a3.out 1;have g6:=blk_frozen a3.out 2;have f5:c5.cell? ⟨a2,0,none⟩=some (.slice none 0 0):=(blk_cell a5.out 0).trans rfl;have f6:c5.cell? ⟨a2,1,none⟩=some (.slice none 0 0):=(blk_cell a5.out 1).trans rfl;have f7:c5.cell? ⟨a2,2,none⟩=some (.slice none 0 0):=(blk_cell a5.out 2).trans rfl;have g7:=blk_frozen a5.out 0;have g8:=blk_frozen a5.out 1;have g9:=blk_frozen a5.out 2))
 refine bodyPost_ret (results_cell_row rfl _ _ a2 28 #[.slice a9 a7.length b0,.slice b3 a8.length b4,.slice c1 b1.length c2] (0,0) _ rfl (by refine zqe ?_;refine blk_put (cs:= #[.slice a9 a7.length b0,.slice b3 a8.length b4,.slice none 0 0]) ?_ 2 _ rfl;refine zqe ?_;refine blk_put (cs:= #[.slice a9 a7.length b0,.slice none 0 0,.slice none 0 0]) ?_ 1 _ rfl;refine zqe ?_;refine blk_put (cs:= #[.slice none 0 0,.slice none 0 0,.slice none 0 0]) ?_ 0 _ rfl;refine zqe ?_;refine blk_far ?_ b5.out _;refine zqe ?_;exact a5.out) Try.underlying28 rfl zqk) rfl ?_;exact⟨_,_,_,zq6,by refine zqfS ?_;exact Kd.S_mono (Kd.S_far (p:=⟨a2,2,none⟩) (Kd.S_far (p:=⟨a2,1,none⟩) (Kd.S_far (p:=⟨a2,0,none⟩) (Kd.S_far (p:=⟨a1,2,none⟩) (Kd.S_types (Kd.S_types b9.out a3.out (by decide)) a5.out (by decide)) (fun _ hk=>hk.1.2) (.slice c1 b1.length c2)) (fun _ hk=>hk.2) (.slice a9 a7.length b0)) (fun _ hk=>hk.2) (.slice b3 a8.length b4)) (fun _ hk=>hk.2) (.slice c1 b1.length c2)) (fun _ hk=>hk.1.1),by refine zqfR ?_;exact Kd.R_mono (Kd.R_far (p:=⟨a2,2,none⟩) (Kd.R_far (p:=⟨a2,1,none⟩) (Kd.R_far (p:=⟨a2,0,none⟩) (Kd.R_far (p:=⟨a1,2,none⟩) (Kd.R_types (Kd.R_types c0.out a3.out (by decide)) a5.out (by decide)) (fun _ hk=>hk.1.2) (.slice c1 b1.length c2)) (fun _ hk=>hk.2) (.slice a9 a7.length b0)) (fun _ hk=>hk.2) (.slice b3 a8.length b4)) (fun _ hk=>hk.2) (.slice c1 b1.length c2)) (fun _ hk=>trivial),by refine zqfR ?_;exact Kd.R_mono (Kd.R_far (p:=⟨a2,2,none⟩) (Kd.R_far (p:=⟨a2,1,none⟩) (Kd.R_far (p:=⟨a2,0,none⟩) (Kd.R_far (p:=⟨a1,2,none⟩) (Kd.R_types (Kd.R_types d1.out a3.out (by decide)) a5.out (by decide)) (fun _ hk=>hk.1.2) (.slice c1 b1.length c2)) (fun _ hk=>hk.2) (.slice a9 a7.length b0)) (fun _ hk=>hk.2) (.slice b3 a8.length b4)) (fun _ hk=>hk.2) (.slice c1 b1.length c2)) (fun _ hk=>⟨hk.1.1.1.2,hk.1.1.2⟩),zq14⟩
end
end Go.Proofs.Ytndbbbnofmlkdaa.Print
end
