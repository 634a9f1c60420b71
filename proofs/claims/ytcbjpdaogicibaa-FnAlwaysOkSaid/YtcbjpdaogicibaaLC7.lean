/- Part 7 of what is common to several claims of this seat: SameOkL, ValueOfL, AlwaysOkL. -/
import Derived.Test.YtcbjpdaogicibaaLC6
import Derived.Below
import Derived.Deep.Draws
import Derived.Deep.AppendLies
import Derived.Maps.AppendAt
import Derived.OwnWalk
import Derived.Laws.BytesArg
import Derived.Laws.MakeOwn
import Derived.Laws.OwnMore
import Derived.Deep.OwnRows
import Derived.Tactics
import Derived.Lib.ConvBytes
import Derived.Laws.Slices
import Derived.WalkKit
import Derived.KernelRfl
import Derived.RowKit3
import Derived.Deep.LoopGhost
import Derived.Deep.QuietTactic
import Derived.BigQuiet
import Derived.WideLaws
import Derived.Deep.DeepCutAuto
import Derived.Deep.CutBlock
import Derived.Deep.RegionHeld3
import Derived.Laws.Rows
import Derived.Lib.AppendStr
import Derived.ArgAppend
import Derived.Laws.IdiomCopy
import Derived.RowKit
import Derived.OrdersHeld
import Derived.Laws.BitsLemmas
import Derived.Test.YtcbjpdaogicibaaProg
import Derived.Laws.Bits64b
set_option linter.all false
section
namespace Go.Proofs.Ytcbjpdaogicibaa.Print
open Go.RowKit Go.Proofs.YtcbjpdaogicibaaW.PrintWords Go.Proofs.YtcbjpdaogicibaaW.PrintLast Go.Proofs.YtcbjpdaogicibaaW.PrintMore
open Oml
def setB (n : Nat) (p : Nat → Bool) : Nat :=
 match n with
 | 0 => 0
 | n + 1 => setB n p ||| (if p n = true then 2 ^ n else 0)
section
section
variable {U : List (List Int)} {N : List Int} (L : Logic U N)
theorem and_fin (x y : Fin U.length) : andI U x.1 y.1 = (((L.ol.meet x y).1 : Nat) : Int) := by
 show mI U ((x.1:Nat):Int).toNat ((y.1:Nat):Int).toNat=_
 unfold mI;rw [Int.toNat_natCast,Int.toNat_natCast,L.mt_eq];rfl
theorem or_fin (x y : Fin U.length) : orI U x.1 y.1 = (((L.ol.join x y).1 : Nat) : Int) := by
 show jI U ((x.1:Nat):Int).toNat ((y.1:Nat):Int).toNat=_
 unfold jI;rw [Int.toNat_natCast,Int.toNat_natCast,L.jn_eq];rfl
theorem not_fin (x : Fin U.length) : notI N x.1 = (((L.ol.neg x).1 : Nat) : Int) := by
 show at1 N ((x.1 : Nat) : Int).toNat = _
 rw [Int.toNat_natCast, L.ng_eq]; rfl
theorem no_fin : noI U = (((L.ol.bot).1 : Nat) : Int) := by
 unfold noI; rw [L.no_eq]; rfl
theorem yes_fin : yesI U N = (((L.ol.top).1 : Nat) : Int) := by
 unfold yesI; rw [no_fin L, not_fin L]; rfl
end
end
section
section
variable {U : List (List Int)} {N : List Int} (L : Logic U N)
def valO (x y z : Fin U.length) : Fm → Fin U.length
 | .leaf c=>if c=97 then x else if c=98 then y else if c=99 then z else if c=48 then L.ol.bot else L.ol.top
 | .neg f=>L.ol.neg (valO x y z f)
 | .bin c f g=>if c=38 then L.ol.meet (valO x y z f) (valO x y z g) else L.ol.join (valO x y z f) (valO x y z g)
include L
theorem val_fin (x y z : Fin U.length) : ∀ f : Fm, valF U N x.1 y.1 z.1 f = (((valO L x y z f).1 : Nat) : Int)
 | .leaf c=>by
  unfold valF valO
  split
  ·rfl
  split
  ·rfl
  split
  ·rfl
  split
  ·exact no_fin L
  ·exact yes_fin L
 | .neg f=>by
  show notI N (valF U N x.1 y.1 z.1 f)=_
  rw [val_fin x y z f,not_fin L];rfl
 | .bin c f g=>by
  unfold valF valO
  rw [val_fin x y z f,val_fin x y z g]
  split
  ·exact and_fin L _ _
  ·exact or_fin L _ _
end
end
def Bytes (b : List Int) : Prop := ∀ x ∈ b, 0 ≤ x ∧ x ≤ 255
theorem bytes_rd {b : List Int} (h : Bytes b) (i : Int) : 0 ≤ rd b i ∧ rd b i ≤ 255 := by
 by_cases hi:i.toNat<b.length
 ·have e:rd b i=b[i.toNat]:=by
   show b.getD i.toNat 0=_
   rw [List.getD_eq_getElem?_getD,List.getElem?_eq_getElem hi];rfl
  rw [e]
  exact h _ (List.getElem_mem hi)
 ·have e:rd b i=0:=by
   show b.getD i.toNat 0=_
   rw [List.getD_eq_getElem?_getD,List.getElem?_eq_none (by omega)];rfl
  rw [e];omega
theorem ofInt_nat' (a : Nat) (ha : a < 18446744073709551616) : (BitVec.ofInt 64 (a : Int)).toNat = a := by
 rw [BitVec.ofInt_natCast, BitVec.toNat_ofNat]; exact Nat.mod_eq_of_lt (by omega)
theorem bxor_nat (a b : Nat) (ha : a < 4611686018427387904) (hb : b < 4611686018427387904) : Go.bits .xor .i64 (a : Int) (b : Int) = ((a ^^^ b : Nat) : Int) := by
 have hx:a ^^^ b<2 ^ 62:=Nat.xor_lt_two_pow (by omega) (by omega)
 show IntKind.i64.wrap ((BitVec.ofInt 64 (a:Int) ^^^ BitVec.ofInt 64 (b:Int)).toNat:Int)=_
 rw [BitVec.toNat_xor,ofInt_nat' a (by omega),ofInt_nat' b (by omega),i64_w]
 unfold wrap64;omega
theorem pick_mod {x n : Int} (hx : 0 ≤ x) (hn : 1 ≤ n) : 0 ≤ Int.tmod x n ∧ Int.tmod x n < n := by
 rw [Int.tmod_eq_emod_of_nonneg hx]
 exact⟨Int.emod_nonneg _ (by omega),Int.emod_lt_of_pos _ (by omega)⟩
theorem wrap_pos {x : Int} (h : 0 ≤ x) (h2 : x ≤ 4611686018427387904) : wrap64 x = x := by unfold wrap64; omega
theorem pick_ev {b : List Int} (hb : Bytes b) (hl : b.length ≤ 2000) {p : Int} (h0 : 0 ≤ p) (h1 : p ≤ 1000000000) (n : Int) : ∃ v, Ev (fun k => spec_l20Rd_pick.f k b p n) (v, p + 1) ∧ 0 ≤ v ∧ (1 ≤ n → v < n) := by
 have w1:wrap64 (p+1)=p+1:=wrap_pos (by omega) (by omega)
 have w2:wrap64 (p+1 - 1)=p:=by rw [Int.add_sub_cancel];exact wrap_pos (by omega) (by omega)
 have hz:Ev (fun k=>spec_l20Rd_pick.j0 k n true b (p+1)) (0,p+1):=by
  refine Ev.succ ?_
  simp only [spec_l20Rd_pick.j0]
  repeat(with_reducible first|refine Ev.ip ?_|refine Ev.iq ?_)
  exact Ev.now _
 unfold spec_l20Rd_pick.f
 rw [w1]
 by_cases hn:n<1
 ·exact⟨0,Ev.ite_pos hn hz,by omega,fun h=>by omega⟩
 by_cases hlen:b.length=0
 ·refine⟨0,Ev.ite_neg hn ?_,by omega,fun h=>by omega⟩
  rw [show ((b.length:Int)==0)=true by rw [hlen];rfl]
  exact hz
 have hbf:((b.length:Int)==0)=false:=by rw [beq_eq_false_iff_ne];omega
 by_cases hp:p<(b.length:Int)
 ·obtain⟨r0,r1⟩:=bytes_rd hb p
  have hm:=pick_mod (x:=rd b p) (n:=n) r0 (by omega)
  refine⟨Int.tmod (rd b p) n,Ev.ite_neg hn ?_,hm.1,fun _=>hm.2⟩
  rw [hbf]
  refine Ev.succ ?_
  simp only [spec_l20Rd_pick.j0,w2]
  rw [wrap_pos (x:=rd b p) r0 (by omega)]
  refine Ev.ite_neg (by simp) (Ev.ite_pos hp (Ev.ite_pos h0 (Ev.ite_neg (by omega) (Ev.now _))))
 ·have m1:=pick_mod (x:=p) (n:=(b.length:Int)) h0 (by omega)
  have w3:wrap64 (wrap64 (p*7)+3)=p*7+3:=by
   rw [wrap_pos (x:=p*7) (by omega) (by omega)]
   exact wrap_pos (by omega) (by omega)
  have m2:=pick_mod (x:=p*7+3) (n:=(b.length:Int)) (by omega) (by omega)
  obtain⟨a0,a1⟩:=bytes_rd hb (Int.tmod p b.length)
  obtain⟨c0,c1⟩:=bytes_rd hb (Int.tmod (p*7+3) b.length)
  have hd:0≤Int.tdiv p b.length∧Int.tdiv p b.length≤p:=by
   rw [Int.tdiv_eq_ediv_of_nonneg h0]
   exact⟨Int.ediv_nonneg h0 (by omega),Int.ediv_le_self _ h0⟩
  generalize hA:rd b (Int.tmod p b.length)=A at a0 a1
  generalize hC:rd b (Int.tmod (p*7+3) b.length)=C at c0 c1
  generalize hD:Int.tdiv p b.length=D at hd
  obtain⟨x,hx⟩: ∃x:Nat,A*131+C*1117+p*29+D*53=(x:Int):=⟨(A*131+C*1117+p*29+D*53).toNat,by omega⟩
  have hx2:x≤1000000000000:=by omega
  obtain⟨y,hy⟩: ∃y:Nat,Int.tdiv (x:Int) 64=(y:Int):=⟨x / 64,by rw [Int.tdiv_eq_ediv_of_nonneg (by omega)];omega⟩
  have hy2:y≤1000000000000:=by
   have:Int.tdiv (x:Int) 64≤x:=by rw [Int.tdiv_eq_ediv_of_nonneg (by omega)];omega
   omega
  have hm:=pick_mod (x:=((x ^^^ y:Nat):Int)) (n:=n) (by omega) (by omega)
  refine⟨Int.tmod ((x ^^^ y:Nat):Int) n,Ev.ite_neg hn ?_,hm.1,fun _=>hm.2⟩
  rw [hbf]
  refine Ev.succ ?_
  simp only [spec_l20Rd_pick.j0,w2,w3,hA,hC,hD]
  rw [wrap_pos (x:=A) a0 (by omega),wrap_pos (x:=C) c0 (by omega),wrap_pos (x:=A*131) (by omega) (by omega),wrap_pos (x:=C*1117) (by omega) (by omega),wrap_pos (x:=A*131+C*1117) (by omega) (by omega),wrap_pos (x:=p*29) (by omega) (by omega),wrap_pos (x:=A*131+C*1117+p*29) (by omega) (by omega),wrap_pos (x:=D) hd.1 (by omega),wrap_pos (x:=D*53) (by omega) (by omega),wrap_pos (x:=A*131+C*1117+p*29+D*53) (by omega) (by omega),hx,hy,wrap_pos (x:=(y:Int)) (by omega) (by omega),bxor_nat x y (by omega) (by omega)]
  exact Ev.ite_neg (by simp) (Ev.ite_neg hp (Ev.ite_neg (by omega) (Ev.ite_pos m1.1 (Ev.ite_pos m1.2 (Ev.ite_pos m2.1 (Ev.ite_pos m2.2 (Ev.ite_neg (by omega) (Ev.now _))))))))
theorem odd_ev {b : List Int} (hb : Bytes b) (hl : b.length ≤ 2000) {p : Int} (h0 : 0 ≤ p) (h1 : p ≤ 1000000000) (n : Int) : ∃ v q, Ev (fun k => spec_l20Rd_odd.f k b p n) (v, q) ∧ p ≤ q ∧ q ≤ p + 1 := by
 unfold spec_l20Rd_odd.f
 by_cases hn:n>0
 ·obtain⟨v,hv,_,_⟩:=pick_ev hb hl h0 h1 n
  exact⟨_,_,Ev.ite_pos hn (Ev.bind hv (Ev.now _)),by omega,by omega⟩
 ·exact⟨_,_,Ev.ite_neg hn (Ev.now _),by omega,by omega⟩
theorem open_ev {l : List Int} (h : Bytes l) : ∃ b, Bytes b ∧ b.length ≤ 2000 ∧ spec_l20Open.f l = some (b, 0) := by
 unfold spec_l20Open.f
 by_cases hl:(l.length:Int)>2000
 ·rw [if_pos hl,if_pos (by omega)]
  exact⟨l.take 2000,fun x hx=>h x (List.mem_of_mem_take hx),by rw [List.length_take];omega,rfl⟩
 ·rw [if_neg hl]
  exact⟨l,h,by omega,rfl⟩
def costF : Nat → Nat
 | 0 => 10
 | d + 1 => 2 * costF d + 10
theorem rdOf_size {xs : List ByteArray} {lo hi : Nat} (h : ∀ x ∈ xs, lo ≤ x.size ∧ x.size ≤ hi) {i : Int} (h0 : 0 ≤ i) (h1 : i < (xs.length : Int)) : lo ≤ (rdOf ByteArray.empty xs i).size ∧ (rdOf ByteArray.empty xs i).size ≤ hi := by
 have hi':i.toNat<xs.length:=by omega
 have e:rdOf ByteArray.empty xs i=xs[i.toNat]:=by
  unfold rdOf
  rw [List.getD_eq_getElem?_getD,List.getElem?_eq_getElem hi'];rfl
 rw [e]
 exact h _ (List.getElem_mem hi')
theorem wrap_pred (d : Nat) (h : d ≤ 10) : wrap64 (((d + 1 : Nat) : Int) - 1) = (d : Int) := by
 rw [show ((d + 1 : Nat) : Int) - 1 = (d : Int) by omega]
 exact wrap_pos (by omega) (by omega)
theorem formula_ev {b : List Int} (hb : Bytes b) (hl : b.length ≤ 2000) : ∀ (d : Nat), d ≤ 3 → ∀ p : Int, 0 ≤ p → p + ((1000 * d : Nat) : Int) ≤ 900000000 → ∃ s q, Ev (fun k => spec_l20Formula.f k b p (d : Int)) (s, q) ∧ p ≤ q ∧ q ≤ p + (costF d : Nat) ∧ 1 ≤ s.size ∧ s.size ≤ costF d := by
 have leaf: ∀(d:Int) (p:Int),0≤p→p≤999999990→ ∃s q,Ev (fun k=>spec_l20Formula.j0 k d true b p) (s,q)∧p≤q∧q≤p+1∧1≤s.size∧s.size≤1:=by
  intro d p h0 h1
  obtain⟨v,hv,v0,v1⟩:=pick_ev hb hl h0 (by omega) 7
  have v2:=v1 (by omega)
  have hs:=rdOf_size (xs:= [(⟨#[97]⟩:ByteArray),(⟨#[98]⟩:ByteArray),(⟨#[97]⟩:ByteArray),(⟨#[98]⟩:ByteArray),(⟨#[99]⟩:ByteArray),(⟨#[49]⟩:ByteArray),(⟨#[48]⟩:ByteArray)]) (lo:=1) (hi:=1) (i:=v) (by
   intro x hx
   simp only [List.mem_cons,List.not_mem_nil,or_false] at hx
   rcases hx with rfl|rfl|rfl|rfl|rfl|rfl|rfl <;> exact⟨Nat.le_refl 1,Nat.le_refl 1⟩) v0 (by show v<7;exact v2)
  refine⟨_,p+1,Ev.succ ?_,by omega,by omega,hs.1,hs.2⟩
  simp only [spec_l20Formula.j0]
  refine Ev.ite_pos (by simp) (Ev.pbind rfl (Ev.bind hv (Ev.ite_pos v0 (Ev.ite_pos ?_ (Ev.now _)))))
  show v<7
  exact v2
 intro d
 induction d with
 |zero=>
  intro _ p h0 h1
  obtain⟨s,q,hs,q0,q1,s0,s1⟩:=leaf 0 p h0 (by omega)
  refine⟨s,q,Ev.succ ?_,q0,by show q≤p+10;omega,s0,by show s.size≤10;omega⟩
  simp only [spec_l20Formula.f]
  exact Ev.ite_pos rfl hs
 |succ d ih=>
  intro hd p h0 h1
  have hc:costF (d+1)=2*costF d+10:=rfl
  have hc2:costF d≤70:=by
   rcases d with _|_|_|d
   ·decide
   ·decide
   ·decide
   ·omega
  obtain⟨v,hv,v0,v1⟩:=pick_ev hb hl h0 (by omega) 5
  have hne: ¬(((d+1:Nat):Int)=0):=by omega
  by_cases hv0:v=0
  ·obtain⟨s,q,hs,q0,q1,s0,s1⟩:=leaf ((d+1:Nat):Int) (p+1) (by omega) (by omega)
   refine⟨s,q,Ev.succ ?_,by omega,by omega,s0,by omega⟩
   simp only [spec_l20Formula.f]
   refine Ev.ite_neg hne (Ev.bind hv ?_)
   rw [show ((v,p+1).1==0)=true from (by rw [hv0];rfl:(v==0)=true)]
   exact hs
  ·have hvf:((v,p+1).1==0)=false:=(by rw [beq_eq_false_iff_ne];exact hv0:(v==0)=false)
   obtain⟨u,hu,u0,u1⟩:=pick_ev hb hl (p:=p+1) (by omega) (by omega) 3
   obtain⟨s,q,hs,q0,q1,s0,s1⟩:=ih (by omega) (p+1+1) (by omega) (by omega)
   have hw:=wrap_pred d (by omega)
   by_cases hu0:u=0
   ·have e33:((⟨#[33]⟩:ByteArray) ++ s).size=1+s.size:=by rw [ByteArray.size_append];rfl
    refine⟨(⟨#[33]⟩:ByteArray) ++ s,q,Ev.succ ?_,by omega,by omega,by omega,by omega⟩
    simp only [spec_l20Formula.f]
    refine Ev.ite_neg hne (Ev.bind hv ?_)
    rw [hvf]
    refine Ev.succ ?_
    simp only [spec_l20Formula.j0,hw]
    refine Ev.ite_neg (by simp) (Ev.bind hu (Ev.ite_pos hu0 (Ev.bind hs (Ev.ite_pos ?_ (Ev.now _)))))
    show 1+s.size≤_
    omega
   ·obtain⟨x,hx,x0,x1⟩:=pick_ev hb hl (p:=q) (by omega) (by omega) 2
    have x2:=x1 (by omega)
    obtain⟨t,r,ht,r0,r1,t0,t1⟩:=ih (by omega) (q+1) (by omega) (by omega)
    have hy:=rdOf_size (xs:= [(⟨#[38]⟩:ByteArray),(⟨#[124]⟩:ByteArray)]) (lo:=1) (hi:=1) (i:=x) (by
     intro z hz
     simp only [List.mem_cons,List.not_mem_nil,or_false] at hz
     rcases hz with rfl|rfl <;> exact⟨Nat.le_refl 1,Nat.le_refl 1⟩) x0 (by show x<2;exact x2)
    have e40:(⟨#[40]⟩:ByteArray).size=1:=rfl
    have e41:(⟨#[41]⟩:ByteArray).size=1:=rfl
    have hz:(((((⟨#[40]⟩:ByteArray) ++ s) ++ rdOf ByteArray.empty [(⟨#[38]⟩:ByteArray),(⟨#[124]⟩:ByteArray)] x) ++ t) ++ (⟨#[41]⟩:ByteArray)).size=1+s.size+(rdOf ByteArray.empty [(⟨#[38]⟩:ByteArray),(⟨#[124]⟩:ByteArray)] x).size+t.size+1:=by simp only [ByteArray.size_append,e40,e41]
    refine⟨((((⟨#[40]⟩:ByteArray) ++ s) ++ rdOf ByteArray.empty [(⟨#[38]⟩:ByteArray),(⟨#[124]⟩:ByteArray)] x) ++ t) ++ (⟨#[41]⟩:ByteArray),r,Ev.succ ?_,by omega,by omega,by omega,by omega⟩
    ·simp only [spec_l20Formula.f]
     refine Ev.ite_neg hne (Ev.bind hv ?_)
     rw [hvf]
     refine Ev.succ ?_
     simp only [spec_l20Formula.j0,hw]
     refine Ev.ite_neg (by simp) (Ev.bind hu (Ev.ite_neg hu0 (Ev.bind hs (Ev.ite_pos ?_ (Ev.pbind rfl (Ev.bind hx (Ev.ite_pos x0 (Ev.ite_pos ?_ (Ev.ite_pos ?_ (Ev.bind ht (Ev.ite_pos ?_ (Ev.ite_pos ?_ (Ev.now _)))))))))))))
     ·show 1+s.size≤_
      omega
     ·show x<2
      exact x2
     ·simp only [ByteArray.size_append,e40];omega
     ·simp only [ByteArray.size_append,e40];omega
     ·simp only [ByteArray.size_append,e40];omega
theorem formed_ev {b : List Int} (hb : Bytes b) (hl : b.length ≤ 2000) {p : Int} (h0 : 0 ≤ p) (h1 : p ≤ 800000000) (n : Int) : ∃ s q, Ev (fun k => spec_l20Formed.f k b p n) (s, q) ∧ p ≤ q ∧ q ≤ p + 200 ∧ s.size ≤ 200 := by
 have tail: ∀(t:ByteArray) (p:Int),1≤t.size→t.size≤150→0≤p→p≤900000000→ ∃s q,Ev (fun k=>spec_l20Formed.j0 k n t b p) (s,q)∧p≤q∧q≤p+3∧s.size≤200:=by
  intro t p t0 t1 h0 h1
  obtain⟨o,q,ho,q0,q1⟩:=odd_ev hb hl h0 (by omega) n
  cases o with
  |false=>
   refine⟨t,q,Ev.succ ?_,q0,by omega,by omega⟩
   simp only [spec_l20Formed.j0]
   exact Ev.bind ho (Ev.ite_neg (by simp) (Ev.now _))
  |true=>
   obtain⟨v,hv,v0,v1⟩:=pick_ev hb hl (p:=q) (by omega) (by omega) (t.size:Int)
   have v2:=v1 (by omega)
   obtain⟨u,hu,u0,u1⟩:=pick_ev hb hl (p:=q+1) (by omega) (by omega) 5
   have u2:=u1 (by omega)
   have hy:=rdOf_size (xs:= [(⟨#[]⟩:ByteArray),(⟨#[40]⟩:ByteArray),(⟨#[41]⟩:ByteArray),(⟨#[100]⟩:ByteArray),(⟨#[38]⟩:ByteArray)]) (lo:=0) (hi:=1) (i:=u) (by
    intro z hz
    simp only [List.mem_cons,List.not_mem_nil,or_false] at hz
    rcases hz with rfl|rfl|rfl|rfl|rfl
    ·exact⟨Nat.le_refl 0,Nat.zero_le 1⟩
    all_goals exact⟨Nat.zero_le 1,Nat.le_refl 1⟩) u0 (by show u<5;exact u2)
   have hw:wrap64 (v+1)=v+1:=wrap_pos (by omega) (by omega)
   have hz:(((t.extract 0 v.toNat) ++ rdOf ByteArray.empty [(⟨#[]⟩:ByteArray),(⟨#[40]⟩:ByteArray),(⟨#[41]⟩:ByteArray),(⟨#[100]⟩:ByteArray),(⟨#[38]⟩:ByteArray)] u) ++ t.extract (v+1).toNat t.size).size≤200:=by simp only [ByteArray.size_append,ByteArray.size_extract];omega
   refine⟨((t.extract 0 v.toNat) ++ rdOf ByteArray.empty [(⟨#[]⟩:ByteArray),(⟨#[40]⟩:ByteArray),(⟨#[41]⟩:ByteArray),(⟨#[100]⟩:ByteArray),(⟨#[38]⟩:ByteArray)] u) ++ t.extract (v+1).toNat t.size,q+1+1,Ev.succ ?_,by omega,by omega,hz⟩
   ·simp only [spec_l20Formed.j0,hw]
    refine Ev.bind ho (Ev.ite_pos rfl (Ev.bind hv (Ev.ite_pos v0 (Ev.ite_pos ?_ (Ev.pbind rfl (Ev.bind hu (Ev.ite_pos u0 (Ev.ite_pos ?_ (Ev.ite_pos ?_ (Ev.ite_pos ?_ (Ev.ite_pos ?_ (Ev.ite_pos ?_ (Ev.eq (Ev.now _) (by show (_ ++ t.extract (wrap64 (v+1)).toNat t.size,_)=_;rw [hw]))))))))))))))
    ·show v≤(t.size:Int)
     omega
    ·show u<5
     exact u2
    ·simp only [ByteArray.size_extract];omega
    ·show 0≤wrap64 (v+1)
     rw [hw];omega
    ·show wrap64 (v+1)≤(t.size:Int)
     rw [hw];omega
    ·simp only [ByteArray.size_append,ByteArray.size_extract];omega
 unfold spec_l20Formed.f
 obtain⟨s,q,hs,q0,q1,s0,s1⟩:=formula_ev hb hl 3 (by omega) p h0 (by omega)
 have c3:costF 3=150:=rfl
 obtain⟨v,hv,v0,v1⟩:=pick_ev hb hl (p:=q) (by omega) (by omega) 8
 by_cases e0:v=0
 ·obtain⟨t,r,ht,r0,r1,t1⟩:=tail ⟨#[40,33,97,124,40,97,38,40,33,97,124,98,41,41,41]⟩ (q+1) (by decide) (by decide) (by omega) (by omega)
  exact⟨t,r,Ev.bind hs (Ev.bind hv (Ev.ite_pos e0 ht)),by omega,by omega,t1⟩
 by_cases e1:v=1
 ·obtain⟨t,r,ht,r0,r1,t1⟩:=tail ⟨#[40,97,124,33,97,41]⟩ (q+1) (by decide) (by decide) (by omega) (by omega)
  exact⟨t,r,Ev.bind hs (Ev.bind hv (Ev.ite_neg e0 (Ev.ite_pos e1 ht))),by omega,by omega,t1⟩
 by_cases e2:v=2
 ·obtain⟨t,r,ht,r0,r1,t1⟩:=tail ⟨#[40,40,97,38,98,41,124,40,40,97,38,33,98,41,124,40,33,97,124,33,98,41,41,41]⟩ (q+1) (by decide) (by decide) (by omega) (by omega)
  exact⟨t,r,Ev.bind hs (Ev.bind hv (Ev.ite_neg e0 (Ev.ite_neg e1 (Ev.ite_pos e2 ht)))),by omega,by omega,t1⟩
 obtain⟨t,r,ht,r0,r1,t1⟩:=tail s (q+1) (by omega) (by omega) (by omega) (by omega)
 exact⟨t,r,Ev.bind hs (Ev.bind hv (Ev.ite_neg e0 (Ev.ite_neg e1 (Ev.ite_neg e2 ht)))),by omega,by omega,t1⟩
structure Sq (n : Nat) (U : List (List Int)) (N : List Int) : Prop where
 pos:1≤n
 small:n≤100
 len:U.length=n
 row: ∀r ∈ U,r.length=n
 lenN:N.length=n
 ran: ∀x ∈ N,0≤x∧x<(n:Int)
def sqB (r : List (List Int) × List Int) : Bool := decide (1 ≤ r.2.length) && (decide (r.2.length ≤ 100) && ((r.1.length == r.2.length) && (r.1.all (fun x => x.length == r.2.length) && r.2.all (fun x => decide (0 ≤ x) && decide (x < (r.2.length : Int))))))
theorem sq_of {r : List (List Int) × List Int} (h : sqB r = true) : Sq r.2.length r.1 r.2 := by
 unfold sqB at h
 simp only [Bool.and_eq_true,decide_eq_true_eq,beq_iff_eq,List.all_eq_true] at h
 obtain⟨h1,h2,h3,h4,h5⟩:=h
 exact⟨h1,h2,h3,h4,rfl,h5⟩
def gB (x : Int) : List (List Int) × List Int := (spec_l20Boole.f 150 x).getD ([], [])
set_option maxRecDepth 100000 in
theorem gB_ev {x : Int} (h0 : 0 ≤ x) (h1 : x < 4) : Ev (fun k => spec_l20Boole.f k x) ((gB x).1, (gB x).2) ∧ sqB (gB x) = true := by
 have hx:x=0∨x=1∨x=2∨x=3:=by omega
 rcases hx with rfl|rfl|rfl|rfl
 ·exact⟨Ev.of (spec_l20Boole.mono _) (k:=150) zqk,by kernel_rfl⟩
 ·exact⟨Ev.of (spec_l20Boole.mono _) (k:=150) zqk,by kernel_rfl⟩
 ·exact⟨Ev.of (spec_l20Boole.mono _) (k:=150) zqk,by kernel_rfl⟩
 ·exact⟨Ev.of (spec_l20Boole.mono _) (k:=150) zqk,by kernel_rfl⟩
def gG (a b : List (List Int) × List Int) : List (List Int) × List Int := (spec_l20Glued.f 900 a.1 a.2 b.1 b.2).getD ([], [])
def gS : List (List Int) × List Int := spec_l20Six.f.getD ([], [])
def gP : List (List Int) × List Int := (spec_l20Pasted.f 900).getD ([], [])
set_option maxRecDepth 100000 in
theorem g22 : Ev (fun k => spec_l20Glued.f k (gB 2).1 (gB 2).2 (gB 2).1 (gB 2).2) ((gG (gB 2) (gB 2)).1, (gG (gB 2) (gB 2)).2) ∧ sqB (gG (gB 2) (gB 2)) = true :=
 ⟨Ev.of (spec_l20Glued.mono _ _ _ _) (k:=900) zqk,by kernel_rfl⟩
set_option maxRecDepth 100000 in
theorem g23 : Ev (fun k => spec_l20Glued.f k (gB 2).1 (gB 2).2 (gB 3).1 (gB 3).2) ((gG (gB 2) (gB 3)).1, (gG (gB 2) (gB 3)).2) ∧ sqB (gG (gB 2) (gB 3)) = true :=
 ⟨Ev.of (spec_l20Glued.mono _ _ _ _) (k:=900) zqk,by kernel_rfl⟩
set_option maxRecDepth 100000 in
theorem g222 : Ev (fun k => spec_l20Glued.f k (gG (gB 2) (gB 2)).1 (gG (gB 2) (gB 2)).2 (gB 2).1 (gB 2).2) ((gG (gG (gB 2) (gB 2)) (gB 2)).1, (gG (gG (gB 2) (gB 2)) (gB 2)).2) ∧ sqB (gG (gG (gB 2) (gB 2)) (gB 2)) = true :=
 ⟨Ev.of (spec_l20Glued.mono _ _ _ _) (k:=900) zqk,by kernel_rfl⟩
set_option maxRecDepth 100000 in
theorem gS2 : Ev (fun k => spec_l20Glued.f k gS.1 gS.2 (gB 2).1 (gB 2).2) ((gG gS (gB 2)).1, (gG gS (gB 2)).2) ∧ sqB (gG gS (gB 2)) = true :=
 ⟨Ev.of (spec_l20Glued.mono _ _ _ _) (k:=900) zqk,by kernel_rfl⟩
theorem gS_ev : spec_l20Six.f = some (gS.1, gS.2) ∧ sqB gS = true := ⟨by kernel_rfl, by kernel_rfl⟩
set_option maxRecDepth 100000 in
theorem gP_ev : Ev (fun k => spec_l20Pasted.f k) (gP.1, gP.2) ∧ sqB gP = true := ⟨Ev.of spec_l20Pasted.mono (k := 900) (by kernel_rfl), by kernel_rfl⟩
theorem Ev.run {σ ρ : Type} {g : Nat → σ → Int → Option ρ} (n : Nat) (I : Nat → σ → Prop) (hn : n < 4611686018427387904)
 (hstep: ∀i s,i<n→I i s→ ∃s',I (i+1) s'∧ ∀R,Ev (fun k=>g k s' (wrap64 ((i:Int)+1))) R→Ev (fun k=>g k s (i:Int)) R): ∀s,I 0 s→ ∃s',I n s'∧ ∀R,Ev (fun k=>g k s' (n:Int)) R→Ev (fun k=>g k s 0) R:=by
 have key: ∀i,i≤n→ ∀s,I 0 s→ ∃s',I i s'∧ ∀R,Ev (fun k=>g k s' (i:Int)) R→Ev (fun k=>g k s 0) R:=by
  intro i
  induction i with
  |zero=>intro _ s hs;exact⟨s,hs,fun R h=>h⟩
  |succ i ih=>
   intro hi s hs
   obtain⟨s1,h1,k1⟩:=ih (by omega) s hs
   obtain⟨s2,h2,k2⟩:=hstep i s1 (by omega) h1
   refine⟨s2,h2,fun R h=>k1 R (k2 R ?_)⟩
   rw [wrap_nat (by omega)]
   exact h
 exact fun s hs=>key n (Nat.le_refl _) s hs
theorem rd_mem {xs : List Int} {i : Int} (h0 : 0 ≤ i) (h1 : i < (xs.length : Int)) : rd xs i ∈ xs := by
 have hi:i.toNat<xs.length:=by omega
 have e:rd xs i=xs[i.toNat]:=by
  show xs.getD i.toNat 0=_
  rw [List.getD_eq_getElem?_getD,List.getElem?_eq_getElem hi];rfl
 rw [e];exact List.getElem_mem hi
theorem rdL_mem {xs : List (List Int)} {i : Int} (h0 : 0 ≤ i) (h1 : i < (xs.length : Int)) : rd_L2 xs i ∈ xs := by
 obtain⟨m,rfl⟩: ∃m:Nat,i=(m:Int):=⟨i.toNat,by omega⟩
 have hi:m<xs.length:=by omega
 rw [rdL_nat,List.getD_eq_getElem?_getD,List.getElem?_eq_getElem hi]
 exact List.getElem_mem hi
structure Sh (n : Nat) (U : List (List Int)) (N : List Int) : Prop where
 len : U.length = n
 row : ∀ r ∈ U, r.length = n
 lenN : N.length = n
theorem Sq.sh {n : Nat} {U : List (List Int)} {N : List Int} (h : Sq n U N) : Sh n U N := ⟨h.len, h.row, h.lenN⟩
theorem rename_ev {n : Nat} {U : List (List Int)} {N : List Int} (S : Sq n U N) {o : List Int} (ho : o.length = n) (hr : ∀ x ∈ o, 0 ≤ x ∧ x < (n : Int)) : ∃ V M, Sh n V M ∧ Ev (fun k => spec_l20Rename.f k U N o) (V, M) := by
 have hn:=S.pos
 have hs:=S.small
 have hU:=S.len
 have hN:=S.lenN
 obtain⟨back,hb,kb⟩:=Ev.run (ρ:=List (List Int) × List Int) (g:=fun k (s:List Int) i=>spec_l20Rename.l0 k o s i U N) n (fun _ s=>s.length=n) (by omega) (fun i s hi hl=>by
  have r1:=hr _ (rd_mem (xs:=o) (i:=(i:Int)) (by omega) (by omega))
  have r2:=r1.1
  have r3:=r1.2
  refine⟨s.set (rd o (i:Int)).toNat (i:Int),by rw [List.length_set];exact hl,fun R h=>Ev.succ ?_⟩
  simp only [spec_l20Rename.l0]
  exact Ev.ite_pos (by omega) (Ev.ite_pos (by omega) (Ev.ite_pos r2 (Ev.ite_pos (by omega) h)))) (List.replicate ((o.length:Int)).toNat 0) (by simp [ho])
 have hrow: ∀(i:Nat) (V:List (List Int)) (M:List Int),i<n→ ∃row:List Int,row.length=n∧ ∀R,Ev (fun k=>spec_l20Rename.l2 k o back (i:Int) row (n:Int) U N V M) R→Ev (fun k=>spec_l20Rename.l2 k o back (i:Int) [] 0 U N V M) R:=by
  intro i V M hi
  have r1:=hr _ (rd_mem (xs:=o) (i:=(i:Int)) (by omega) (by omega))
  have r2:=r1.1
  have r3:=r1.2
  have rl:=S.row _ (rdL_mem (xs:=U) (i:=rd o (i:Int)) r2 (by omega))
  exact Ev.run (ρ:=List (List Int) × List Int) (g:=fun k (s:List Int) j=>spec_l20Rename.l2 k o back (i:Int) s j U N V M) n (fun j s=>s.length=j) (by omega) (fun j s hj hl=>by
   have q1:=hr _ (rd_mem (xs:=o) (i:=(j:Int)) (by omega) (by omega))
   have q2:=q1.1
   have q3:=q1.2
   refine⟨s ++ [rd (rd_L2 U (rd o (i:Int))) (rd o (j:Int))],by rw [List.length_append,hl];rfl,fun R h=>Ev.succ ?_⟩
   simp only [spec_l20Rename.l2]
   exact Ev.ite_pos (by omega) (Ev.ite_pos (by omega) (Ev.ite_pos (by omega) (Ev.ite_pos r2 (Ev.ite_pos (by omega) (Ev.ite_pos (by omega) (Ev.ite_pos q2 (Ev.ite_pos (by omega) (Ev.ite_pos (by omega) h))))))))) [] rfl
 obtain⟨⟨V,M⟩,⟨hV,hVr,hM⟩,kV⟩:=Ev.run (ρ:=List (List Int) × List Int) (g:=fun k (s:List (List Int) × List Int) i=>spec_l20Rename.l1 k o back i U N s.1 s.2) n (fun i s=>s.1.length=i∧(∀r ∈ s.1,r.length=n)∧s.2.length=i) (by omega) (fun i s hi hl=>by
  obtain⟨V,M⟩:=s
  obtain⟨h1,h2,h3⟩:=hl
  have h1':V.length=i:=h1
  have h3':M.length=i:=h3
  have r1:=hr _ (rd_mem (xs:=o) (i:=(i:Int)) (by omega) (by omega))
  have r2:=r1.1
  have r3:=r1.2
  have n1:=S.ran _ (rd_mem (xs:=N) (i:=rd o (i:Int)) r2 (by omega))
  have n2:=n1.1
  have n3:=n1.2
  obtain⟨row,hrl,kr⟩:=hrow i V M hi
  refine⟨(V ++ [row],M ++ [rd back (rd N (rd o (i:Int)))]),⟨by simp [h1'],?_,by simp [h3']⟩,fun R h=>Ev.succ ?_⟩
  ·intro r hr'
   rcases List.mem_append.1 hr' with hr'|hr'
   ·exact h2 r hr'
   ·rw [List.mem_singleton.1 hr'];exact hrl
  ·simp only [spec_l20Rename.l1]
   refine Ev.ite_pos (by omega) (kr R (Ev.succ ?_))
   simp only [spec_l20Rename.l2]
   exact Ev.ite_neg (by omega) (Ev.ite_pos (by omega) (Ev.ite_pos (by omega) (Ev.ite_pos (by omega) (Ev.ite_pos r2 (Ev.ite_pos (by omega) (Ev.ite_pos n2 (Ev.ite_pos (by omega) (Ev.ite_pos (by omega) h))))))))) ([],[]) ⟨rfl,(fun _ h=>by cases h),rfl⟩
 refine⟨V,M,⟨hV,hVr,hM⟩,?_⟩
 unfold spec_l20Rename.f
 refine Ev.ite_pos (by omega) (Ev.ite_pos (by omega) (kb _ (Ev.succ ?_)))
 simp only [spec_l20Rename.l0]
 refine Ev.ite_neg (by omega) (kV _ (Ev.succ ?_))
 simp only [spec_l20Rename.l1]
 exact Ev.ite_neg (by omega) (Ev.now _)
section
section
variable {b : List Int} (hb : Bytes b) (hl : b.length ≤ 2000)
include hb hl
theorem lg_j5 {m : Nat} (hm : 1 ≤ m) (hm2 : m ≤ 100) {U : List (List Int)} {N : List Int} (S : Sh m U N) {p : Int} (h0 : 0 ≤ p) (h1 : p ≤ 999999900) (n : Int) :
 ∃V M q,Ev (fun k=>spec_l20Logic.j5 k n b p U N) (V,M,q)∧p≤q∧q≤p+4:=by
 have hU:=S.len
 have hN:=S.lenN
 obtain⟨o,p1,ho,q1,q2⟩:=odd_ev hb hl h0 (by omega) n
 cases o with
 |false=>
  refine⟨U,N,p1,Ev.succ ?_,by omega,by omega⟩
  simp only [spec_l20Logic.j5]
  refine Ev.bind ho ?_
  dsimp only
  exact Ev.ite_neg (by decide) (Ev.now _)
 |true=>
  obtain⟨v,hv,v0,v1⟩:=pick_ev hb hl (p:=p1) (by omega) (by omega) 4
  have v2:=v1 (by omega)
  by_cases e0:v=0
  ·refine⟨[],[],p1+1,Ev.succ ?_,?_,?_⟩
   ·simp only [spec_l20Logic.j5]
    refine Ev.bind ho ?_
    dsimp only
    refine Ev.ite_pos rfl (Ev.bind hv ?_)
    dsimp only
    exact Ev.ite_pos e0 (Ev.now _)
   ·omega
   ·omega
  by_cases e1:v=1
  ·refine⟨U,N.drop (1:Int).toNat,p1+1,Ev.succ ?_,?_,?_⟩
   ·simp only [spec_l20Logic.j5]
    refine Ev.bind ho ?_
    dsimp only
    refine Ev.ite_pos rfl (Ev.bind hv ?_)
    dsimp only
    exact Ev.ite_neg e0 (Ev.ite_pos e1 (Ev.ite_pos (by omega) (Ev.now _)))
   ·omega
   ·omega
  by_cases e2:v=2
  ·obtain⟨x,hx,x0,x1⟩:=pick_ev hb hl (p:=p1+1) (by omega) (by omega) (N.length:Int)
   have x2:=x1 (by omega)
   obtain⟨y,hy,y0,y1⟩:=pick_ev hb hl (p:=p1+1+1) (by omega) (by omega) (wrap64 ((N.length:Int)+1))
   refine⟨U,N.set (x:Int).toNat y,p1+1+1+1,Ev.succ ?_,?_,?_⟩
   ·simp only [spec_l20Logic.j5]
    refine Ev.bind ho ?_
    dsimp only
    refine Ev.ite_pos rfl (Ev.bind hv ?_)
    dsimp only
    refine Ev.ite_neg e0 (Ev.ite_neg e1 (Ev.ite_pos e2 (Ev.bind hx (Ev.bind hy ?_))))
    dsimp only
    exact Ev.ite_pos x0 (Ev.ite_pos x2 (Ev.now _))
   ·omega
   ·omega
  ·have w1:wrap64 ((U.length:Int) - 1)=(U.length:Int) - 1:=wrap_pos (by omega) (by omega)
   have rl:=S.row _ (rdL_mem (xs:=U) (i:=(U.length:Int) - 1) (by omega) (by omega))
   refine⟨U.set ((U.length:Int) - 1).toNat ((rd_L2 U ((U.length:Int) - 1)).set (0:Int).toNat 1),N,p1+1,Ev.succ ?_,?_,?_⟩
   ·simp only [spec_l20Logic.j5]
    refine Ev.bind ho ?_
    dsimp only
    refine Ev.ite_pos rfl (Ev.bind hv ?_)
    dsimp only
    refine Ev.ite_neg e0 (Ev.ite_neg e1 (Ev.ite_neg e2 ?_))
    simp only [w1]
    exact Ev.ite_pos (by omega) (Ev.ite_pos (by omega) (Ev.ite_pos (by omega) (Ev.now _)))
   ·omega
   ·omega
theorem lg_l1 {U : List (List Int)} {N : List Int} {m i : Nat} (him : i < m) (hm : m ≤ 100) (n q v : Int) (v0 : 0 ≤ v) : ∀ (d : Nat) (o : List Int) (j : Int), j = v + d → j ≤ i → o.length = i + 1 → (∀ x ∈ o, 0 ≤ x ∧ x < (m : Int)) →
 ∃o':List Int,o'.length=i+1∧(∀x ∈ o',0≤x∧x<(m:Int))∧ ∀R,Ev (fun k=>spec_l20Logic.l1 k n o' (i:Int) v v b q U N) R→Ev (fun k=>spec_l20Logic.l1 k n o (i:Int) v j b q U N) R:=by
 intro d
 induction d with
 |zero=>
  intro o j hj _ hlen hr
  obtain rfl:j=v:=by omega
  exact⟨o,hlen,hr,fun R h=>h⟩
 |succ d ih=>
  intro o j hj hji hlen hr
  have w1:wrap64 (j - 1)=j - 1:=wrap_pos (by omega) (by omega)
  have hr1:=hr _ (rd_mem (xs:=o) (i:=j - 1) (by omega) (by omega))
  obtain⟨o',k1,k2,k3⟩:=ih (o.set j.toNat (rd o (j - 1))) (j - 1) (by omega) (by omega) (by rw [List.length_set];exact hlen) (fun x hx=>by
   rcases List.mem_or_eq_of_mem_set hx with hx|rfl
   ·exact hr x hx
   ·exact hr1)
  refine⟨o',k1,k2,fun R h=>Ev.succ ?_⟩
  simp only [spec_l20Logic.l1,w1]
  exact Ev.ite_pos (by omega) (Ev.ite_pos (by omega) (Ev.ite_pos (by omega) (Ev.ite_pos (by omega) (Ev.ite_pos (by omega) (k3 R h)))))
theorem lg_j2 {m : Nat} {U : List (List Int)} {N : List Int} (S : Sq m U N) {p : Int} (h0 : 0 ≤ p) (h1 : p ≤ 999999700) (n : Int) :
 ∃V M q,Ev (fun k=>spec_l20Logic.j2 k n b p U N) (V,M,q)∧p≤q∧q≤p+110:=by
 have hm:=S.pos
 have hm2:=S.small
 have hU:=S.len
 have hN:=S.lenN
 obtain⟨⟨o,p1⟩,⟨i1,i2,i3,i4⟩,ko⟩:=Ev.run (ρ:=List (List Int) × List Int × Int) (g:=fun k (s:List Int × Int) i=>spec_l20Logic.l0 k n s.1 i b s.2 U N) m (fun i s=>s.1.length=i∧(∀x ∈ s.1,0≤x∧x<(m:Int))∧p≤s.2∧s.2≤p+(i:Int)) (by omega) (fun i s hi hs=>by
  obtain⟨o,q⟩:=s
  obtain⟨j1,j2,j3,j4⟩:=hs
  have j1':o.length=i:=j1
  have j3':p≤q:=j3
  have j4':q≤p+(i:Int):=j4
  have w1:wrap64 ((i:Int)+1)=(i:Int)+1:=wrap_pos (by omega) (by omega)
  obtain⟨v,hv,v0,v1⟩:=pick_ev hb hl (p:=q) (by omega) (by omega) ((i:Int)+1)
  have v2:=v1 (by omega)
  obtain⟨o',k1,k2,k3⟩:=lg_l1 hb hl (U:=U) (N:=N) hi hm2 n (q+1) v v0 ((i:Int) - v).toNat (o ++ [(i:Int)]) (i:Int) (by omega) (by omega) (by rw [List.length_append,j1'];rfl) (fun x hx=>by
   rcases List.mem_append.1 hx with hx|hx
   ·exact j2 x hx
   ·rw [List.mem_singleton.1 hx];omega)
  refine⟨(o'.set v.toNat (i:Int),q+1),⟨by rw [List.length_set];exact k1,fun x hx=>?_,by show p≤q+1;omega,by show q+1≤p+((i+1:Nat):Int);omega⟩,fun R h=>Ev.succ ?_⟩
  ·rcases List.mem_or_eq_of_mem_set hx with hx|rfl
   ·exact k2 x hx
   ·omega
  ·rw [w1] at h
   simp only [spec_l20Logic.l0,w1]
   refine Ev.ite_pos (by omega) (Ev.bind hv ?_)
   dsimp only
   refine Ev.ite_pos (by omega) (k3 R (Ev.succ ?_))
   simp only [spec_l20Logic.l1,w1]
   exact Ev.ite_neg (by omega) (Ev.ite_pos (by omega) (Ev.ite_pos (by omega) h))) ([],p) ⟨rfl,(fun _ h=>by cases h),Int.le_refl _,by show p≤p+((0:Nat):Int);omega⟩
 have i1':o.length=m:=i1
 have i3':p≤p1:=i3
 have i4':p1≤p+(m:Int):=i4
 obtain⟨v,hv,v0,v1⟩:=pick_ev hb hl (p:=p1) (by omega) (by omega) 2
 have fin: ∀V M,Sh m V M→ ∃V' M' q,Ev (fun k=>spec_l20Logic.j5 k n b (p1+1) V M) (V',M',q)∧p≤q∧q≤p+110:=fun V M hS=>by
  obtain⟨V',M',q,h,k1,k2⟩:=lg_j5 hb hl hm hm2 hS (p:=p1+1) (by omega) (by omega) n
  exact⟨V',M',q,h,by omega,by omega⟩
 by_cases e:v=0
 ·obtain⟨V,M,hS,hR⟩:=rename_ev S i1' i2
  obtain⟨V',M',q,h,k1,k2⟩:=fin V M hS
  refine⟨V',M',q,Ev.succ ?_,k1,k2⟩
  simp only [spec_l20Logic.j2]
  refine ko _ (Ev.succ ?_)
  simp only [spec_l20Logic.l0]
  refine Ev.ite_neg (by omega) (Ev.bind hv ?_)
  dsimp only
  exact Ev.ite_pos e (Ev.bind hR h)
 ·obtain⟨V',M',q,h,k1,k2⟩:=fin U N S.sh
  refine⟨V',M',q,Ev.succ ?_,k1,k2⟩
  simp only [spec_l20Logic.j2]
  refine ko _ (Ev.succ ?_)
  simp only [spec_l20Logic.l0]
  refine Ev.ite_neg (by omega) (Ev.bind hv ?_)
  dsimp only
  exact Ev.ite_neg e h
theorem lg_j2' {r : List (List Int) × List Int} (S : sqB r = true) {p : Int} (h0 : 0 ≤ p) (h1 : p ≤ 999999700) (n : Int) :
 ∃V M q,Ev (fun k=>spec_l20Logic.j2 k n b p r.1 r.2) (V,M,q)∧p≤q∧q≤p+110:=lg_j2 hb hl (sq_of S) h0 h1 n
theorem logic_ev {p : Int} (h0 : 0 ≤ p) (h1 : p ≤ 999999600) (n : Int) : ∃ V M q, Ev (fun k => spec_l20Logic.f k b p n) (V, M, q) ∧ p ≤ q ∧ q ≤ p + 120 := by
 obtain⟨v,hv,v0,v1⟩:=pick_ev hb hl h0 (by omega) 9
 have v2:=v1 (by omega)
 have key: ∃V M q,Ev (fun k=>spec_l20Logic.j0 k n v (if v=0 then(v==0) else(v==1)) b (p+1)) (V,M,q)∧p≤q∧q≤p+120:=by
  have hj1: ¬(v=0)→ ¬(v=1)→(∃V M q,Ev (fun k=>spec_l20Logic.j1 k n v (if v=2 then(v==2) else(v==3)) b (p+1)) (V,M,q)∧p≤q∧q≤p+120)→ ∃V M q,Ev (fun k=>spec_l20Logic.j0 k n v (if v=0 then(v==0) else(v==1)) b (p+1)) (V,M,q)∧p≤q∧q≤p+120:=by
   rintro e0 e1 ⟨V,M,q,h,k⟩
   refine⟨V,M,q,Ev.succ ?_,k⟩
   simp only [spec_l20Logic.j0]
   rw [if_neg e0]
   refine Ev.ite_neg (by simpa using e1) ?_
   by_cases e2:v=2
   ·rw [if_pos e2] at h
    exact Ev.ite_pos e2 h
   ·rw [if_neg e2] at h
    exact Ev.ite_neg e2 h
  have hend: ∀r,sqB r=true→ ∃V M q,Ev (fun k=>spec_l20Logic.j2 k n b (p+1) r.1 r.2) (V,M,q)∧p≤q∧q≤p+120:=fun r hr=>by
   obtain⟨V,M,q,h,k1,k2⟩:=lg_j2' hb hl hr (p:=p+1) (by omega) (by omega) n
   exact⟨V,M,q,h,by omega,by omega⟩
  have B2:=(gB_ev (x:=2) (by omega) (by omega)).1
  have B3:=(gB_ev (x:=3) (by omega) (by omega)).1
  have hvs:(v=0∨v=1)∨(v=2∨v=3)∨v=4∨v=5∨v=6∨v=7∨v=8:=by omega
  rcases hvs with e|e|e|e|e|e|e
  ·obtain⟨x,hx,x0,x1⟩:=pick_ev hb hl (p:=p+1) (by omega) (by omega) 4
   obtain⟨g1,g2⟩:=gB_ev x0 (x1 (by omega))
   obtain⟨V,M,q,h,k1,k2⟩:=lg_j2' hb hl g2 (p:=p+1+1) (by omega) (by omega) n
   refine⟨V,M,q,Ev.succ ?_,by omega,by omega⟩
   simp only [spec_l20Logic.j0]
   refine Ev.ite_pos (by rcases e with rfl|rfl <;> rfl) (Ev.bind hx (Ev.bind g1 h))
  ·obtain⟨V,M,q,h,k⟩:=hend _ g22.2
   refine hj1 (by omega) (by omega) ⟨V,M,q,Ev.succ ?_,k⟩
   simp only [spec_l20Logic.j1]
   exact Ev.ite_pos (by rcases e with rfl|rfl <;> rfl) (Ev.bind B2 (Ev.bind B2 (Ev.bind g22.1 h)))
  ·obtain⟨V,M,q,h,k⟩:=hend _ g23.2
   subst e
   refine hj1 (by omega) (by omega) ⟨V,M,q,Ev.succ ?_,k⟩
   simp only [spec_l20Logic.j1]
   exact Ev.ite_neg (by simp) (Ev.ite_pos (by simp) (Ev.bind B2 (Ev.bind B3 (Ev.bind g23.1 h))))
  ·obtain⟨V,M,q,h,k⟩:=hend _ g222.2
   subst e
   refine hj1 (by omega) (by omega) ⟨V,M,q,Ev.succ ?_,k⟩
   simp only [spec_l20Logic.j1]
   exact Ev.ite_neg (by simp) (Ev.ite_neg (by simp) (Ev.ite_pos (by simp) (Ev.bind B2 (Ev.bind B2 (Ev.bind g22.1 (Ev.bind B2 (Ev.bind g222.1 h)))))))
  ·obtain⟨V,M,q,h,k⟩:=hend _ gS_ev.2
   subst e
   refine hj1 (by omega) (by omega) ⟨V,M,q,Ev.succ ?_,k⟩
   simp only [spec_l20Logic.j1]
   exact Ev.ite_neg (by simp) (Ev.ite_neg (by simp) (Ev.ite_neg (by simp) (Ev.ite_pos (by simp) (Ev.pbind gS_ev.1 h))))
  ·obtain⟨V,M,q,h,k⟩:=hend _ gS2.2
   subst e
   refine hj1 (by omega) (by omega) ⟨V,M,q,Ev.succ ?_,k⟩
   simp only [spec_l20Logic.j1]
   exact Ev.ite_neg (by simp) (Ev.ite_neg (by simp) (Ev.ite_neg (by simp) (Ev.ite_neg (by simp) (Ev.ite_pos (by simp) (Ev.pbind gS_ev.1 (Ev.bind B2 (Ev.bind gS2.1 h)))))))
  ·obtain⟨V,M,q,h,k⟩:=hend _ gP_ev.2
   subst e
   refine hj1 (by omega) (by omega) ⟨V,M,q,Ev.succ ?_,k⟩
   simp only [spec_l20Logic.j1]
   exact Ev.ite_neg (by simp) (Ev.ite_neg (by simp) (Ev.ite_neg (by simp) (Ev.ite_neg (by simp) (Ev.ite_neg (by simp) (Ev.bind gP_ev.1 h)))))
 obtain⟨V,M,q,h,k⟩:=key
 refine⟨V,M,q,?_,k⟩
 unfold spec_l20Logic.f
 refine Ev.bind hv ?_
 dsimp only
 by_cases e:v=0
 ·rw [if_pos e] at h
  exact Ev.ite_pos e h
 ·rw [if_neg e] at h
  exact Ev.ite_neg e h
end
end
theorem alive_ok : Ev (fun k => laws_alive.f k) true := by
 unfold laws_alive.f
 refine Ev.bind (impl_OrderOk.ev _) ?_
 rw [show orderB [[1]]=true by decide]
 refine Ev.ite_pos rfl (Ev.bind (impl_OrderOk.ev _) ?_)
 rw [show orderB [[0]]=false by decide]
 exact Ev.now _
end Go.Proofs.Ytcbjpdaogicibaa.Print
end
