/- Part 6 of what is common to several claims of this seat: SameOkL, ValueOfL, AlwaysOkL. -/
import Derived.Test.YtcbjpdaogicibaaLC5
import Derived.Below
import Derived.Deep.Draws
import Derived.Deep.AppendLies
import Derived.Maps.AppendAt
import Derived.OwnWalk
import Derived.Laws.BytesArg
import Derived.Laws.MakeOwn
import Derived.Laws.OwnMore
import Derived.Deep.OwnRows
import Derived.Tactics
import Derived.Lib.ConvBytes
import Derived.Laws.Slices
import Derived.WalkKit
import Derived.KernelRfl
import Derived.RowKit3
import Derived.Deep.LoopGhost
import Derived.Deep.QuietTactic
import Derived.BigQuiet
import Derived.WideLaws
import Derived.Deep.DeepCutAuto
import Derived.Deep.CutBlock
import Derived.Deep.RegionHeld3
import Derived.Laws.Rows
import Derived.Lib.AppendStr
import Derived.ArgAppend
import Derived.Laws.IdiomCopy
import Derived.RowKit
import Derived.OrdersHeld
import Derived.Laws.BitsLemmas
import Derived.Test.YtcbjpdaogicibaaProg
set_option linter.all false
section
namespace Go.Proofs.Ytcbjpdaogicibaa.Print
open Go.RowKit Go.Proofs.YtcbjpdaogicibaaW.PrintWords Go.Proofs.YtcbjpdaogicibaaW.PrintLast Go.Proofs.YtcbjpdaogicibaaW.PrintMore
open Oml
theorem Ev.down {ρ : Type} {g : Nat → Nat → Option ρ} {R : Nat → ρ} (n : Nat) (hend : Ev (fun k => g k n) (R n)) (hstep : ∀ i, i < n → Ev (fun k => g k (i + 1)) (R (i + 1)) → Ev (fun k => g k i) (R i)) : ∀ i, i ≤ n → Ev (fun k => g k i) (R i) := by
 intro i hi
 obtain⟨d,hd⟩: ∃d,n=i+d:=⟨n - i,by omega⟩
 induction d generalizing i with
 |zero=>
  obtain rfl:n=i:=by omega
  exact hend
 |succ d ih=>exact hstep i (by omega) (ih (i+1) (by omega) (by omega))
theorem Ev.eq {α : Type} {g : Nat → Option α} {r r' : α} (h : Ev g r) (e : r = r') : Ev g r' := e ▸ h
def allFrom (n : Nat) (p : Nat → Bool) (i : Nat) : Bool := (List.range' i (n - i)).all p
def fstFrom (n : Nat) (p : Nat → Bool) (i : Nat) : Option Nat := (List.range' i (n - i)).find? p
theorem allFrom_lt {n : Nat} {p : Nat → Bool} {i : Nat} (h : i < n) : allFrom n p i = (p i && allFrom n p (i + 1)) := by
 unfold allFrom
 obtain⟨d,rfl⟩: ∃d,n=i+(d+1):=⟨n - i - 1,by omega⟩
 rw [show i+(d+1) - i=d+1 by omega,show i+(d+1) - (i+1)=d by omega,List.range'_succ,List.all_cons]
theorem allFrom_ge {n : Nat} {p : Nat → Bool} {i : Nat} (h : n ≤ i) : allFrom n p i = true := by
 unfold allFrom; rw [show n - i = 0 by omega]; rfl
theorem allFrom_zero (n : Nat) (p : Nat → Bool) : allFrom n p 0 = allN n p := by
 unfold allFrom allN; rw [Nat.sub_zero, List.range_eq_range']
theorem fstFrom_lt {n : Nat} {p : Nat → Bool} {i : Nat} (h : i < n) : fstFrom n p i = if p i = true then some i else fstFrom n p (i + 1) := by
 unfold fstFrom
 obtain⟨d,rfl⟩: ∃d,n=i+(d+1):=⟨n - i - 1,by omega⟩
 rw [show i+(d+1) - i=d+1 by omega,show i+(d+1) - (i+1)=d by omega,List.range'_succ,List.find?_cons]
 cases p i <;> simp
theorem fstFrom_ge {n : Nat} {p : Nat → Bool} {i : Nat} (h : n ≤ i) : fstFrom n p i = none := by
 unfold fstFrom; rw [show n - i = 0 by omega]; rfl
theorem fstFrom_zero (n : Nat) (p : Nat → Bool) : fstFrom n p 0 = findN n p := by
 unfold fstFrom findN; rw [Nat.sub_zero, List.range_eq_range']
theorem wrap_nat {i : Nat} (h : i < 4611686018427387904) : wrap64 ((i : Int) + 1) = ((i + 1 : Nat) : Int) := by unfold wrap64; omega
theorem Ev.succ {α : Type} {g : Nat → Option α} {r : α} (h : Ev (fun k => g (k + 1)) r) : Ev g r := Ev.step (fun _ => rfl) h
theorem Ev.ite_pos {α : Type} {c : Prop} [Decidable c] {a b : Nat → Option α} {r : α} (h : c) (k : Ev a r) : Ev (fun n => if c then a n else b n) r := by simpa only [if_pos h] using k
theorem Ev.ite_neg {α : Type} {c : Prop} [Decidable c] {a b : Nat → Option α} {r : α} (h : ¬ c) (k : Ev b r) : Ev (fun n => if c then a n else b n) r := by simpa only [if_neg h] using k
theorem Ev.ip {α : Type} {c : Prop} [Decidable c] {a b : Nat → Option α} {r : α} (k : Ev a r) (h : c := by first | assumption | (focus omega) | (simp <;> fail)) : Ev (fun n => if c then a n else b n) r := Ev.ite_pos h k
theorem Ev.iq {α : Type} {c : Prop} [Decidable c] {a b : Nat → Option α} {r : α} (k : Ev b r) (h : ¬ c := by first | assumption | (focus omega) | (simp <;> fail)) : Ev (fun n => if c then a n else b n) r := Ev.ite_neg h k
theorem Ev.pure {α : Type} {o : Option α} {r : α} (h : o = some r) : Ev (fun _ => o) r := h ▸ Ev.now r
theorem Ev.pbind {α β : Type} {g : Option α} {f : Nat → α → Option β} {a : α} {r : β} (h : g = some a) (k : Ev (fun n => f n a) r) : Ev (fun n => g.bind (f n)) r := Ev.bind (g := fun _ => g) (Ev.pure h) k
theorem Ev.all {ρ : Type} {g : Nat → Int → Option ρ} {n : Nat} (p : Nat → Bool) {go stop : ρ} (hn : n < 4611686018427387904) (hend : (∀ i, i < n → p i = true) → Ev (fun k => g k (n : Int)) go)
 (hstep: ∀i,i<n→(∀j,j<i→p j=true)→ ∀R,(p i=true→Ev (fun k=>g k (wrap64 ((i:Int)+1))) R)→Ev (fun k=>g k (i:Int)) (if p i=true then R else stop)):
 Ev (fun k=>g k 0) (if allN n p=true then go else stop):=by
 have key: ∀d i,i+d=n→(∀j,j<i→p j=true)→Ev (fun k=>g k (i:Int)) (if allFrom n p i=true then go else stop):=by
  intro d
  induction d with
  |zero=>
   intro i hi hj
   obtain rfl:i=n:=by omega
   rw [allFrom_ge (Nat.le_refl _),if_pos rfl]
   exact hend hj
  |succ d ih=>
   intro i hi hj
   rw [allFrom_lt (by omega)]
   refine Ev.eq (hstep i (by omega) hj (if allFrom n p (i+1)=true then go else stop) fun hp=>?_) ?_
   ·rw [wrap_nat (by omega)]
    exact ih (i+1) (by omega) fun j hj'=>by
     rcases Nat.lt_or_ge j i with h|h
     ·exact hj j h
     ·obtain rfl:j=i:=by omega
      exact hp
   ·cases p i <;> simp
 have:=key n 0 (by omega) fun _ h=>absurd h (Nat.not_lt_zero _)
 rw [allFrom_zero] at this
 exact this
theorem Ev.find {ρ : Type} {g : Nat → Int → Option ρ} {n : Nat} (p : Nat → Bool) {none' : ρ} {some' : Nat → ρ} (hn : n < 4611686018427387904) (hend : (∀ i, i < n → p i = false) → Ev (fun k => g k (n : Int)) none')
 (hstep: ∀i,i<n→(∀j,j<i→p j=false)→ ∀R,(p i=false→Ev (fun k=>g k (wrap64 ((i:Int)+1))) R)→Ev (fun k=>g k (i:Int)) (if p i=true then some' i else R)):
 Ev (fun k=>g k 0) (match findN n p with|some i=>some' i|none=>none'):=by
 have key: ∀d i,i+d=n→(∀j,j<i→p j=false)→Ev (fun k=>g k (i:Int)) (match fstFrom n p i with|some i=>some' i|none=>none'):=by
  intro d
  induction d with
  |zero=>
   intro i hi hj
   obtain rfl:i=n:=by omega
   rw [fstFrom_ge (Nat.le_refl _)]
   exact hend hj
  |succ d ih=>
   intro i hi hj
   rw [fstFrom_lt (by omega)]
   refine Ev.eq (hstep i (by omega) hj (match fstFrom n p (i+1) with|some i=>some' i|none=>none') fun hp=>?_) ?_
   ·rw [wrap_nat (by omega)]
    exact ih (i+1) (by omega) fun j hj'=>by
     rcases Nat.lt_or_ge j i with h|h
     ·exact hj j h
     ·obtain rfl:j=i:=by omega
      exact hp
   ·cases p i <;> simp
 have:=key n 0 (by omega) fun _ h=>absurd h (Nat.not_lt_zero _)
 rw [fstFrom_zero] at this
 exact this
theorem Ev.loop {σ ρ : Type} {g : Nat → σ → Int → Option ρ} (n : Nat) (I : Nat → σ → Prop) {R : ρ} (hn : n < 4611686018427387904) (hend : ∀ s, I n s → Ev (fun k => g k s (n : Int)) R)
 (hstep: ∀i s,i<n→I i s→ ∃s',I (i+1) s'∧(Ev (fun k=>g k s' (wrap64 ((i:Int)+1))) R→Ev (fun k=>g k s (i:Int)) R)): ∀s,I 0 s→Ev (fun k=>g k s 0) R:=by
 have key: ∀d i,i+d=n→ ∀s,I i s→Ev (fun k=>g k s (i:Int)) R:=by
  intro d
  induction d with
  |zero=>
   intro i hi s hs
   obtain rfl:i=n:=by omega
   exact hend s hs
  |succ d ih=>
   intro i hi s hs
   obtain⟨s',h1,h2⟩:=hstep i s (by omega) hs
   refine h2 ?_
   rw [wrap_nat (by omega)]
   exact ih (i+1) (by omega) s' h1
 exact fun s hs=>key n 0 (by omega) s hs
theorem Ev.all1 {ρ : Type} {g : Nat → Nat → Option ρ} {R : Nat → ρ} (n : Nat) (h : ∀ a, a < n → Ev (fun k => g k a) (R a)) : ∃ K, ∀ a, a < n → ∀ k, K ≤ k → g k a = some (R a) := by
 induction n with
 |zero=>exact⟨0,fun a ha=>absurd ha (Nat.not_lt_zero _)⟩
 |succ n ih=>
  obtain⟨K,hK⟩:=ih fun a ha=>h a (by omega)
  obtain⟨K',hK'⟩:=h n (by omega)
  refine⟨K+K',fun a ha k hk=>?_⟩
  rcases Nat.lt_or_ge a n with hlt|hge
  ·exact hK a hlt k (by omega)
  ·obtain rfl:a=n:=by omega
   exact hK' k (by omega)
theorem Ev.all2 {ρ : Type} {g : Nat → Nat → Nat → Option ρ} {R : Nat → Nat → ρ} (n : Nat) (h : ∀ a b, a < n → b < n → Ev (fun k => g k a b) (R a b)) : ∃ K, ∀ a b, a < n → b < n → ∀ k, K ≤ k → g k a b = some (R a b) := by
 have h1: ∀a,a<n→ ∃K,∀b,b<n→ ∀k,K≤k→g k a b=some (R a b):=fun a ha=>Ev.all1 n fun b hb=>h a b ha hb
 have h2: ∀m,m≤n→ ∃K,∀a b,a<m→b<n→ ∀k,K≤k→g k a b=some (R a b):=by
  intro m
  induction m with
  |zero=>exact fun _=>⟨0,fun a b ha=>absurd ha (Nat.not_lt_zero _)⟩
  |succ m ih=>
   intro hm
   obtain⟨K,hK⟩:=ih (by omega)
   obtain⟨K',hK'⟩:=h1 m (by omega)
   refine⟨K+K',fun a b ha hb k hk=>?_⟩
   rcases Nat.lt_or_ge a m with hlt|hge
   ·exact hK a b hlt hb k (by omega)
   ·obtain rfl:a=m:=by omega
    exact hK' b hb k (by omega)
 exact h2 n (Nat.le_refl _)
theorem rd_nat (N : List Int) (i : Nat) : rd N (i : Int) = at1 N i := by simp [rd, at1]
theorem rdL_nat (U : List (List Int)) (i : Nat) : rd_L2 U (i : Int) = U.getD i [] := by simp [rd_L2]
theorem rd_row (U : List (List Int)) (i j : Nat) : at1 (U.getD i []) j = at2 U i j := rfl
section
section
variable {U : List (List Int)} (O : Order U)
include O
theorem meet_l1 {a b c : Nat} (ha : a < U.length) (hb : b < U.length) (hc : c < U.length) (R : Int) :
 ∀i,i≤U.length→ ∀fl:Bool,((fl && allFrom U.length (fun d=>!(leB U d a && leB U d b)||leB U d c) i)=false→Ev (fun k=>impl_meet.l0 k U a b U.length ((c+1:Nat):Int)) R)→
  Ev (fun k=>impl_meet.l1 k U a b c fl U.length c U.length i) (if(fl && allFrom U.length (fun d=>!(leB U d a && leB U d b)||leB U d c) i)=true then(c:Int) else R):=by
 have hs:=O.small
 refine fun i hi=>?_
 obtain⟨d,hd⟩: ∃d,U.length=i+d:=⟨U.length - i,by omega⟩
 induction d generalizing i with
 |zero=>
  intro fl hR
  rw [allFrom_ge (by omega),Bool.and_true] at hR ⊢
  cases fl with
  |true=>
   refine Ev.step (f:=fun _=>some (c:Int)) (fun k=>?_) (Ev.now _)
   simp only [impl_meet.l1]
   rw [if_neg (by omega)];rfl
  |false=>
   refine Ev.step (f:=fun k=>impl_meet.l0 k U a b U.length ((c+1:Nat):Int)) (fun k=>?_) (by simpa using hR rfl)
   simp only [impl_meet.l1]
   rw [if_neg (by omega),if_neg (by simp),wrap_nat (by omega)]
 |succ d ih=>
  intro fl hR
  rw [allFrom_lt (by omega)] at hR ⊢
  have hrow:((U.getD i []).length:Int)=U.length:=by rw [O.row i (by omega)]
  have va:=O.val (a:=i) (b:=a) (by omega) ha
  have vb:=O.val (a:=i) (b:=b) (by omega) hb
  have vc:=O.val (a:=i) (b:=c) (by omega) hc
  refine Ev.step (f:=fun k=>impl_meet.l1 k U a b c (fl && (!(leB U i a && leB U i b)||leB U i c)) U.length c U.length ((i+1:Nat):Int)) (fun k=>?_) ?_
  ·simp only [impl_meet.l1,rdL_nat,rd_nat,rd_row,hrow,va,vb,vc,wrap_nat (show i<4611686018427387904 by omega)]
   rw [if_pos (by omega)]
   cases fl
   ·rfl
   ·rw [if_pos rfl,if_pos (by omega),if_pos (by omega),if_pos (by omega),if_pos (by omega)]
    cases leB U i a
    ·rfl
    ·rw [if_neg (by simp),if_pos (by omega),if_pos (by omega)]
     cases leB U i b
     ·rfl
     ·rw [if_neg (by simp),if_pos (by omega),if_pos (by omega)]
      cases leB U i c <;> rfl
  ·refine Ev.eq (ih (i+1) (by omega) (by omega) (fl && (!(leB U i a && leB U i b)||leB U i c)) ?_) ?_
   ·intro h;exact hR (by rw [← Bool.and_assoc];exact h)
   ·rw [Bool.and_assoc]
theorem impl_meet.ev {a b : Nat} (ha : a < U.length) (hb : b < U.length) : Ev (fun k => impl_meet.f k U a b) (mI U a b) := by
 have hs:=O.small
 have key: ∀i,i≤U.length→Ev (fun k=>impl_meet.l0 k U a b U.length (i:Int)) (optI (fstFrom U.length (meetP U a b) i)):=by
  refine Ev.down U.length ?_ fun i hi ih=>?_
  ·rw [fstFrom_ge (Nat.le_refl _)]
   refine Ev.step (f:=fun _=>some (-1)) (fun k=>?_) (Ev.now _)
   simp only [impl_meet.l0]
   rw [if_neg (by omega)]
  ·have hrow:((U.getD i []).length:Int)=U.length:=by rw [O.row i hi]
   have va:=O.val (a:=i) (b:=a) hi ha
   have vb:=O.val (a:=i) (b:=b) hi hb
   rw [fstFrom_lt hi]
   refine Ev.step (f:=fun k=>impl_meet.j1 k U a b i U.length i (!(leB U i a && leB U i b))) (fun k=>?_) ?_
   ·simp only [impl_meet.l0,rdL_nat,rd_nat,rd_row,hrow,va,vb]
    rw [if_pos (by omega),if_pos (by omega),if_pos (by omega),if_pos (by omega),if_pos (by omega)]
    cases leB U i a
    ·rfl
    ·rw [if_neg (by simp),if_pos (by omega),if_pos (by omega)]
     cases leB U i b <;> rfl
   ·cases hab:leB U i a && leB U i b with
    |false=>
     refine Ev.step (f:=fun k=>impl_meet.l0 k U a b U.length ((i+1:Nat):Int)) (fun k=>?_) (Ev.eq ih ?_)
     ·simp only [impl_meet.j1,Bool.not_false,if_true]
      rw [wrap_nat (by omega)]
     ·have:meetP U a b i=false:=by unfold meetP;rw [← Bool.and_assoc,hab];rfl
      rw [this];rfl
    |true=>
     refine Ev.step (f:=fun k=>impl_meet.l1 k U a b i true U.length i U.length ((0:Nat):Int)) (fun k=>?_) (Ev.eq (meet_l1 O ha hb hi _ 0 (by omega) true (fun _=>ih)) ?_)
     ·simp only [impl_meet.j1,Bool.not_true];rfl
     ·have:meetP U a b i=allN U.length (fun d=>!(leB U d a && leB U d b)||leB U d i):=by unfold meetP;rw [← Bool.and_assoc,hab];rfl
      rw [this,Bool.true_and,allFrom_zero]
      split <;> rfl
 have:=key 0 (by omega)
 rw [fstFrom_zero] at this
 exact this
end
end
def rowOk (U : List (List Int)) (i : Nat) : Bool :=
 ((U.getD i []).length==U.length) && (leB U i i && allN U.length fun j=>(at2 U i j==0||at2 U i j==1) && ((U.getD j []).length==U.length && !(leB U i j && (!(i==j) && leB U j i))))
def transOk (U : List (List Int)) : Bool := allN U.length fun a => allN U.length fun b => allN U.length fun c => !(leB U a b && leB U b c) || leB U a c
theorem orderB_eq (U : List (List Int)) : orderB U = (decide (1 ≤ U.length) && (decide (U.length ≤ 12) && (allN U.length (rowOk U) && transOk U))) := by
 rw [Bool.eq_iff_iff,orderB_iff]
 unfold rowOk transOk
 simp only [Bool.and_eq_true,decide_eq_true_eq,allN_iff,Bool.or_eq_true,beq_iff_eq,Bool.not_eq_true',Bool.and_eq_false_iff]
 constructor
 ·intro O
  refine⟨O.pos,O.small,fun i hi=>⟨O.row i hi,O.refl i hi,fun j hj=>⟨O.bit i j hi hj,O.row j hj,?_⟩⟩,fun a ha b hb c hc=>?_⟩
  ·by_cases e:i=j
   ·right;left;simp [e]
   ·cases k1:leB U i j <;> cases k2:leB U j i <;> simp
    exact O.anti i j hi hj k1 k2
  ·cases k1:leB U a b <;> cases k2:leB U b c <;> simp
   exact O.trans a b c ha hb hc k1 k2
 ·rintro ⟨h1,h2,h3,h4⟩
  refine⟨h1,h2,fun a ha=>(h3 a ha).1,fun a b ha hb=>((h3 a ha).2.2 b hb).1,fun a ha=>(h3 a ha).2.1,fun a b ha hb k1 k2=>?_,fun a b c ha hb hc k1 k2=>?_⟩
  ·rcases ((h3 a ha).2.2 b hb).2.2 with e|e|e
   ·rw [k1] at e;exact absurd e (by simp)
   ·simpa using e
   ·rw [k2] at e;exact absurd e (by simp)
  ·rcases h4 a ha b hb c hc with (e|e)|e
   ·rw [k1] at e;exact absurd e (by simp)
   ·rw [k2] at e;exact absurd e (by simp)
   ·exact e
theorem impl_OrderOk.ev (U : List (List Int)) : Ev (fun k => impl_OrderOk.f k U) (orderB U) := by
 rw [orderB_eq]
 by_cases h1:1≤U.length
 ·by_cases h2:U.length≤12
  ·simp only [h1,h2,decide_true,Bool.true_and]
   unfold impl_OrderOk.f
   repeat(with_reducible first|refine Ev.ip ?_|refine Ev.iq ?_)
   rw [show decide ((U.length:Int)>12)=false from decide_eq_false (by omega)]
   refine Ev.succ ?_
   simp only [impl_OrderOk.j0]
   repeat(with_reducible first|refine Ev.ip ?_|refine Ev.iq ?_)
   refine Ev.eq (Ev.all (n:=U.length) (g:=fun k i=>impl_OrderOk.l0 k U U.length U U.length i) (rowOk U) (go:=transOk U) (stop:=false) (by omega) (fun hr=>?_) fun i hi hj R hR=>?_) (by cases allN U.length (rowOk U) <;> rfl)
   ·refine Ev.succ ?_
    simp only [impl_OrderOk.l0]
    repeat(with_reducible first|refine Ev.ip ?_|refine Ev.iq ?_)
    refine Ev.eq (Ev.all (n:=U.length) (g:=fun k i=>impl_OrderOk.l2 k U U.length U.length i) (fun a=>allN U.length fun b=>allN U.length fun c=>!(leB U a b && leB U b c)||leB U a c) (go:=true) (stop:=false) (by omega) (fun _=>?_) fun a ha _ R hR=>?_) (by unfold transOk;cases allN U.length _ <;> rfl)
    ·refine Ev.succ ?_
     simp only [impl_OrderOk.l2]
     repeat(with_reducible first|refine Ev.ip ?_|refine Ev.iq ?_)
     exact Ev.now _
    ·refine Ev.succ ?_
     simp only [impl_OrderOk.l2]
     repeat(with_reducible first|refine Ev.ip ?_|refine Ev.iq ?_)
     refine Ev.all (n:=U.length) (g:=fun k i=>impl_OrderOk.l3 k U U.length a U.length a U.length i) _ (by omega) (fun h=>?_) fun b hb _ R2 hR2=>?_
     ·refine Ev.succ ?_
      simp only [impl_OrderOk.l3]
      repeat(with_reducible first|refine Ev.ip ?_|refine Ev.iq ?_)
      exact hR (allN_iff.2 h)
     ·refine Ev.succ ?_
      simp only [impl_OrderOk.l3]
      repeat(with_reducible first|refine Ev.ip ?_|refine Ev.iq ?_)
      refine Ev.all (n:=U.length) (g:=fun k i=>impl_OrderOk.l4 k U U.length a b U.length a U.length b U.length i) _ (by omega) (fun h=>?_) fun c hc _ R3 hR3=>?_
      ·refine Ev.succ ?_
       simp only [impl_OrderOk.l4]
       repeat(with_reducible first|refine Ev.ip ?_|refine Ev.iq ?_)
       exact hR2 (allN_iff.2 h)
      ·refine Ev.succ ?_
       have ra:((U.getD a []).length:Int)=U.length:=by have:=hr a ha;unfold rowOk at this;simp only [Bool.and_eq_true,beq_iff_eq] at this;omega
       have rb:((U.getD b []).length:Int)=U.length:=by have:=hr b hb;unfold rowOk at this;simp only [Bool.and_eq_true,beq_iff_eq] at this;omega
       simp only [impl_OrderOk.l4,rdL_nat,rd_nat,rd_row,ra,rb]
       repeat(with_reducible first|refine Ev.ip ?_|refine Ev.iq ?_)
       by_cases e1:at2 U a b=1
       ·have f1:leB U a b=true:=by simp [leB,e1]
        by_cases e2:at2 U b c=1
        ·have f2:leB U b c=true:=by simp [leB,e2]
         by_cases e3:at2 U a c=1
         ·have f3:leB U a c=true:=by simp [leB,e3]
          repeat(with_reducible first|refine Ev.ip ?_|refine Ev.iq ?_)
          refine Ev.eq (hR3 (by simp [f3])) (by simp [f3])
         ·have f3:leB U a c=false:=by simp [leB,e3]
          repeat(with_reducible first|refine Ev.ip ?_|refine Ev.iq ?_)
          refine Ev.eq (Ev.now _) (by simp [f1,f2,f3])
        ·have f2:leB U b c=false:=by simp [leB,e2]
         repeat(with_reducible first|refine Ev.ip ?_|refine Ev.iq ?_)
         refine Ev.eq (hR3 (by simp [f2])) (by simp [f2])
       ·have f1:leB U a b=false:=by simp [leB,e1]
        repeat(with_reducible first|refine Ev.ip ?_|refine Ev.iq ?_)
        refine Ev.eq (hR3 (by simp [f1])) (by simp [f1])
   ·refine Ev.succ ?_
    simp only [impl_OrderOk.l0,rdL_nat,rd_nat,rd_row]
    repeat(with_reducible first|refine Ev.ip ?_|refine Ev.iq ?_)
    by_cases e1:(U.getD i []).length=U.length
    ·repeat(with_reducible first|refine Ev.ip ?_|refine Ev.iq ?_)
     by_cases e2:at2 U i i=1
     ·have f2:leB U i i=true:=by simp [leB,e2]
      rw [show (at2 U i i !=1)=false by simp [e2]]
      refine Ev.succ ?_
      simp only [impl_OrderOk.j2,rdL_nat,rd_nat,rd_row]
      repeat(with_reducible first|refine Ev.ip ?_|refine Ev.iq ?_)
      rw [e1]
      refine Ev.eq (Ev.all (n:=U.length) (g:=fun k j=>impl_OrderOk.l1 k U U.length i U U.length i (U.getD i []) U.length j) (fun j=>(at2 U i j==0||at2 U i j==1) && ((U.getD j []).length==U.length && !(leB U i j && (!(i==j) && leB U j i)))) (go:=R) (stop:=false) (by omega) (fun h=>?_) fun j hj _ R2 hR2=>?_) (by unfold rowOk;simp [-List.getD_eq_getElem?_getD,e1,f2])
      ·refine Ev.succ ?_
       simp only [impl_OrderOk.l1]
       repeat(with_reducible first|refine Ev.ip ?_|refine Ev.iq ?_)
       exact hR (by unfold rowOk;simp only [e1,f2,BEq.rfl,Bool.true_and];exact allN_iff.2 h)
      ·refine Ev.succ ?_
       simp only [impl_OrderOk.l1,rd_nat,rd_row]
       repeat(with_reducible first|refine Ev.ip ?_|refine Ev.iq ?_)
       have j4: ∀R3:Bool,(((U.getD j []).length=U.length→(leB U i j=true→i≠j→leB U j i=false)→Ev (fun k=>impl_OrderOk.l1 k U U.length i U U.length i (U.getD i []) U.length (wrap64 ((j:Int)+1))) R3))→
        Ev (fun k=>impl_OrderOk.j4 k U U.length i j (at2 U i j) U U.length i (U.getD i []) U.length j false) (if((U.getD j []).length==U.length && !(leB U i j && (!(i==j) && leB U j i)))=true then R3 else false):=by
        intro R3 hR3
        refine Ev.succ ?_
        simp only [impl_OrderOk.j4,rdL_nat,rd_nat,rd_row]
        repeat(with_reducible first|refine Ev.ip ?_|refine Ev.iq ?_)
        by_cases l1:(U.getD j []).length=U.length
        ·repeat(with_reducible first|refine Ev.ip ?_|refine Ev.iq ?_)
         rw [l1]
         by_cases x1:at2 U i j=1
         ·have y1:leB U i j=true:=by simp [leB,x1]
          repeat(with_reducible first|refine Ev.ip ?_|refine Ev.iq ?_)
          by_cases x2:i=j
          ·repeat(with_reducible first|refine Ev.ip ?_|refine Ev.iq ?_)
           exact Ev.eq (hR3 l1 (fun _ h=>absurd x2 h)) (by simp [x2])
          ·repeat(with_reducible first|refine Ev.ip ?_|refine Ev.iq ?_)
           by_cases x3:at2 U j i=1
           ·have y3:leB U j i=true:=by simp [leB,x3]
            repeat(with_reducible first|refine Ev.ip ?_|refine Ev.iq ?_)
            exact Ev.eq (Ev.now _) (by simp [x2,y1,y3])
           ·have y3:leB U j i=false:=by simp [leB,x3]
            repeat(with_reducible first|refine Ev.ip ?_|refine Ev.iq ?_)
            exact Ev.eq (hR3 l1 (fun _ _=>y3)) (by simp [y3])
         ·have y1:leB U i j=false:=by simp [leB,x1]
          repeat(with_reducible first|refine Ev.ip ?_|refine Ev.iq ?_)
          exact Ev.eq (hR3 l1 (fun h=>by rw [y1] at h;exact absurd h (by simp))) (by simp [y1])
        ·repeat(with_reducible first|refine Ev.ip ?_|refine Ev.iq ?_)
         exact Ev.eq (Ev.now _) (by simp [-List.getD_eq_getElem?_getD,l1])
       have hgo:at2 U i j=0∨at2 U i j=1→Ev (fun k=>impl_OrderOk.j4 k U U.length i j (at2 U i j) U U.length i (U.getD i []) U.length j false) (if((at2 U i j==0||at2 U i j==1) && ((U.getD j []).length==U.length && !(leB U i j && (!(i==j) && leB U j i))))=true then R2 else false):=by
        intro hb
        have hb1:(at2 U i j==0||at2 U i j==1)=true:=by rcases hb with h|h <;> simp [h]
        rw [hb1,Bool.true_and]
        refine j4 R2 fun l1 h=>hR2 ?_
        rw [hb1,Bool.true_and]
        simp only [l1,BEq.rfl,Bool.true_and,Bool.not_eq_true']
        cases y1:leB U i j
        ·rfl
        ·by_cases x2:i=j
         ·simp [x2]
         ·simp [h y1 x2]
       by_cases x0:at2 U i j=0
       ·repeat(with_reducible first|refine Ev.ip ?_|refine Ev.iq ?_)
        exact hgo (.inl x0)
       ·repeat(with_reducible first|refine Ev.ip ?_|refine Ev.iq ?_)
        by_cases x1:at2 U i j=1
        ·rw [show (at2 U i j !=1)=false by simp [x1]]
         exact hgo (.inr x1)
        ·rw [show (at2 U i j !=1)=true by simp [x1]]
         refine Ev.succ ?_
         simp only [impl_OrderOk.j4]
         repeat(with_reducible first|refine Ev.ip ?_|refine Ev.iq ?_)
         exact Ev.eq (Ev.now _) (by simp [x0,x1])
     ·have f2:leB U i i=false:=by simp [leB,e2]
      rw [show (at2 U i i !=1)=true by simp [e2]]
      refine Ev.succ ?_
      simp only [impl_OrderOk.j2]
      repeat(with_reducible first|refine Ev.ip ?_|refine Ev.iq ?_)
      exact Ev.eq (Ev.now _) (by unfold rowOk;simp [f2])
    ·repeat(with_reducible first|refine Ev.ip ?_|refine Ev.iq ?_)
     refine Ev.succ ?_
     simp only [impl_OrderOk.j2]
     repeat(with_reducible first|refine Ev.ip ?_|refine Ev.iq ?_)
     exact Ev.eq (Ev.now _) (by unfold rowOk;simp [-List.getD_eq_getElem?_getD,e1])
  ·simp only [h1,h2,decide_true,decide_false,Bool.true_and,Bool.false_and]
   unfold impl_OrderOk.f
   repeat(with_reducible first|refine Ev.ip ?_|refine Ev.iq ?_)
   rw [show decide ((U.length:Int)>12)=true from decide_eq_true (by omega)]
   refine Ev.succ ?_
   simp only [impl_OrderOk.j0]
   repeat(with_reducible first|refine Ev.ip ?_|refine Ev.iq ?_)
   exact Ev.now _
 ·simp only [h1,decide_false,Bool.false_and]
  unfold impl_OrderOk.f
  repeat(with_reducible first|refine Ev.ip ?_|refine Ev.iq ?_)
  refine Ev.succ ?_
  simp only [impl_OrderOk.j0]
  repeat(with_reducible first|refine Ev.ip ?_|refine Ev.iq ?_)
  exact Ev.now _
theorem turnL_len (U : List (List Int)) : (turnL U).length = U.length := by simp [turnL]
theorem turnL_at (U : List (List Int)) {a b : Nat} (ha : a < U.length) (hb : b < U.length) : at2 (turnL U) a b = at2 U b a := by simp [at2, turnL, ha, hb]
theorem turnL_le (U : List (List Int)) {a b : Nat} (ha : a < U.length) (hb : b < U.length) : leB (turnL U) a b = leB U b a := by unfold leB; rw [turnL_at U ha hb]
theorem _root_.Oml.Order.turn {U : List (List Int)} (O : Order U) : Order (turnL U) where
 pos:=by rw [turnL_len];exact O.pos
 small:=by rw [turnL_len];exact O.small
 row a ha:=by rw [turnL_len] at*;simp [turnL,ha]
 bit a b ha hb:=by rw [turnL_len] at*;rw [turnL_at U ha hb];exact O.bit b a hb ha
 refl a ha:=by rw [turnL_len] at*;rw [turnL_le U ha ha];exact O.refl a ha
 anti a b ha hb h k:=by rw [turnL_len] at*;rw [turnL_le U ha hb] at h;rw [turnL_le U hb ha] at k;exact O.anti a b ha hb k h
 trans a b c ha hb hc h k:=by rw [turnL_len] at*;rw [turnL_le U ha hb] at h;rw [turnL_le U hb hc] at k;rw [turnL_le U ha hc];exact O.trans c b a hc hb ha k h
theorem allN_congr {n : Nat} {p q : Nat → Bool} (h : ∀ i, i < n → p i = q i) : allN n p = allN n q := by
 rw [Bool.eq_iff_iff,allN_iff,allN_iff]
 exact⟨fun k i hi=>h i hi ▸ k i hi,fun k i hi=>(h i hi).symm ▸ k i hi⟩
theorem findN_congr {n : Nat} {p q : Nat → Bool} (h : ∀ i, i < n → p i = q i) : findN n p = findN n q := by
 cases e:findN n p with
 |some i=>exact(findN_of (findN_some e).1 (by rw [← h i (findN_some e).1];exact(findN_some e).2) fun j hj=>by rw [← h j (by have:=(findN_some e).1;omega)];exact findN_first e j hj).symm
 |none=>exact(findN_none.2 fun i hi=>by rw [← h i hi];exact findN_none.1 e i hi).symm
theorem meet_turn (U : List (List Int)) {a b : Nat} (ha : a < U.length) (hb : b < U.length) : mI (turnL U) a b = jI U a b := by
 unfold mI jI meetO joinO
 rw [turnL_len]
 congr 1
 refine findN_congr fun c hc=>?_
 unfold meetP joinP
 rw [turnL_le U hc ha,turnL_le U hc hb,turnL_len]
 congr 2
 refine allN_congr fun d hd=>?_
 rw [turnL_le U hd ha,turnL_le U hd hb,turnL_le U hd hc]
theorem impl_meet.ev_turn {U : List (List Int)} (O : Order U) {a b : Nat} (ha : a < U.length) (hb : b < U.length) : Ev (fun k => impl_meet.f k (turnL U) a b) (jI U a b) := by
 rw [← meet_turn U ha hb]
 exact impl_meet.ev O.turn (by rw [turnL_len];exact ha) (by rw [turnL_len];exact hb)
theorem getD_set {α : Type} (l : List α) (i j : Nat) (x d : α) (hi : i < l.length) : (l.set i x).getD j d = if j = i then x else l.getD j d := by
 by_cases e:j=i
 ·subst e;simp [hi]
 ·simp [List.getElem?_set,e,show¬(i=j) by omega]
theorem impl_turned.ev {U : List (List Int)} (O : Order U) : Ev (fun k => impl_turned.f k U) (turnL U) := by
 have hs:=O.small
 unfold impl_turned.f
 repeat(with_reducible first|refine Ev.ip ?_|refine Ev.iq ?_)
 rw [Int.toNat_natCast]
 repeat(with_reducible first|refine Ev.ip ?_|refine Ev.iq ?_)
 refine Ev.loop (g:=fun k s i=>impl_turned.l0 k U s U.length i) U.length (fun i s=>s.length=U.length∧ ∀a,a<i→s.getD a []=(List.range U.length).map fun b=>at2 U b a) (by omega) (fun s h=>?_) (fun i s hi h=>?_) _ ⟨by simp,fun a h=>absurd h (Nat.not_lt_zero _)⟩
 ·refine Ev.succ ?_
  simp only [impl_turned.l0]
  repeat(with_reducible first|refine Ev.ip ?_|refine Ev.iq ?_)
  refine Ev.eq (Ev.now s) (List.ext_getElem (by rw [h.1,turnL_len]) fun a h1 h2=>?_)
  have:=h.2 a (by omega)
  simpa [turnL,h1] using this
 ·obtain⟨h1,h2⟩:=h
  refine⟨s.set i ((List.range U.length).map fun b=>at2 U b i),⟨by simp [h1],fun a ha=>?_⟩,fun K=>Ev.succ ?_⟩
  ·rw [getD_set _ _ _ _ _ (by omega)]
   by_cases e:a=i
   ·rw [if_pos e,e]
   ·rw [if_neg e];exact h2 a (by omega)
  ·simp only [impl_turned.l0,Int.toNat_natCast]
   repeat(with_reducible first|refine Ev.ip ?_|refine Ev.iq ?_)
   refine Ev.loop (g:=fun k s j=>impl_turned.l1 k U s i U.length i U.length j) U.length (fun j t=>t.length=U.length∧(t.getD i []).length=U.length∧t.set i []=s.set i []∧ ∀b,b<j→at1 (t.getD i []) b=at2 U b i) (by omega) (fun t h=>?_) (fun j t hj h=>?_) _ ⟨by simp [h1],by rw [getD_set _ _ _ _ _ (by omega)];simp,by simp,fun b h=>absurd h (Nat.not_lt_zero _)⟩
   ·refine Ev.succ ?_
    simp only [impl_turned.l1]
    repeat(with_reducible first|refine Ev.ip ?_|refine Ev.iq ?_)
    have e:t=s.set i ((List.range U.length).map fun b=>at2 U b i):=by
     obtain⟨t1,t2,t3,t4⟩:=h
     have er:t.getD i []=(List.range U.length).map fun b=>at2 U b i:=by
      refine List.ext_getElem (by rw [t2];simp) fun b k1 k2=>?_
      have:=t4 b (by omega)
      simp only [at1] at this
      rw [List.getD_eq_getElem?_getD,List.getElem?_eq_getElem k1] at this
      simpa using this
     refine List.ext_getElem (by simp [t1,h1]) fun a k1 k2=>?_
     by_cases ea:a=i
     ·subst ea
      have:t.getD a []=t[a]:=by simp [k1]
      rw [← this,er];simp
     ·have:=congrArg (fun l=>l.getD a []) t3
      rw [getD_set _ _ _ _ _ (by omega),getD_set _ _ _ _ _ (by omega),if_neg ea,if_neg ea] at this
      have k3:a<s.length:=by omega
      simpa [k1,k3,List.getElem_set,show¬(i=a) by omega] using this
    rw [e]
    exact K
   ·obtain⟨t1,t2,t3,t4⟩:=h
    have hrow:=O.row j hj
    refine⟨t.set i ((t.getD i []).set j (at2 U j i)),⟨by simp [t1],?_,?_,fun b hb=>?_⟩,fun K=>Ev.succ ?_⟩
    ·rw [getD_set _ _ _ _ _ (by omega),if_pos rfl];simpa using t2
    ·rw [← t3];simp
    ·rw [getD_set _ _ _ _ _ (by omega),if_pos rfl]
     unfold at1
     rw [getD_set _ _ _ _ _ (by omega)]
     by_cases eb:b=j
     ·rw [if_pos eb,eb]
     ·rw [if_neg eb];exact t4 b (by omega)
    ·simp only [impl_turned.l1,rdL_nat,rd_nat,rd_row,hrow,t1,t2,Int.toNat_natCast]
     repeat(with_reducible first|refine Ev.ip ?_|refine Ev.iq ?_)
     exact K
theorem optI_neg (o : Option Nat) : (optI o < 0) ↔ o.isSome = false := by cases o <;> simp [optI] <;> omega
theorem impl_LatticeOk.ev (U : List (List Int)) : Ev (fun k => impl_LatticeOk.f k U) (latticeB U) := by
 unfold impl_LatticeOk.f latticeB
 refine Ev.bind (impl_OrderOk.ev U) ?_
 cases ho:orderB U with
 |false=>
  repeat(with_reducible first|refine Ev.ip ?_|refine Ev.iq ?_)
  exact Ev.now _
 |true=>
  have O:=orderB_iff.1 ho
  have hs:=O.small
  repeat(with_reducible first|refine Ev.ip ?_|refine Ev.iq ?_)
  refine Ev.bind (impl_turned.ev O) ?_
  refine Ev.eq (Ev.all (n:=U.length) (g:=fun k i=>impl_LatticeOk.l0 k U (turnL U) U.length i) (fun a=>allN U.length fun b=>(meetO U a b).isSome && (joinO U a b).isSome) (go:=true) (stop:=false) (by omega) (fun _=>?_) fun a ha _ R hR=>?_) (by rw [Bool.true_and];cases allN U.length _ <;> rfl)
  ·refine Ev.succ ?_
   simp only [impl_LatticeOk.l0]
   repeat(with_reducible first|refine Ev.ip ?_|refine Ev.iq ?_)
   exact Ev.now _
  ·refine Ev.succ ?_
   simp only [impl_LatticeOk.l0]
   repeat(with_reducible first|refine Ev.ip ?_|refine Ev.iq ?_)
   refine Ev.all (n:=U.length) (g:=fun k i=>impl_LatticeOk.l1 k U (turnL U) a U.length a U.length i) _ (by omega) (fun h=>?_) fun b hb _ R2 hR2=>?_
   ·refine Ev.succ ?_
    simp only [impl_LatticeOk.l1]
    repeat(with_reducible first|refine Ev.ip ?_|refine Ev.iq ?_)
    exact hR (allN_iff.2 h)
   ·refine Ev.succ ?_
    simp only [impl_LatticeOk.l1]
    repeat(with_reducible first|refine Ev.ip ?_|refine Ev.iq ?_)
    refine Ev.bind (impl_meet.ev O ha hb) ?_
    unfold mI
    cases em:meetO U a b with
    |none=>
     refine Ev.ite_pos (by simp [optI]) ?_
     exact Ev.eq (Ev.now _) (by simp)
    |some m=>
     refine Ev.ite_neg (by have:=optI_neg (some 0);simp [optI]) ?_
     refine Ev.bind (impl_meet.ev_turn O ha hb) ?_
     unfold jI
     cases ej:joinO U a b with
     |none=>
      refine Ev.ite_pos (by simp [optI]) ?_
      exact Ev.eq (Ev.now _) (by simp)
     |some j=>
      refine Ev.ite_neg (by have:=optI_neg (some 0);simp [optI]) ?_
      exact Ev.eq (hR2 (by simp [em,ej])) (by simp)
theorem impl_LeastOf.ev (U : List (List Int)) : Ev (fun k => impl_LeastOf.f k U) (if orderB U = true then (optI (leastO U), (leastO U).isSome) else (-1, false)) := by
 unfold impl_LeastOf.f
 refine Ev.bind (impl_OrderOk.ev U) ?_
 cases ho:orderB U with
 |false=>
  repeat(with_reducible first|refine Ev.ip ?_|refine Ev.iq ?_)
  exact Ev.now _
 |true=>
  have O:=orderB_iff.1 ho
  have hs:=O.small
  repeat(with_reducible first|refine Ev.ip ?_|refine Ev.iq ?_)
  refine Ev.eq (Ev.find (n:=U.length) (g:=fun k i=>impl_LeastOf.l0 k U U.length i) (fun a=>allN U.length fun b=>leB U a b) (none':=(-1,false)) (some':=fun i=>((i:Int),true)) (by omega) (fun _=>?_) fun a ha _ R hR=>?_) (by unfold leastO;cases findN U.length _ <;> rfl)
  ·refine Ev.succ ?_
   simp only [impl_LeastOf.l0]
   repeat(with_reducible first|refine Ev.ip ?_|refine Ev.iq ?_)
   exact Ev.now _
  ·refine Ev.succ ?_
   simp only [impl_LeastOf.l0,rdL_nat,O.row a ha]
   repeat(with_reducible first|refine Ev.ip ?_|refine Ev.iq ?_)
   have key: ∀d i,i+d=U.length→ ∀fl:Bool,(fl && allFrom U.length (fun b=>leB U a b) i)=allN U.length (fun b=>leB U a b)→Ev (fun k=>impl_LeastOf.l1 k a fl U U.length a (U.getD a []) U.length i) (if allN U.length (fun b=>leB U a b)=true then((a:Int),true) else R):=by
    intro d
    induction d with
    |zero=>
     intro i hi fl hfl
     refine Ev.succ ?_
     simp only [impl_LeastOf.l1]
     rw [allFrom_ge (by omega),Bool.and_true] at hfl
     rw [hfl]
     repeat(with_reducible first|refine Ev.ip ?_|refine Ev.iq ?_)
     cases ha':allN U.length (fun b=>leB U a b) with
     |true=>
      repeat(with_reducible first|refine Ev.ip ?_|refine Ev.iq ?_)
      exact Ev.now _
     |false=>
      repeat(with_reducible first|refine Ev.ip ?_|refine Ev.iq ?_)
      exact hR ha'
    |succ d ih=>
     intro i hi fl hfl
     rw [allFrom_lt (by omega)] at hfl
     refine Ev.succ ?_
     have rl:=O.row a ha
     simp only [impl_LeastOf.l1,rd_nat,rd_row,wrap_nat (show i<4611686018427387904 by omega)]
     repeat(with_reducible first|refine Ev.ip ?_|refine Ev.iq ?_)
     cases fl with
     |true=>
      repeat(with_reducible first|refine Ev.ip ?_|refine Ev.iq ?_)
      exact ih (i+1) (by omega) _ hfl
     |false=>
      repeat(with_reducible first|refine Ev.ip ?_|refine Ev.iq ?_)
      exact ih (i+1) (by omega) _ (by rw [← hfl];simp)
   exact key U.length 0 (by omega) true (by rw [allFrom_zero,Bool.true_and])
theorem told_facts (U : List (List Int)) : ∃ k, ToldFacts k U := by
 cases hl:latticeB U with
 |false=>
  obtain⟨k,hk⟩:=(impl_LatticeOk.ev U).rounds
  exact⟨k,by rw [hk,hl],fun h=>by rw [hl] at h;exact absurd h (by simp),fun h=>by rw [hl] at h;exact absurd h (by simp),fun h=>by rw [hl] at h;exact absurd h (by simp),fun h=>by rw [hl] at h;exact absurd h (by simp)⟩
 |true=>
  have O:=latticeB_order hl
  obtain⟨k1,h1⟩:=impl_LatticeOk.ev U
  obtain⟨k2,h2⟩:=impl_LeastOf.ev U
  have hm: ∃K,∀a b:Nat,a<U.length→b<U.length→ ∀k,K≤k→impl_meet.f k U a b=some (mI U a b):=Ev.all2 U.length fun a b ha hb=>impl_meet.ev O ha hb
  have hj: ∃K,∀a b:Nat,a<U.length→b<U.length→ ∀k,K≤k→impl_meet.f k (turnL U) a b=some (jI U a b):=Ev.all2 U.length fun a b ha hb=>impl_meet.ev_turn O ha hb
  obtain⟨k3,h3⟩:=hm
  obtain⟨k4,h4⟩:=hj
  obtain⟨k5,h5⟩:=impl_turned.ev O
  refine⟨k1+k2+k3+k4+k5,?_,fun _=>h5 _ (by omega),fun _ a b ha hb=>h3 a b ha hb _ (by omega),fun _ a b ha hb=>h4 a b ha hb _ (by omega),fun _=>?_⟩
  ·exact h1 _ (by omega)
  ·have:=h2 (k1+k2+k3+k4+k5) (by omega)
   rw [if_pos (orderB_iff.2 O)] at this
   exact this
def withB (U : List (List Int)) (N : List Int) (a b : Int) : Bool := orI U (andI U a b) (andI U a (notI N b)) == a
def bothB (U : List (List Int)) (N : List Int) (a b : Int) : Bool := withB U N a b && withB U N b a
inductive Fm where
 | leaf (c : Int)
 | neg (f : Fm)
 | bin (o : Int) (f g : Fm)
def isLeaf (c : Int) : Prop := c = 97 ∨ c = 98 ∨ c = 99 ∨ c = 48 ∨ c = 49
instance (c : Int) : Decidable (isLeaf c) := by unfold isLeaf; infer_instance
def rdF : Nat → ByteArray → Option (Fm × ByteArray)
 |0,_=>none
 |k+1,s=>
  if s.size=0 then none
  else if isLeaf (bt s 0) then some (.leaf (bt s 0),s.extract 1 s.size)
  else if bt s 0=33 then
   match rdF k (s.extract 1 s.size) with
   |none=>none
   |some (f,r)=>some (.neg f,r)
  else if bt s 0=40 then
   match rdF k (s.extract 1 s.size) with
   |none=>none
   |some (f,r)=>
    if r.size=0 then none
    else if bt r 0=38∨bt r 0=124 then
     match rdF k (r.extract 1 r.size) with
     |none=>none
     |some (g,q)=>
      if q.size=0 then none
      else if bt q 0=41 then some (.bin (bt r 0) f g,q.extract 1 q.size)
      else none
    else none
  else none
theorem ext_size (s : ByteArray) : (s.extract 1 s.size).size = s.size - 1 := by rw [ByteArray.size_extract]; omega
theorem rdF_size : ∀ (k : Nat) (s : ByteArray) (f : Fm) (r : ByteArray), rdF k s = some (f, r) → r.size < s.size
 |0,_,_,_,h=>by simp [rdF] at h
 |k+1,s,f,r,h=>by
  have ih:=rdF_size k
  simp only [rdF] at h
  split at h
  ·cases h
  ·rename_i h0
   split at h
   ·cases h;rw [ext_size];omega
   ·split at h
    ·split at h
     ·cases h
     ·rename_i f1 r1 h1
      cases h
      have:=ih _ _ _ h1
      rw [ext_size] at this;omega
    ·split at h
     ·split at h
      ·cases h
      ·rename_i f1 r1 h1
       have h2:=ih _ _ _ h1
       rw [ext_size] at h2
       split at h
       ·cases h
       ·split at h
        ·split at h
         ·cases h
         ·rename_i g q h3
          have h4:=ih _ _ _ h3
          rw [ext_size] at h4
          split at h
          ·cases h
          ·split at h
           ·cases h;rw [ext_size];omega
           ·cases h
        ·cases h
     ·cases h
def fmOf (s : ByteArray) : Option Fm :=
 if 60 < s.size then none
 else match rdF s.size s with
  | none => none
  | some (f, r) => if r.size = 0 then some f else none
def FAt (W : World) : Nat → Fm → Prop
 |p,.leaf c=>W.heap[p]? =some (.cells #[.int .u8 c,.slice none 0 0] 118 (0,0))
 |p,.neg f=> ∃q a c,W.heap[p]? =some (.cells #[.int .u8 33,.slice (some ⟨a,0,none⟩) 1 c] 118 (0,0))∧W.cell? ⟨a,0,none⟩=some (.pointer (some ⟨q,0,none⟩))∧FAt W q f
 |p,.bin o f g=> ∃q r a c,W.heap[p]? =some (.cells #[.int .u8 o,.slice (some ⟨a,0,none⟩) 2 c] 118 (0,0))∧W.cell? ⟨a,0,none⟩=some (.pointer (some ⟨q,0,none⟩))∧W.cell? ⟨a,1,none⟩=some (.pointer (some ⟨r,0,none⟩))∧FAt W q f∧FAt W r g
theorem FAt.below {W W1 : World} (hb : Below W.heap.size W W1) : ∀ (f : Fm) (p : Nat), FAt W p f → FAt W1 p f
 | .leaf c,p,h=>blk_below h hb
 | .neg f,p,⟨q,a,c,h1,h2,h3⟩=>⟨q,a,c,blk_below h1 hb,cell_up h2 hb rfl,FAt.below hb f q h3⟩
 | .bin o f g,p,⟨q,r,a,c,h1,h2,h3,h4,h5⟩=>⟨q,r,a,c,blk_below h1 hb,cell_up h2 hb rfl,cell_up h3 hb rfl,FAt.below hb f q h4,FAt.below hb g r h5⟩
def RdPost (w : World) (s : ByteArray) (o : Option (Fm × ByteArray)) (e : Ending) (w' : World) : Prop :=
 Below w.heap.size w w'∧match o with
  |none=>e= .returned (.tuple #[.pointer none,.string s])
  |some (f,r)=> ∃p,e= .returned (.tuple #[.pointer (some ⟨p,0,none⟩),.string r])∧FAt w' p f
theorem size_al (W : World) (o : Obj) : (W.alloc o).heap.size = W.heap.size + 1 := by first | (simp; done) | (unfold World.alloc; simp; done) | rfl
theorem blk2 (W : World) (o q : Obj) : ((W.alloc o).alloc q).heap[W.heap.size + 1]? = some q ∧ ((W.alloc o).alloc q).heap[W.heap.size]? = some o := by
 have h:=(MapKept.heap_alloc (W.alloc o) q).1
 rw [size_al] at h
 exact⟨h,blk_alloc (MapKept.heap_alloc W o).1 q⟩
theorem str_nil {s : ByteArray} (h : s.size = 0) : s.toList = [] := by
 rw [ByteArray.toList_eq]
 have h2:s.data.size=0:=h
 exact List.eq_nil_of_length_eq_zero (by rw [Array.length_toList];exact h2)
theorem str_ne {s : ByteArray} (h : 0 < s.size) : s.toList.isEmpty = false ∧ (s.toList == []) = false := by
 have h1:s.toList≠ []:=by
  rw [ByteArray.toList_eq]
  intro e
  have h2:s.data.size=0:=by rw [← Array.length_toList,e];rfl
  have h3:s.size=0:=h2
  omega
 cases hl:s.toList with
 |nil=>exact absurd hl h1
 |cons a l=>exact⟨rfl,rfl⟩
theorem read_empty (k : Nat) (s : ByteArray) (w : World) (h : s.size = 0) : Calls Try.prog 142 #[.string s] w (RdPost w s (rdF k s)) := by
 have hr:rdF k s=none:=by cases k <;> simp [rdF,h]
 rw [hr]
 have h1:=str_nil h
 have h2:(s.toList== [])=true:=by rw [h1];rfl
 have h3:s.toList.isEmpty=true:=by rw [h1];rfl
 clear hr h
 go_enter Try.func142,Try.ntmps142
 go_wp2_with fail
 go_ret2
 exact⟨Below.refl _ _,rfl⟩
def impl_readFormula.T9 : Bool × List (List Nat × List Nat) := (true, [([], []), ([0], [0]), ([1], [1]), ([2], [2]), ([], []), ([4], [4]), ([3, 0, 1, 2, 3], [3]), ([5, 6, 0, 1, 2, 3, 4, 5, 6], [5])])
def impl_readFormula.B9 : List Nat := [0, 1, 3, 7, 0, 16, 15, 127]
theorem impl_readFormula.tab9 : rtab .any (opsOf Try.f142 9) = impl_readFormula.T9 := by kernel_rfl
theorem impl_readFormula.bits9 : waitsOk impl_readFormula.T9.2 impl_readFormula.B9 = true := by kernel_rfl
def impl_readFormula.T22 : Bool × List (List Nat × List Nat) := (true, [([], []), ([0], [0]), ([], []), ([], []), ([2, 3], [2, 3]), ([1, 4], [1, 4]), ([5], [5]), ([], []), ([7], [7]), ([6, 0, 1, 2, 3, 4, 5, 6], [6]), ([8, 9, 0, 1, 2, 3, 4, 5, 6, 7, 8, 9], [8])])
def impl_readFormula.B22 : List Nat := [0, 1, 0, 0, 12, 31, 63, 0, 128, 127, 1023]
theorem impl_readFormula.tab22 : rtab .any (opsOf Try.f142 22) = impl_readFormula.T22 := by kernel_rfl
theorem impl_readFormula.bits22 : waitsOk impl_readFormula.T22.2 impl_readFormula.B22 = true := by kernel_rfl
theorem read_leaf (k : Nat) (s : ByteArray) (w : World) (hp : 0 < s.size) (c : Int) (hc : bt s 0 = c) (hl : isLeaf c) : Calls Try.prog 142 #[.string s] w (RdPost w s (rdF (k + 1) s)) := by
 have hr:rdF (k+1) s=some (.leaf (bt s 0),s.extract 1 s.size):=by simp only [rdF];rw [if_neg (by omega),if_pos (by rw [hc];exact hl)]
 rw [hr]
 obtain⟨n1,n2⟩:=str_ne hp
 have n3:decide (0<s.size)=true:=decide_eq_true hp
 have n4:decide (1≤s.size)=true:=decide_eq_true hp
 have n5:=eq_true hp
 have n7: ∀h:0<s.size,((s[0]'h).toNat:Int)=bt s 0:=fun h=>bt_at s 0 h
 have n6:decide ((1:Int)≤(s.size:Int))=true:=decide_eq_true (by omega);have n8:((1:Int)≤(s.size:Int))=True:=eq_true (by omega)
 unfold isLeaf at hl
 clear hr
 rcases hl with hl|hl|hl|hl|hl
 all_goals
  subst hl
  have t97:(bt s 0==97)=(bt s 0==97):=rfl
  have e97:(bt s 0==97)=_:=congrArg (fun x:Int=>x==97) hc
  have e98:(bt s 0==98)=_:=congrArg (fun x:Int=>x==98) hc
  have e99:(bt s 0==99)=_:=congrArg (fun x:Int=>x==99) hc
  have e48:(bt s 0==48)=_:=congrArg (fun x:Int=>x==48) hc
  have e49:(bt s 0==49)=_:=congrArg (fun x:Int=>x==49) hc
  clear t97 hc
  go_enter Try.func142,Try.ntmps142
  go_wp2_with fail
  refine start_ (n:=8) (S:=(fun _=>True)) (ds:= []) (zqb 8 0) zqk rfl rfl True.intro (fun hHeld=>?_)
  refine with_tabW impl_readFormula.tab9 impl_readFormula.bits9 (fun HT_ HW_=>?_)
  generalize hwd:w.drew=wd at hHeld ⊢
  have HB:=zqm (show Below w.heap.size w wd from hwd ▸ below_drew1 (Below.refl _ _))
  clear hwd
  refine zqp 0 21 (zqb 8 1) HT_ ?_
  refine zqp 1 22 (zqb 8 3) HT_ ?_
  refine zqp 2 23 (zqb 8 7) HT_ ?_
  refine zqp 4 25 (zqb 8 23) HT_ ?_
  refine zqp 5 26 (zqb 8 55) HT_ ?_
  refine one_ (i:=3) (N:=some 24) (zqb 8 63) rfl rfl (one_of HT_.out zqk) (by decide) (fun K hK=>?_)
  refine box_step (cs:= #[.int .u8 (bt s 0),.slice none 0 0]) (t:=118) (N:=24) (by rfl) (by rfl) ?hr1 ?_
  case hr1=>first|(go_simp;done)|(go_simp;rfl)
  intro p hp w1 hbox hb
  have HX:=zqm hbox
  have HB1:=zqm (below_step HB.out hb)
  refine hK.out _ _ True.intro (fun hHeld1=>?_)
  clear hK K hbox hb hp HB
  refine norm_ (a':=?_) ?_ ?_
  rotate_left
  ·show Act.put _ (some 24) _=_
   simp only [Act.put,List.setIfInBounds_toArray,List.set_cons_zero,List.set_cons_succ,i64_w,i32_w]
   rfl
  refine zqp 6 2 (zqb 8 127) HT_ ?_
  refine zqp 7 3 (zqb 8 255) HT_ ?_
  refine done_ (done_of HT_.out zqk) ?_
  go_wp2
  go_ret2
  exact⟨by repeat(first|exact HB1.out|apply pw_below_drewN|apply below_drew1),p,rfl,HX.out⟩
theorem rd_neg {k : Nat} {s : ByteArray} (hp : 0 < s.size) (hc : bt s 0 = 33) : rdF (k + 1) s = match rdF k (s.extract 1 s.size) with | none => none | some (f, r) => some (.neg f, r) := by
 simp only [rdF];rw [if_neg (by omega),if_neg (by rw [hc];unfold isLeaf;omega),if_pos hc]
 all_goals (cases rdF k (s.extract 1 s.size) <;> rfl)
theorem rd_par {k : Nat} {s : ByteArray} (hp : 0 < s.size) (hc : bt s 0 = 40) : rdF (k + 1) s = match rdF k (s.extract 1 s.size) with
 |none=>none
 |some (f,r)=>
  if r.size=0 then none
  else if bt r 0=38∨bt r 0=124 then
   match rdF k (r.extract 1 r.size) with
   |none=>none
   |some (g,q)=>
    if q.size=0 then none
    else if bt q 0=41 then some (.bin (bt r 0) f g,q.extract 1 q.size)
    else none
  else none:=by
 simp only [rdF];rw [if_neg (by omega),if_neg (by rw [hc];unfold isLeaf;omega),if_neg (by rw [hc];omega),if_pos hc]
 all_goals
  rcases rdF k (s.extract 1 s.size) with _|⟨f,r⟩
  ·rfl
  simp only []
  split
  ·rfl
  split
  ·rcases rdF k (r.extract 1 r.size) with _|⟨g,q⟩ <;> rfl
  ·rfl
set_option maxHeartbeats 4000000 in
set_option maxRecDepth 100000 in
theorem read_calls : ∀ (k : Nat) (s : ByteArray) (w : World), s.size ≤ k → Calls Try.prog 142 #[.string s] w (RdPost w s (rdF k s)) := by
 intro k
 induction k with
 |zero=>intro s w h;exact read_empty 0 s w (by omega)
 |succ k ih=>
 intro s w hk
 rcases Nat.eq_zero_or_pos s.size with h0|hp
 ·exact read_empty _ s w h0
 by_cases hl:isLeaf (bt s 0)
 ·exact read_leaf k s w hp _ rfl hl
 obtain⟨n1,n2⟩:=str_ne hp
 have n3:decide (0<s.size)=true:=decide_eq_true hp
 have n4:decide (1≤s.size)=true:=decide_eq_true hp
 have n5:=eq_true hp
 have n7: ∀h:0<s.size,((s[0]'h).toNat:Int)=bt s 0:=fun h=>bt_at s 0 h
 have n6:decide ((1:Int)≤(s.size:Int))=true:=decide_eq_true (by omega);have n8:((1:Int)≤(s.size:Int))=True:=eq_true (by omega)
 have HK:=zqm (show (s.extract 1 s.size).size≤k by rw [ext_size];omega)
 have IH:=zqm ih
 by_cases hc:bt s 0=33
 ·rw [rd_neg hp hc]
  cases hrd:rdF k (s.extract 1 s.size) with
  |none=>
   have HRD:=zqm hrd
   have z97:(bt s 0==97)=false:=by rw [hc];rfl
   have z98:(bt s 0==98)=false:=by rw [hc];rfl
   have z99:(bt s 0==99)=false:=by rw [hc];rfl
   have z48:(bt s 0==48)=false:=by rw [hc];rfl
   have z49:(bt s 0==49)=false:=by rw [hc];rfl
   have q33:(bt s 0==33)=true:=by rw [hc];rfl
   clear ih hk hl hc hrd hp
   go_enter Try.func142,Try.ntmps142
   go_wp2_with (go_at_call 142;(with_reducible refine(IH.out (s.extract 1 s.size) _ HK.out).mono ?_);rintro e w2 ⟨hb,hm⟩;rw [HRD.out] at hm;obtain rfl:=hm;have HB:=zqm hb;clear hb)
   go_ret2
   exact⟨HB.out,rfl⟩
  |some fr=>
   obtain⟨f,r⟩:=fr
   have HRD:=zqm hrd
   have z97:(bt s 0==97)=false:=by rw [hc];rfl
   have z98:(bt s 0==98)=false:=by rw [hc];rfl
   have z99:(bt s 0==99)=false:=by rw [hc];rfl
   have z48:(bt s 0==48)=false:=by rw [hc];rfl
   have z49:(bt s 0==49)=false:=by rw [hc];rfl
   have q33:(bt s 0==33)=true:=by rw [hc];rfl
   clear ih hk hl hc hrd hp
   go_enter Try.func142,Try.ntmps142
   go_wp2_with (go_at_call 142;(with_reducible refine(IH.out (s.extract 1 s.size) _ HK.out).mono ?_);rintro e w2 ⟨hb,hm⟩;rw [HRD.out] at hm;obtain⟨p,rfl,hf⟩:=hm;have HB:=zqm hb;have HF:=zqm hf;clear hb hf)
   go_ret2
   have h2:=blk2 w2 (.cells #[.pointer (some ⟨p,0,none⟩)] 94) (.cells #[.int .u8 33,.slice (some ⟨w2.heap.size,0,none⟩) 1 1] 118)
   exact⟨below_alloc (below_alloc HB.out _) _,w2.heap.size+1,rfl,p,w2.heap.size,1,h2.1,(blk_cell h2.2 0).trans rfl,FAt.below (below_alloc (below_alloc (Below.refl _ _) _) _) f p HF.out⟩
 by_cases hc2:bt s 0=40
 ·rw [rd_par hp hc2]
  cases hrd:rdF k (s.extract 1 s.size) with
  |none=>
   have HRD:=zqm hrd
   have z97:(bt s 0==97)=false:=by rw [hc2];rfl
   have z98:(bt s 0==98)=false:=by rw [hc2];rfl
   have z99:(bt s 0==99)=false:=by rw [hc2];rfl
   have z48:(bt s 0==48)=false:=by rw [hc2];rfl
   have z49:(bt s 0==49)=false:=by rw [hc2];rfl
   have z33:(bt s 0==33)=false:=by rw [hc2];rfl
   have q40:(bt s 0==40)=true:=by rw [hc2];rfl
   clear ih hk hl hc hc2 hrd hp
   go_enter Try.func142,Try.ntmps142
   go_wp2_with (go_at_call 142;(with_reducible refine(IH.out (s.extract 1 s.size) _ HK.out).mono ?_);rintro e w2 ⟨hb,hm⟩;rw [HRD.out] at hm;obtain rfl:=hm;have HB:=zqm hb;clear hb)
   go_ret2
   exact⟨HB.out,rfl⟩
  |some fr=>
   obtain⟨f,r⟩:=fr
   have HRD:=zqm hrd
   have HRS:=zqm (rdF_size _ _ _ _ hrd)
   have z97:(bt s 0==97)=false:=by rw [hc2];rfl
   have z98:(bt s 0==98)=false:=by rw [hc2];rfl
   have z99:(bt s 0==99)=false:=by rw [hc2];rfl
   have z48:(bt s 0==48)=false:=by rw [hc2];rfl
   have z49:(bt s 0==49)=false:=by rw [hc2];rfl
   have z33:(bt s 0==33)=false:=by rw [hc2];rfl
   have q40:(bt s 0==40)=true:=by rw [hc2];rfl
   clear ih hk hl hc hc2 hrd
   simp only []
   by_cases hr0:r.size=0
   ·rw [if_pos hr0]
    have m1:=str_nil hr0
    have m2:(r.toList== [])=true:=by rw [m1];rfl
    have m3:r.toList.isEmpty=true:=by rw [m1];rfl
    clear hr0 hp
    go_enter Try.func142,Try.ntmps142
    go_wp2_with (go_at_call 142;(with_reducible refine(IH.out (s.extract 1 s.size) _ HK.out).mono ?_);rintro e w2 ⟨hb,hm⟩;rw [HRD.out] at hm;obtain⟨p,rfl,hf⟩:=hm;have HB:=zqm hb;have HF:=zqm hf;clear hb hf)
    go_ret2
    exact⟨HB.out,rfl⟩
   rw [if_neg hr0]
   obtain⟨m1,m2⟩:=str_ne (s:=r) (by omega)
   have m3:decide (0<r.size)=true:=decide_eq_true (by omega)
   have m4:decide (1≤r.size)=true:=decide_eq_true (by omega)
   have m5:=eq_true (show 0<r.size by omega)
   have m7: ∀h:0<r.size,((r[0]'h).toNat:Int)=bt r 0:=fun h=>bt_at r 0 h
   have m6:decide ((1:Int)≤(r.size:Int))=true:=decide_eq_true (by omega);have m8:((1:Int)≤(r.size:Int))=True:=eq_true (by omega)
   have HK2:=zqm (show (r.extract 1 r.size).size≤k by rw [ext_size];have:=HRS.out;have:=HK.out;rw [ext_size] at*;omega)
   clear hr0 hp
   by_cases ho:bt r 0=38∨bt r 0=124
   ·rw [if_pos ho]
    have HO:=zqm ho
    have o1:((bt r 0 !=38)=false∨((bt r 0 !=38)=true∧(bt r 0 !=124)=false)):=by
     rcases ho with e|e
     ·left;rw [e];rfl
     ·right;rw [e];exact⟨rfl,rfl⟩
    clear ho
    have key: ∀(o:Option (Fm × ByteArray)),rdF k (r.extract 1 r.size)=o→Calls Try.prog 142 #[.string s] w (RdPost w s (match o with
     |none=>none
     |some (g,q)=>if q.size=0 then none else if bt q 0=41 then some (.bin (bt r 0) f g,q.extract 1 q.size) else none)):=by
     intro o ho
     have HO2:=zqm ho
     clear ho
     cases o with
     |none=>
      rcases o1 with o1|⟨o1,o2⟩
      all_goals
       go_enter Try.func142,Try.ntmps142
       go_wp2_with (first|(go_at_call 142;(with_reducible refine(IH.out (s.extract 1 s.size) _ HK.out).mono ?_);rintro e w2 ⟨hb,hm⟩;rw [HRD.out] at hm;obtain⟨p,rfl,hf⟩:=hm;have HB:=zqm hb;have HF:=zqm hf;clear hb hf)|(go_at_call 142;(with_reducible refine(IH.out (r.extract 1 r.size) _ HK2.out).mono ?_);rintro e w3 ⟨hb,hm⟩;rw [HO2.out] at hm;obtain rfl:=hm;have HB3:=zqm (below_step HB.out hb);clear hb))
       go_ret2
       exact⟨HB3.out,rfl⟩
     |some gq=>
      obtain⟨g,q2⟩:=gq
      simp only []
      by_cases hq0:q2.size=0
      ·rw [if_pos hq0]
       have u1:=str_nil hq0
       have u2:(q2.toList== [])=true:=by rw [u1];rfl
       have u3:q2.toList.isEmpty=true:=by rw [u1];rfl
       clear hq0
       rcases o1 with o1|⟨o1,o2⟩
       all_goals
        go_enter Try.func142,Try.ntmps142
        go_wp2_with (first|(go_at_call 142;(with_reducible refine(IH.out (s.extract 1 s.size) _ HK.out).mono ?_);rintro e w2 ⟨hb,hm⟩;rw [HRD.out] at hm;obtain⟨p,rfl,hf⟩:=hm;have HB:=zqm hb;have HF:=zqm hf;clear hb hf)|(go_at_call 142;(with_reducible refine(IH.out (r.extract 1 r.size) _ HK2.out).mono ?_);rintro e w3 ⟨hb,hm⟩;rw [HO2.out] at hm;obtain⟨q,rfl,hf⟩:=hm;have HB3:=zqm (below_step HB.out hb);clear hb hf))
        go_ret2
        exact⟨HB3.out,rfl⟩
      rw [if_neg hq0]
      obtain⟨u1,u2⟩:=str_ne (s:=q2) (by omega)
      have u3:decide (0<q2.size)=true:=decide_eq_true (by omega)
      have u4:decide (1≤q2.size)=true:=decide_eq_true (by omega)
      have u5:=eq_true (show 0<q2.size by omega)
      have u7: ∀h:0<q2.size,((q2[0]'h).toNat:Int)=bt q2 0:=fun h=>bt_at q2 0 h
      have u6:decide ((1:Int)≤(q2.size:Int))=true:=decide_eq_true (by omega);have u8:((1:Int)≤(q2.size:Int))=True:=eq_true (by omega)
      clear hq0
      by_cases hq:bt q2 0=41
      ·rw [if_pos hq]
       have v1:(bt q2 0 !=41)=false:=by rw [hq];rfl
       clear hq
       rcases o1 with o1|⟨o1,o2⟩
       all_goals
        go_enter Try.func142,Try.ntmps142
        go_wp2_with (first|(go_at_call 142;(with_reducible refine(IH.out (s.extract 1 s.size) _ HK.out).mono ?_);rintro e w2 ⟨hb,hm⟩;rw [HRD.out] at hm;obtain⟨p,rfl,hf⟩:=hm;have HB:=zqm hb;have HF:=zqm hf;clear hb hf)|(go_at_call 142;(with_reducible refine(IH.out (r.extract 1 r.size) _ HK2.out).mono ?_);rintro e w3 ⟨hb,hm⟩;rw [HO2.out] at hm;obtain⟨q,rfl,hf⟩:=hm;have HB3:=zqm (below_step HB.out hb);have HF3:=zqm (FAt.below hb f p HF.out);have HG3:=zqm hf;clear hb hf HB HF))
        refine start_ (n:=11) (S:=(fun _=>True)) (ds:= []) (zqb 11 0) zqk rfl rfl True.intro (fun hHeld=>?_)
        refine with_tabW impl_readFormula.tab22 impl_readFormula.bits22 (fun HT_ HW_=>?_)
        generalize hwd:w3.drew=wd at hHeld ⊢
        have HB4:=zqm (show Below w.heap.size w wd from hwd ▸ below_drew1 HB3.out)
        have HFf:=zqm (show FAt wd p f from hwd ▸ FAt.below (below_drew1 (Below.refl _ _)) f p HF3.out)
        have HFg:=zqm (show FAt wd q g from hwd ▸ FAt.below (below_drew1 (Below.refl _ _)) g q HG3.out)
        clear hwd HB3 HF3 HG3
        refine zqp 0 86 (zqb 11 1) HT_ ?_
        refine zqp 1 87 (zqb 11 3) HT_ ?_
        refine zqp 2 88 (zqb 11 7) HT_ ?_
        refine zqp 3 89 (zqb 11 15) HT_ ?_
        refine zqp 7 93 (zqb 11 143) HT_ ?_
        refine zqp 8 94 (zqb 11 399) HT_ ?_
        refine one_ (i:=4) (N:=some 90) (zqb 11 415) rfl rfl (one_of HT_.out zqk) (by decide) (fun K hK=>?_)
        refine event_step (w1:=World.alloc wd (.cells #[.pointer (some ⟨p,0,none⟩),.pointer (some ⟨q,0,none⟩)] 94)) (v:= .slice (some ⟨wd.heap.size,0,none⟩) 2 2) (by rfl) ?hr1 ?_
        case hr1=>first|(go_simp;done)|(go_simp;rfl)
        have HA:=zqm (MapKept.heap_alloc wd (.cells #[.pointer (some ⟨p,0,none⟩),.pointer (some ⟨q,0,none⟩)] 94)).1
        have HB5:=zqm (below_alloc HB4.out (.cells #[.pointer (some ⟨p,0,none⟩),.pointer (some ⟨q,0,none⟩)] 94))
        have HFf5:=zqm (FAt.below (below_alloc (Below.refl _ _) (.cells #[.pointer (some ⟨p,0,none⟩),.pointer (some ⟨q,0,none⟩)] 94)) f p HFf.out)
        have HFg5:=zqm (FAt.below (below_alloc (Below.refl _ _) (.cells #[.pointer (some ⟨p,0,none⟩),.pointer (some ⟨q,0,none⟩)] 94)) g q HFg.out)
        obtain⟨ag,hag⟩: ∃ag,ag=wd.heap.size:=⟨_,rfl⟩
        rw [← hag] at HA ⊢
        generalize World.alloc wd (.cells #[.pointer (some ⟨p,0,none⟩),.pointer (some ⟨q,0,none⟩)] 94)=w5 at HA HB5 HFf5 HFg5 ⊢
        clear hag HB4 HFf HFg
        refine hK.out _ _ True.intro (fun hHeld1=>?_)
        clear hK K
        refine norm_ (a':=?_) ?_ ?_
        rotate_left
        ·show Act.put _ (some 90) _=_
         simp only [Act.put,List.setIfInBounds_toArray,List.set_cons_zero,List.set_cons_succ,i64_w,i32_w]
         rfl
        refine zqp 5 91 (zqb 11 447) HT_ ?_
        refine one_ (i:=6) (N:=some 92) (zqb 11 511) rfl rfl (one_of HT_.out zqk) (by decide) (fun K hK=>?_)
        refine box_step (cs:= #[.int .u8 (bt r 0),.slice (some ⟨ag,0,none⟩) 2 2]) (t:=118) (N:=92) (by rfl) (by rfl) ?hr2 ?_
        case hr2=>first|(go_simp;done)|(go_simp;rfl)
        intro pp hp w6 hbox hb
        have HX:=zqm hbox
        have HB6:=zqm (below_step HB5.out hb)
        have HA6:=zqm (blk_below HA.out hb)
        have HFf6:=zqm (FAt.below hb f p HFf5.out)
        have HFg6:=zqm (FAt.below hb g q HFg5.out)
        refine hK.out _ _ True.intro (fun hHeld2=>?_)
        clear hK K hbox hb hp HB5 HA HFf5 HFg5
        refine norm_ (a':=?_) ?_ ?_
        rotate_left
        ·show Act.put _ (some 92) _=_
         simp only [Act.put,List.setIfInBounds_toArray,List.set_cons_zero,List.set_cons_succ,i64_w,i32_w]
         rfl
        refine zqp 9 2 (zqb 11 1023) HT_ ?_
        refine zqp 10 3 (zqb 11 2047) HT_ ?_
        refine done_ (done_of HT_.out zqk) ?_
        go_wp2
        go_ret2
        exact⟨by repeat(first|exact HB6.out|apply pw_below_drewN|apply below_drew1),pp,rfl,p,q,ag,2,HX.out,(blk_cell HA6.out 0).trans rfl,(blk_cell HA6.out 1).trans rfl,HFf6.out,HFg6.out⟩
      ·rw [if_neg hq]
       have v1:(bt q2 0 !=41)=true:=bne_iff_ne.2 hq
       clear hq
       rcases o1 with o1|⟨o1,o2⟩
       all_goals
        go_enter Try.func142,Try.ntmps142
        go_wp2_with (first|(go_at_call 142;(with_reducible refine(IH.out (s.extract 1 s.size) _ HK.out).mono ?_);rintro e w2 ⟨hb,hm⟩;rw [HRD.out] at hm;obtain⟨p,rfl,hf⟩:=hm;have HB:=zqm hb;have HF:=zqm hf;clear hb hf)|(go_at_call 142;(with_reducible refine(IH.out (r.extract 1 r.size) _ HK2.out).mono ?_);rintro e w3 ⟨hb,hm⟩;rw [HO2.out] at hm;obtain⟨q,rfl,hf⟩:=hm;have HB3:=zqm (below_step HB.out hb);clear hb hf))
        go_ret2
        exact⟨HB3.out,rfl⟩
    exact key _ rfl
   ·rw [if_neg ho]
    have o1:(bt r 0 !=38)=true:=bne_iff_ne.2 (fun e=>ho (.inl e))
    have o2:(bt r 0 !=124)=true:=bne_iff_ne.2 (fun e=>ho (.inr e))
    clear ho
    go_enter Try.func142,Try.ntmps142
    go_wp2_with (go_at_call 142;(with_reducible refine(IH.out (s.extract 1 s.size) _ HK.out).mono ?_);rintro e w2 ⟨hb,hm⟩;rw [HRD.out] at hm;obtain⟨p,rfl,hf⟩:=hm;have HB:=zqm hb;have HF:=zqm hf;clear hb hf)
    go_ret2
    exact⟨HB.out,rfl⟩
 ·have hr:rdF (k+1) s=none:=by simp only [rdF];rw [if_neg (by omega),if_neg hl,if_neg hc,if_neg hc2]
  rw [hr]
  unfold isLeaf at hl
  have z97:(bt s 0==97)=false:=beq_eq_false_iff_ne.2 (fun e=>by simp [e] at hl)
  have z98:(bt s 0==98)=false:=beq_eq_false_iff_ne.2 (fun e=>by simp [e] at hl)
  have z99:(bt s 0==99)=false:=beq_eq_false_iff_ne.2 (fun e=>by simp [e] at hl)
  have z48:(bt s 0==48)=false:=beq_eq_false_iff_ne.2 (fun e=>by simp [e] at hl)
  have z49:(bt s 0==49)=false:=beq_eq_false_iff_ne.2 (fun e=>by simp [e] at hl)
  have z33:(bt s 0==33)=false:=beq_eq_false_iff_ne.2 (fun e=>by simp [e] at hc)
  have z40:(bt s 0==40)=false:=beq_eq_false_iff_ne.2 (fun e=>by simp [e] at hc2)
  clear ih hk hl hc hc2 hr hp
  go_enter Try.func142,Try.ntmps142
  go_wp2_with fail
  go_ret2
  exact⟨Below.refl _ _,rfl⟩
theorem formulaOf_calls (s : ByteArray) (w : World) : Calls Try.prog 103 #[.string s] w fun e w' => Below w.heap.size w w' ∧ match fmOf s with
 |none=>e= .returned (.pointer none)
 |some f=> ∃p,e= .returned (.pointer (some ⟨p,0,none⟩))∧FAt w' p f:=by
 unfold fmOf
 by_cases h:60<s.size
 ·have d1:decide ((60:Int)<(s.size:Int))=true:=decide_eq_true (by omega)
  have d2:decide (60<s.size)=true:=decide_eq_true h
  rw [if_pos h]
  clear h
  go_enter Try.func103,Try.ntmps103
  go_wp2_with fail
  go_ret
  exact⟨Below.refl _ _,rfl⟩
 ·have d1:decide ((60:Int)<(s.size:Int))=false:=decide_eq_false (by omega)
  have d2:decide (60<s.size)=false:=decide_eq_false h
  rw [if_neg h]
  have HR:=zqm (read_calls s.size s w (Nat.le_refl _))
  clear h
  generalize rdF s.size s=o at HR ⊢
  cases o with
  |none=>
   have key: ∀x:ByteArray,x=s→Calls Try.prog 103 #[.string s] w fun e w'=>Below w.heap.size w w'∧e= .returned (.pointer none):=by
    intro x hx
    by_cases h0:s.size=0
    ·have m1:=str_nil h0
     have m2:(s.toList != [])=false:=by rw [m1];rfl
     have m3:s.toList.isEmpty=true:=by rw [m1];rfl
     clear h0
     go_enter Try.func103,Try.ntmps103
     go_wp2_with (go_at_call 142;(with_reducible refine HR.out.mono ?_);rintro e w2 ⟨hb,rfl⟩;have HB:=zqm hb;clear hb)
     go_ret
     exact⟨HB.out,rfl⟩
    ·obtain⟨m1,m2⟩:=str_ne (s:=s) (by omega)
     have m3:(s.toList != [])=true:=by rw [bne,m2];rfl
     clear h0
     go_enter Try.func103,Try.ntmps103
     go_wp2_with (go_at_call 142;(with_reducible refine HR.out.mono ?_);rintro e w2 ⟨hb,rfl⟩;have HB:=zqm hb;clear hb)
     go_ret
     exact⟨HB.out,rfl⟩
   exact key _ rfl
  |some fr=>
   obtain⟨f,r⟩:=fr
   simp only []
   by_cases h0:r.size=0
   ·rw [if_pos h0]
    have m1:=str_nil h0
    have m2:(r.toList != [])=false:=by rw [m1];rfl
    have m3:r.toList.isEmpty=true:=by rw [m1];rfl
    clear h0
    go_enter Try.func103,Try.ntmps103
    go_wp2_with (go_at_call 142;(with_reducible refine HR.out.mono ?_);rintro e w2 ⟨hb,p,rfl,hf⟩;have HB:=zqm hb;have HF:=zqm hf;clear hb hf)
    go_ret
    exact⟨HB.out,p,rfl,HF.out⟩
   ·rw [if_neg h0]
    obtain⟨m1,m2⟩:=str_ne (s:=r) (by omega)
    have m3:(r.toList != [])=true:=by rw [bne,m2];rfl
    clear h0
    go_enter Try.func103,Try.ntmps103
    go_wp2_with (go_at_call 142;(with_reducible refine HR.out.mono ?_);rintro e w2 ⟨hb,p,rfl,hf⟩;have HB:=zqm hb;clear hb hf)
    go_ret
    exact⟨HB.out,rfl⟩
def Fm.ok : Fm → Prop
 | .leaf c => isLeaf c
 | .neg f => Fm.ok f
 | .bin c f g => (c = 38 ∨ c = 124) ∧ Fm.ok f ∧ Fm.ok g
theorem rdF_ok : ∀ (k : Nat) (s : ByteArray) (f : Fm) (r : ByteArray), rdF k s = some (f, r) → f.ok
 |0,_,_,_,h=>by simp [rdF] at h
 |k+1,s,f,r,h=>by
  have ih:=rdF_ok k
  simp only [rdF] at h
  split at h
  ·cases h
  ·split at h
   ·rename_i hl
    cases h;exact hl
   ·split at h
    ·split at h
     ·cases h
     ·rename_i f1 r1 h1
      cases h
      exact(show f1.ok from ih _ _ _ h1)
    ·split at h
     ·split at h
      ·cases h
      ·rename_i f1 r1 h1
       split at h
       ·cases h
       ·split at h
        ·rename_i ho
         split at h
         ·cases h
         ·rename_i g q h3
          split at h
          ·cases h
          ·split at h
           ·cases h;exact⟨ho,ih _ _ _ h1,ih _ _ _ h3⟩
           ·cases h
        ·cases h
     ·cases h
theorem fmOf_ok {s : ByteArray} {f : Fm} (h : fmOf s = some f) : f.ok := by
 unfold fmOf at h
 split at h
 ·cases h
 ·split at h
  ·cases h
  ·rename_i g r h1
   split at h
   ·cases h;exact rdF_ok _ _ _ _ h1
   ·cases h
def valF (U : List (List Int)) (N : List Int) (a b c : Int) : Fm → Int
 | .leaf x=>if x=97 then a else if x=98 then b else if x=99 then c else if x=48 then noI U else yesI U N
 | .neg f=>notI N (valF U N a b c f)
 | .bin x f g=>if x=38 then andI U (valF U N a b c f) (valF U N a b c g) else orI U (valF U N a b c f) (valF U N a b c g)
theorem in_val {U : List (List Int)} {N : List Int} (L : Logic U N) {a b c : Int} (ia : In U a) (ib : In U b) (ic : In U c) : ∀ f : Fm, In U (valF U N a b c f)
 | .leaf x=>by
  unfold valF
  split
  ·exact ia
  split
  ·exact ib
  split
  ·exact ic
  split
  ·exact L.in_no
  ·exact L.in_yes
 | .neg f=>L.in_not (in_val L ia ib ic f)
 | .bin x f g=>by
  unfold valF
  split
  ·exact L.in_and (in_val L ia ib ic f) (in_val L ia ib ic g)
  ·exact L.in_or (in_val L ia ib ic f) (in_val L ia ib ic g)
def alg_value.T10 : Bool × List (List Nat × List Nat) := (true, [([], []), ([], []), ([1], [1]), ([2], [2]), ([3], [3]), ([4], [4]), ([5], [5]), ([], []), ([0, 6, 7], [0, 6, 7]), ([8, 8, 0, 1, 2, 3, 4, 5, 6, 7, 8], [8])])
def alg_value.B10 : List Nat := [0, 0, 2, 6, 14, 30, 62, 0, 255, 511]
theorem alg_value.tab10 : rtab .any (opsOf Try.f104 10) = alg_value.T10 := by kernel_rfl
theorem alg_value.bits10 : waitsOk alg_value.T10.2 alg_value.B10 = true := by kernel_rfl
def alg_value.T13 : Bool × List (List Nat × List Nat) := (true, [([], []), ([], []), ([1], [1]), ([2], [2]), ([3], [3]), ([4], [4]), ([5], [5]), ([], []), ([0, 6, 7], [0, 6, 7]), ([8, 8, 0, 1, 2, 3, 4, 5, 6, 7, 8], [8])])
def alg_value.B13 : List Nat := [0, 0, 2, 6, 14, 30, 62, 0, 255, 511]
theorem alg_value.tab13 : rtab .any (opsOf Try.f104 13) = alg_value.T13 := by kernel_rfl
theorem alg_value.bits13 : waitsOk alg_value.T13.2 alg_value.B13 = true := by kernel_rfl
set_option maxHeartbeats 4000000 in
set_option maxRecDepth 100000 in
theorem value_leaf (g : Nat) (U : List (List Int)) (N : List Int) (v : Adr) (L : Logic U N) (a b c : Int) (x : Int) (hx : isLeaf x) (pf : Nat) (w : World) (hV : View w g U N v) (hP : w.heap[pf]? = some (.cells #[.int .u8 x, .slice none 0 0] 118 (0, 0))) :
 Calls Try.prog 104 #[.pointer (some ⟨g,0,none⟩),.pointer (some ⟨pf,0,none⟩),.agg #[.int .i64 a,.int .i64 b,.int .i64 c]] w fun e w'=>e= .returned (.int .i64 (valF U N a b c (.leaf x)))∧Below w.heap.size w w':=by
 have hu70:=Try.underlying74
 have hu87:=Try.underlying97
 have huf:=Try.underlying118
 have HV:=zqm hV
 have HP:=zqm hP
 clear hV hP L
 unfold isLeaf at hx
 rcases hx with rfl|rfl|rfl|rfl|rfl
 ·go_enter Try.func104,Try.ntmps104
  go_wp2_with ((with_reducible refine gate_dst (N:=5) rfl ?_);refine box_event ?hg (N:=5) ?hd (cs:= #[.int .i64 a,.int .i64 b,.int .i64 c]) (t:=97) ?hr ?_;(case hd=>rfl);(case hg=>rfl);(case hr=> exact zq17);intro gb hg_ w1 hbox hb;have HX1:=zqm hbox;have HB1:=zqm hb;have HV1:=zqm (View.below HV.out hb);have HP1:=zqm (blk_below HP.out hb);have s1_:w1.cell? ⟨pf,0,none⟩=some (.int .u8 97):=(blk_cell HP1.out 0).trans rfl;have x_:w1.cell? ⟨gb,0,none⟩=some (.int .i64 a):=(blk_cell hbox 0).trans rfl;clear hbox hb hg_)
  go_ret
  exact⟨rfl,HB1.out⟩
 ·go_enter Try.func104,Try.ntmps104
  go_wp2_with ((with_reducible refine gate_dst (N:=5) rfl ?_);refine box_event ?hg (N:=5) ?hd (cs:= #[.int .i64 a,.int .i64 b,.int .i64 c]) (t:=97) ?hr ?_;(case hd=>rfl);(case hg=>rfl);(case hr=> exact zq17);intro gb hg_ w1 hbox hb;have HX1:=zqm hbox;have HB1:=zqm hb;have HV1:=zqm (View.below HV.out hb);have HP1:=zqm (blk_below HP.out hb);have s1_:w1.cell? ⟨pf,0,none⟩=some (.int .u8 98):=(blk_cell HP1.out 0).trans rfl;have x_:w1.cell? ⟨gb,1,none⟩=some (.int .i64 b):=(blk_cell hbox 1).trans rfl;clear hbox hb hg_)
  go_ret
  exact⟨rfl,HB1.out⟩
 ·go_enter Try.func104,Try.ntmps104
  go_wp2_with ((with_reducible refine gate_dst (N:=5) rfl ?_);refine box_event ?hg (N:=5) ?hd (cs:= #[.int .i64 a,.int .i64 b,.int .i64 c]) (t:=97) ?hr ?_;(case hd=>rfl);(case hg=>rfl);(case hr=> exact zq17);intro gb hg_ w1 hbox hb;have HX1:=zqm hbox;have HB1:=zqm hb;have HV1:=zqm (View.below HV.out hb);have HP1:=zqm (blk_below HP.out hb);have s1_:w1.cell? ⟨pf,0,none⟩=some (.int .u8 99):=(blk_cell HP1.out 0).trans rfl;have x_:w1.cell? ⟨gb,2,none⟩=some (.int .i64 c):=(blk_cell hbox 2).trans rfl;clear hbox hb hg_)
  go_ret
  exact⟨rfl,HB1.out⟩
 ·go_enter Try.func104,Try.ntmps104
  go_wp2_with ((with_reducible refine gate_dst (N:=5) rfl ?_);refine box_event ?hg (N:=5) ?hd (cs:= #[.int .i64 a,.int .i64 b,.int .i64 c]) (t:=97) ?hr ?_;(case hd=>rfl);(case hg=>rfl);(case hr=> exact zq17);intro gb hg_ w1 hbox hb;have HX1:=zqm hbox;have HB1:=zqm hb;have HV1:=zqm (View.below HV.out hb);have HP1:=zqm (blk_below HP.out hb);have s1_:w1.cell? ⟨pf,0,none⟩=some (.int .u8 48):=(blk_cell HP1.out 0).trans rfl;have x_:=HV1.out.f4;clear hbox hb hg_)
  go_ret
  exact⟨rfl,HB1.out⟩
 ·go_enter Try.func104,Try.ntmps104
  go_wp2_with ((with_reducible refine gate_dst (N:=5) rfl ?_);refine box_event ?hg (N:=5) ?hd (cs:= #[.int .i64 a,.int .i64 b,.int .i64 c]) (t:=97) ?hr ?_;(case hd=>rfl);(case hg=>rfl);(case hr=> exact zq17);intro gb hg_ w1 hbox hb;have HX1:=zqm hbox;have HB1:=zqm hb;have HV1:=zqm (View.below HV.out hb);have HP1:=zqm (blk_below HP.out hb);have s1_:w1.cell? ⟨pf,0,none⟩=some (.int .u8 49):=(blk_cell HP1.out 0).trans rfl;have x_:=HV1.out.f5;clear hbox hb hg_)
  go_ret
  exact⟨rfl,HB1.out⟩
set_option maxHeartbeats 4000000 in
set_option maxRecDepth 100000 in
theorem value_neg (g : Nat) (U : List (List Int)) (N : List Int) (v : Adr) (L : Logic U N) (a b c : Int) (f : Fm) (x : Int) (hx : valF U N a b c f = x) (ix : In U x) (ih : ∀ (pf : Nat) (w : World), View w g U N v → FAt w pf f → f.ok → Calls Try.prog 104 #[.pointer (some ⟨g, 0, none⟩), .pointer (some ⟨pf, 0, none⟩), .agg #[.int .i64 a, .int .i64 b, .int .i64 c]] w fun e w' => e = .returned (.int .i64 x) ∧ Below w.heap.size w w') (hok : f.ok) (pf : Nat) (w : World) (hV : View w g U N v) (hF : FAt w pf (.neg f)) :
 Calls Try.prog 104 #[.pointer (some ⟨g,0,none⟩),.pointer (some ⟨pf,0,none⟩),.agg #[.int .i64 a,.int .i64 b,.int .i64 c]] w fun e w'=>e= .returned (.int .i64 (valF U N a b c (.neg f)))∧Below w.heap.size w w':=by
 have hu70:=Try.underlying74
 have hu87:=Try.underlying97
 have huf:=Try.underlying118
 obtain⟨q,ad,cp,hP,hC0,hFq⟩:=hF
 rw [show valF U N a b c (.neg f)=notI N x by rw [← hx];rfl]
 have HV:=zqm hV
 have HP:=zqm hP
 have HC0:=zqm hC0
 have HFq:=zqm hFq
 have HLg:=zqm L
 have Ix:=zqm ix
 have IH:=zqm ih
 have HOK:=zqm hok
 clear hV hP hC0 hFq L ix ih hok hx
 go_enter Try.func104,Try.ntmps104
 go_wp2_with ((with_reducible refine gate_dst (N:=5) rfl ?_);refine box_event ?hg (N:=5) ?hd (cs:= #[.int .i64 a,.int .i64 b,.int .i64 c]) (t:=97) ?hr ?_;(case hd=>rfl);(case hg=>rfl);(case hr=> exact zq17);intro gb hg_ w1 hbox hb;have HX1:=zqm hbox;have HB1:=zqm hb;have HV1:=zqm (View.below HV.out hb);have HP1:=zqm (blk_below HP.out hb);have s1_:w1.cell? ⟨pf,0,none⟩=some (.int .u8 33):=(blk_cell HP1.out 0).trans rfl;have HC1_0:=zqm (cell_up HC0.out hb rfl);have HF1q:=zqm (FAt.below hb _ _ HFq.out);clear hbox hb hg_)
 have HV2:=zqm (View.below HV1.out (below_drew1 (Below.refl w1.heap.size w1)))
 have HP2:=zqm (blk_below HP1.out (below_drew1 (Below.refl w1.heap.size w1)))
 have HX2:=zqm (blk_below HX1.out (below_drew1 (Below.refl w1.heap.size w1)))
 have HC2_0:=zqm (cell_up HC1_0.out (below_drew1 (Below.refl w1.heap.size w1)) rfl)
 have HF2q:=zqm (FAt.below (below_drew1 (Below.refl w1.heap.size w1)) _ _ HF1q.out)
 have HB2:=zqm (below_drew1 HB1.out)
 refine start_ (n:=10) (S:=(fun w'=>w'.cell? ⟨pf,1,none⟩=some (.slice (some ⟨ad,0,none⟩) 1 cp)∧w'.cell? ⟨ad,0,none⟩=some (.pointer (some ⟨q,0,none⟩))∧w'.cell? ⟨gb,0,none⟩=some (.int .i64 a)∧w'.cell? ⟨gb,1,none⟩=some (.int .i64 b)∧w'.cell? ⟨gb,2,none⟩=some (.int .i64 c))) (ds:= []) (zqb 10 0) zqk rfl rfl ⟨(blk_cell HP2.out 1).trans rfl,HC2_0.out,(blk_cell HX2.out 0).trans rfl,(blk_cell HX2.out 1).trans rfl,(blk_cell HX2.out 2).trans rfl⟩ (fun hHeld=>?_)
 refine with_tabW alg_value.tab10 alg_value.bits10 (fun HT_ HW_=>?_)
 generalize w1.drew=w2 at hHeld HV2 HP2 HX2 HB2 HC2_0 HF2q ⊢
 refine zqp 0 36 (zqb 10 1) HT_ ?_
 refine zqp 1 37 (zqb 10 3) HT_ ?_
 refine zqp 2 38 (zqb 10 7) HT_ ?_
 refine zqp 3 39 (zqb 10 15) HT_ ?_
 refine zqw 4 40 (zqb 10 31) HT_ HW_ hHeld ?_
 refine zqp 5 41 (zqb 10 63) HT_ ?_
 refine zqw 6 42 (zqb 10 127) HT_ HW_ hHeld ?_
 refine zqw 7 43 (zqb 10 255) HT_ HW_ hHeld ?_
 refine one_ (i:=8) (N:=some 44) (zqb 10 511) rfl rfl (one_of HT_.out zqk) (by decide) (fun K hK=>?_)
 refine goes_ Try.func104 zqk rfl #[.pointer (some ⟨g,0,none⟩),.pointer (some ⟨q,0,none⟩),.agg #[.int .i64 a,.int .i64 b,.int .i64 c]] (by rfl) rfl rfl zq70 ?_
 refine(IH.out q w2 HV2.out HF2q.out HOK.out).mono ?_
 rintro e w3 ⟨rfl,hb⟩
 refine⟨_,rfl,?_⟩
 have HB3:=zqm (below_step HB2.out hb)
 have HV3:=zqm (View.below HV2.out hb)
 have HP3:=zqm (blk_below HP2.out hb)
 have HX3:=zqm (blk_below HX2.out hb)
 have HC3_0:=zqm (cell_up HC2_0.out hb rfl)
 have HF3q:=zqm (FAt.below hb _ _ HF2q.out)
 refine hK.out _ _ ⟨(blk_cell HP3.out 1).trans rfl,HC3_0.out,(blk_cell HX3.out 0).trans rfl,(blk_cell HX3.out 1).trans rfl,(blk_cell HX3.out 2).trans rfl⟩ (fun hHeld3=>?_)
 clear hK K hb
 refine norm_ (a':=?_) ?_ ?_
 rotate_left
 ·show Act.put _ (some 44) _=_
  simp only [Act.put,List.setIfInBounds_toArray,List.set_cons_zero,List.set_cons_succ,i64_w,i32_w]
  rfl
 refine zqp 9 7 (zqb 10 1023) HT_ ?_
 refine done_ (done_of HT_.out zqk) ?_
 clear hHeld hHeld3 s1_
 have s3_:w3.cell? ⟨pf,0,none⟩=some (.int .u8 33):=(blk_cell HP3.out 0).trans rfl
 have b0_:=eq_true Ix.out.1;have c0_:=eq_true Ix.out.2
 have hf3_:=HV3.out.f3
 have n2_:=HV3.out.n x Ix.out
 go_wp2
 go_ret
 exact⟨rfl,HB3.out⟩
set_option maxHeartbeats 4000000 in
set_option maxRecDepth 100000 in
theorem value_bin (g : Nat) (U : List (List Int)) (N : List Int) (v : Adr) (L : Logic U N) (a b c : Int) (z : Int) (hz : z = 38 ∨ z = 124) (f f' : Fm) (x y : Int) (hx : valF U N a b c f = x) (hy : valF U N a b c f' = y) (ix : In U x) (iy : In U y) (ih : ∀ (pf : Nat) (w : World), View w g U N v → FAt w pf f → f.ok → Calls Try.prog 104 #[.pointer (some ⟨g, 0, none⟩), .pointer (some ⟨pf, 0, none⟩), .agg #[.int .i64 a, .int .i64 b, .int .i64 c]] w fun e w' => e = .returned (.int .i64 x) ∧ Below w.heap.size w w') (ih' : ∀ (pf : Nat) (w : World), View w g U N v → FAt w pf f' → f'.ok → Calls Try.prog 104 #[.pointer (some ⟨g, 0, none⟩), .pointer (some ⟨pf, 0, none⟩), .agg #[.int .i64 a, .int .i64 b, .int .i64 c]] w fun e w' => e = .returned (.int .i64 y) ∧ Below w.heap.size w w') (hok : f.ok) (hok' : f'.ok) (pf : Nat) (w : World) (hV : View w g U N v) (hF : FAt w pf (.bin z f f')) :
 Calls Try.prog 104 #[.pointer (some ⟨g,0,none⟩),.pointer (some ⟨pf,0,none⟩),.agg #[.int .i64 a,.int .i64 b,.int .i64 c]] w fun e w'=>e= .returned (.int .i64 (valF U N a b c (.bin z f f')))∧Below w.heap.size w w':=by
 have hu70:=Try.underlying74
 have hu87:=Try.underlying97
 have huf:=Try.underlying118
 obtain⟨q,r,ad,cp,hP,hC0,hC1,hFq,hFr⟩:=hF
 have hv:valF U N a b c (.bin z f f')=if z=38 then andI U x y else orI U x y:=by rw [← hx,← hy];rfl
 rw [hv]
 have HV:=zqm hV
 have HC0:=zqm hC0
 have HC1:=zqm hC1
 have HFq:=zqm hFq
 have HFr:=zqm hFr
 have HLg:=zqm L
 have Ix:=zqm ix
 have Iy:=zqm iy
 have IH:=zqm ih
 have IH':=zqm ih'
 have HOK:=zqm hok
 have HOK':=zqm hok'
 clear hV hC0 hC1 hFq hFr L ix iy ih ih' hok hok' hx hy hv
 rcases hz with rfl|rfl
 ·have HP:=zqm hP
  clear hP
  rw [if_pos rfl]
  go_enter Try.func104,Try.ntmps104
  go_wp2_with ((with_reducible refine gate_dst (N:=5) rfl ?_);refine box_event ?hg (N:=5) ?hd (cs:= #[.int .i64 a,.int .i64 b,.int .i64 c]) (t:=97) ?hr ?_;(case hd=>rfl);(case hg=>rfl);(case hr=> exact zq17);intro gb hg_ w1 hbox hb;have HX1:=zqm hbox;have HB1:=zqm hb;have HV1:=zqm (View.below HV.out hb);have HP1:=zqm (blk_below HP.out hb);have s1_:w1.cell? ⟨pf,0,none⟩=some (.int .u8 38):=(blk_cell HP1.out 0).trans rfl;have HC1_0:=zqm (cell_up HC0.out hb rfl);have HC1_1:=zqm (cell_up HC1.out hb rfl);have HF1q:=zqm (FAt.below hb _ _ HFq.out);have HF1r:=zqm (FAt.below hb _ _ HFr.out);clear hbox hb hg_)
  have HV2:=zqm (View.below HV1.out (below_drew1 (Below.refl w1.heap.size w1)))
  have HP2:=zqm (blk_below HP1.out (below_drew1 (Below.refl w1.heap.size w1)))
  have HX2:=zqm (blk_below HX1.out (below_drew1 (Below.refl w1.heap.size w1)))
  have HC2_0:=zqm (cell_up HC1_0.out (below_drew1 (Below.refl w1.heap.size w1)) rfl)
  have HC2_1:=zqm (cell_up HC1_1.out (below_drew1 (Below.refl w1.heap.size w1)) rfl)
  have HF2q:=zqm (FAt.below (below_drew1 (Below.refl w1.heap.size w1)) _ _ HF1q.out)
  have HF2r:=zqm (FAt.below (below_drew1 (Below.refl w1.heap.size w1)) _ _ HF1r.out)
  have HB2:=zqm (below_drew1 HB1.out)
  refine start_ (n:=10) (S:=(fun w'=>w'.cell? ⟨pf,1,none⟩=some (.slice (some ⟨ad,0,none⟩) 2 cp)∧w'.cell? ⟨ad,0,none⟩=some (.pointer (some ⟨q,0,none⟩))∧w'.cell? ⟨gb,0,none⟩=some (.int .i64 a)∧w'.cell? ⟨gb,1,none⟩=some (.int .i64 b)∧w'.cell? ⟨gb,2,none⟩=some (.int .i64 c))) (ds:= []) (zqb 10 0) zqk rfl rfl ⟨(blk_cell HP2.out 1).trans rfl,HC2_0.out,(blk_cell HX2.out 0).trans rfl,(blk_cell HX2.out 1).trans rfl,(blk_cell HX2.out 2).trans rfl⟩ (fun hHeld=>?_)
  refine with_tabW alg_value.tab10 alg_value.bits10 (fun HT_ HW_=>?_)
  generalize w1.drew=w2 at hHeld HV2 HP2 HX2 HB2 HC2_0 HC2_1 HF2q HF2r ⊢
  refine zqp 0 36 (zqb 10 1) HT_ ?_
  refine zqp 1 37 (zqb 10 3) HT_ ?_
  refine zqp 2 38 (zqb 10 7) HT_ ?_
  refine zqp 3 39 (zqb 10 15) HT_ ?_
  refine zqw 4 40 (zqb 10 31) HT_ HW_ hHeld ?_
  refine zqp 5 41 (zqb 10 63) HT_ ?_
  refine zqw 6 42 (zqb 10 127) HT_ HW_ hHeld ?_
  refine zqw 7 43 (zqb 10 255) HT_ HW_ hHeld ?_
  refine one_ (i:=8) (N:=some 44) (zqb 10 511) rfl rfl (one_of HT_.out zqk) (by decide) (fun K hK=>?_)
  refine goes_ Try.func104 zqk rfl #[.pointer (some ⟨g,0,none⟩),.pointer (some ⟨q,0,none⟩),.agg #[.int .i64 a,.int .i64 b,.int .i64 c]] (by rfl) rfl rfl zq70 ?_
  refine(IH.out q w2 HV2.out HF2q.out HOK.out).mono ?_
  rintro e w3 ⟨rfl,hb⟩
  refine⟨_,rfl,?_⟩
  have HB3:=zqm (below_step HB2.out hb)
  have HV3:=zqm (View.below HV2.out hb)
  have HP3:=zqm (blk_below HP2.out hb)
  have HX3:=zqm (blk_below HX2.out hb)
  have HC3_0:=zqm (cell_up HC2_0.out hb rfl)
  have HC3_1:=zqm (cell_up HC2_1.out hb rfl)
  have HF3q:=zqm (FAt.below hb _ _ HF2q.out)
  have HF3r:=zqm (FAt.below hb _ _ HF2r.out)
  refine hK.out _ _ ⟨(blk_cell HP3.out 1).trans rfl,HC3_0.out,(blk_cell HX3.out 0).trans rfl,(blk_cell HX3.out 1).trans rfl,(blk_cell HX3.out 2).trans rfl⟩ (fun hHeld3=>?_)
  clear hK K hb
  refine norm_ (a':=?_) ?_ ?_
  rotate_left
  ·show Act.put _ (some 44) _=_
   simp only [Act.put,List.setIfInBounds_toArray,List.set_cons_zero,List.set_cons_succ,i64_w,i32_w]
   rfl
  refine zqp 9 7 (zqb 10 1023) HT_ ?_
  refine done_ (done_of HT_.out zqk) ?_
  clear hHeld hHeld3 s1_
  have s3_:w3.cell? ⟨pf,0,none⟩=some (.int .u8 38):=(blk_cell HP3.out 0).trans rfl
  go_wp2
  have HV4:=zqm (View.below HV3.out (below_drew1 (Below.refl w3.heap.size w3)))
  have HP4:=zqm (blk_below HP3.out (below_drew1 (Below.refl w3.heap.size w3)))
  have HX4:=zqm (blk_below HX3.out (below_drew1 (Below.refl w3.heap.size w3)))
  have HC4_0:=zqm (cell_up HC3_0.out (below_drew1 (Below.refl w3.heap.size w3)) rfl)
  have HC4_1:=zqm (cell_up HC3_1.out (below_drew1 (Below.refl w3.heap.size w3)) rfl)
  have HF4q:=zqm (FAt.below (below_drew1 (Below.refl w3.heap.size w3)) _ _ HF3q.out)
  have HF4r:=zqm (FAt.below (below_drew1 (Below.refl w3.heap.size w3)) _ _ HF3r.out)
  have HB4:=zqm (below_drew1 HB3.out)
  refine start_ (n:=10) (S:=(fun w'=>w'.cell? ⟨pf,1,none⟩=some (.slice (some ⟨ad,0,none⟩) 2 cp)∧w'.cell? ⟨ad,1,none⟩=some (.pointer (some ⟨r,0,none⟩))∧w'.cell? ⟨gb,0,none⟩=some (.int .i64 a)∧w'.cell? ⟨gb,1,none⟩=some (.int .i64 b)∧w'.cell? ⟨gb,2,none⟩=some (.int .i64 c))) (ds:= []) (zqb 10 0) zqk rfl rfl ⟨(blk_cell HP4.out 1).trans rfl,HC4_1.out,(blk_cell HX4.out 0).trans rfl,(blk_cell HX4.out 1).trans rfl,(blk_cell HX4.out 2).trans rfl⟩ (fun hHeld=>?_)
  refine with_tabW alg_value.tab13 alg_value.bits13 (fun HT_ HW_=>?_)
  generalize w3.drew=w4 at hHeld HV4 HP4 HX4 HB4 HC4_0 HC4_1 HF4q HF4r ⊢
  refine zqp 0 57 (zqb 10 1) HT_ ?_
  refine zqp 1 58 (zqb 10 3) HT_ ?_
  refine zqp 2 59 (zqb 10 7) HT_ ?_
  refine zqp 3 60 (zqb 10 15) HT_ ?_
  refine zqw 4 61 (zqb 10 31) HT_ HW_ hHeld ?_
  refine zqp 5 62 (zqb 10 63) HT_ ?_
  refine zqw 6 63 (zqb 10 127) HT_ HW_ hHeld ?_
  refine zqw 7 64 (zqb 10 255) HT_ HW_ hHeld ?_
  refine one_ (i:=8) (N:=some 65) (zqb 10 511) rfl rfl (one_of HT_.out zqk) (by decide) (fun K hK=>?_)
  refine goes_ Try.func104 zqk rfl #[.pointer (some ⟨g,0,none⟩),.pointer (some ⟨r,0,none⟩),.agg #[.int .i64 a,.int .i64 b,.int .i64 c]] (by rfl) rfl rfl zq70 ?_
  refine(IH'.out r w4 HV4.out HF4r.out HOK'.out).mono ?_
  rintro e w5 ⟨rfl,hb⟩
  refine⟨_,rfl,?_⟩
  have HB5:=zqm (below_step HB4.out hb)
  have HV5:=zqm (View.below HV4.out hb)
  have HP5:=zqm (blk_below HP4.out hb)
  have HX5:=zqm (blk_below HX4.out hb)
  have HC5_0:=zqm (cell_up HC4_0.out hb rfl)
  have HC5_1:=zqm (cell_up HC4_1.out hb rfl)
  have HF5q:=zqm (FAt.below hb _ _ HF4q.out)
  have HF5r:=zqm (FAt.below hb _ _ HF4r.out)
  refine hK.out _ _ ⟨(blk_cell HP5.out 1).trans rfl,HC5_1.out,(blk_cell HX5.out 0).trans rfl,(blk_cell HX5.out 1).trans rfl,(blk_cell HX5.out 2).trans rfl⟩ (fun hHeld5=>?_)
  clear hK K hb
  refine norm_ (a':=?_) ?_ ?_
  rotate_left
  ·show Act.put _ (some 65) _=_
   simp only [Act.put,List.setIfInBounds_toArray,List.set_cons_zero,List.set_cons_succ,i64_w,i32_w]
   rfl
  refine zqp 9 8 (zqb 10 1023) HT_ ?_
  refine done_ (done_of HT_.out zqk) ?_
  clear hHeld hHeld5 s3_
  have s5_:w5.cell? ⟨pf,0,none⟩=some (.int .u8 38):=(blk_cell HP5.out 0).trans rfl
  have b0_:=eq_true Ix.out.1;have c0_:=eq_true Ix.out.2
  have b1_:=eq_true Iy.out.1;have c1_:=eq_true Iy.out.2
  have hf1_:=HV5.out.f1
  have r3_:=HV5.out.m x Ix.out
  have s4_:=HV5.out.m2 x y Ix.out Iy.out
  go_wp2
  go_ret
  exact⟨rfl,HB5.out⟩
 ·have HP:=zqm hP
  clear hP
  rw [if_neg (by decide)]
  go_enter Try.func104,Try.ntmps104
  go_wp2_with ((with_reducible refine gate_dst (N:=5) rfl ?_);refine box_event ?hg (N:=5) ?hd (cs:= #[.int .i64 a,.int .i64 b,.int .i64 c]) (t:=97) ?hr ?_;(case hd=>rfl);(case hg=>rfl);(case hr=> exact zq17);intro gb hg_ w1 hbox hb;have HX1:=zqm hbox;have HB1:=zqm hb;have HV1:=zqm (View.below HV.out hb);have HP1:=zqm (blk_below HP.out hb);have s1_:w1.cell? ⟨pf,0,none⟩=some (.int .u8 124):=(blk_cell HP1.out 0).trans rfl;have HC1_0:=zqm (cell_up HC0.out hb rfl);have HC1_1:=zqm (cell_up HC1.out hb rfl);have HF1q:=zqm (FAt.below hb _ _ HFq.out);have HF1r:=zqm (FAt.below hb _ _ HFr.out);clear hbox hb hg_)
  have HV2:=zqm (View.below HV1.out (below_drew1 (Below.refl w1.heap.size w1)))
  have HP2:=zqm (blk_below HP1.out (below_drew1 (Below.refl w1.heap.size w1)))
  have HX2:=zqm (blk_below HX1.out (below_drew1 (Below.refl w1.heap.size w1)))
  have HC2_0:=zqm (cell_up HC1_0.out (below_drew1 (Below.refl w1.heap.size w1)) rfl)
  have HC2_1:=zqm (cell_up HC1_1.out (below_drew1 (Below.refl w1.heap.size w1)) rfl)
  have HF2q:=zqm (FAt.below (below_drew1 (Below.refl w1.heap.size w1)) _ _ HF1q.out)
  have HF2r:=zqm (FAt.below (below_drew1 (Below.refl w1.heap.size w1)) _ _ HF1r.out)
  have HB2:=zqm (below_drew1 HB1.out)
  refine start_ (n:=10) (S:=(fun w'=>w'.cell? ⟨pf,1,none⟩=some (.slice (some ⟨ad,0,none⟩) 2 cp)∧w'.cell? ⟨ad,0,none⟩=some (.pointer (some ⟨q,0,none⟩))∧w'.cell? ⟨gb,0,none⟩=some (.int .i64 a)∧w'.cell? ⟨gb,1,none⟩=some (.int .i64 b)∧w'.cell? ⟨gb,2,none⟩=some (.int .i64 c))) (ds:= []) (zqb 10 0) zqk rfl rfl ⟨(blk_cell HP2.out 1).trans rfl,HC2_0.out,(blk_cell HX2.out 0).trans rfl,(blk_cell HX2.out 1).trans rfl,(blk_cell HX2.out 2).trans rfl⟩ (fun hHeld=>?_)
  refine with_tabW alg_value.tab10 alg_value.bits10 (fun HT_ HW_=>?_)
  generalize w1.drew=w2 at hHeld HV2 HP2 HX2 HB2 HC2_0 HC2_1 HF2q HF2r ⊢
  refine zqp 0 36 (zqb 10 1) HT_ ?_
  refine zqp 1 37 (zqb 10 3) HT_ ?_
  refine zqp 2 38 (zqb 10 7) HT_ ?_
  refine zqp 3 39 (zqb 10 15) HT_ ?_
  refine zqw 4 40 (zqb 10 31) HT_ HW_ hHeld ?_
  refine zqp 5 41 (zqb 10 63) HT_ ?_
  refine zqw 6 42 (zqb 10 127) HT_ HW_ hHeld ?_
  refine zqw 7 43 (zqb 10 255) HT_ HW_ hHeld ?_
  refine one_ (i:=8) (N:=some 44) (zqb 10 511) rfl rfl (one_of HT_.out zqk) (by decide) (fun K hK=>?_)
  refine goes_ Try.func104 zqk rfl #[.pointer (some ⟨g,0,none⟩),.pointer (some ⟨q,0,none⟩),.agg #[.int .i64 a,.int .i64 b,.int .i64 c]] (by rfl) rfl rfl zq70 ?_
  refine(IH.out q w2 HV2.out HF2q.out HOK.out).mono ?_
  rintro e w3 ⟨rfl,hb⟩
  refine⟨_,rfl,?_⟩
  have HB3:=zqm (below_step HB2.out hb)
  have HV3:=zqm (View.below HV2.out hb)
  have HP3:=zqm (blk_below HP2.out hb)
  have HX3:=zqm (blk_below HX2.out hb)
  have HC3_0:=zqm (cell_up HC2_0.out hb rfl)
  have HC3_1:=zqm (cell_up HC2_1.out hb rfl)
  have HF3q:=zqm (FAt.below hb _ _ HF2q.out)
  have HF3r:=zqm (FAt.below hb _ _ HF2r.out)
  refine hK.out _ _ ⟨(blk_cell HP3.out 1).trans rfl,HC3_0.out,(blk_cell HX3.out 0).trans rfl,(blk_cell HX3.out 1).trans rfl,(blk_cell HX3.out 2).trans rfl⟩ (fun hHeld3=>?_)
  clear hK K hb
  refine norm_ (a':=?_) ?_ ?_
  rotate_left
  ·show Act.put _ (some 44) _=_
   simp only [Act.put,List.setIfInBounds_toArray,List.set_cons_zero,List.set_cons_succ,i64_w,i32_w]
   rfl
  refine zqp 9 7 (zqb 10 1023) HT_ ?_
  refine done_ (done_of HT_.out zqk) ?_
  clear hHeld hHeld3 s1_
  have s3_:w3.cell? ⟨pf,0,none⟩=some (.int .u8 124):=(blk_cell HP3.out 0).trans rfl
  go_wp2
  have HV4:=zqm (View.below HV3.out (below_drew1 (Below.refl w3.heap.size w3)))
  have HP4:=zqm (blk_below HP3.out (below_drew1 (Below.refl w3.heap.size w3)))
  have HX4:=zqm (blk_below HX3.out (below_drew1 (Below.refl w3.heap.size w3)))
  have HC4_0:=zqm (cell_up HC3_0.out (below_drew1 (Below.refl w3.heap.size w3)) rfl)
  have HC4_1:=zqm (cell_up HC3_1.out (below_drew1 (Below.refl w3.heap.size w3)) rfl)
  have HF4q:=zqm (FAt.below (below_drew1 (Below.refl w3.heap.size w3)) _ _ HF3q.out)
  have HF4r:=zqm (FAt.below (below_drew1 (Below.refl w3.heap.size w3)) _ _ HF3r.out)
  have HB4:=zqm (below_drew1 HB3.out)
  refine start_ (n:=10) (S:=(fun w'=>w'.cell? ⟨pf,1,none⟩=some (.slice (some ⟨ad,0,none⟩) 2 cp)∧w'.cell? ⟨ad,1,none⟩=some (.pointer (some ⟨r,0,none⟩))∧w'.cell? ⟨gb,0,none⟩=some (.int .i64 a)∧w'.cell? ⟨gb,1,none⟩=some (.int .i64 b)∧w'.cell? ⟨gb,2,none⟩=some (.int .i64 c))) (ds:= []) (zqb 10 0) zqk rfl rfl ⟨(blk_cell HP4.out 1).trans rfl,HC4_1.out,(blk_cell HX4.out 0).trans rfl,(blk_cell HX4.out 1).trans rfl,(blk_cell HX4.out 2).trans rfl⟩ (fun hHeld=>?_)
  refine with_tabW alg_value.tab13 alg_value.bits13 (fun HT_ HW_=>?_)
  generalize w3.drew=w4 at hHeld HV4 HP4 HX4 HB4 HC4_0 HC4_1 HF4q HF4r ⊢
  refine zqp 0 57 (zqb 10 1) HT_ ?_
  refine zqp 1 58 (zqb 10 3) HT_ ?_
  refine zqp 2 59 (zqb 10 7) HT_ ?_
  refine zqp 3 60 (zqb 10 15) HT_ ?_
  refine zqw 4 61 (zqb 10 31) HT_ HW_ hHeld ?_
  refine zqp 5 62 (zqb 10 63) HT_ ?_
  refine zqw 6 63 (zqb 10 127) HT_ HW_ hHeld ?_
  refine zqw 7 64 (zqb 10 255) HT_ HW_ hHeld ?_
  refine one_ (i:=8) (N:=some 65) (zqb 10 511) rfl rfl (one_of HT_.out zqk) (by decide) (fun K hK=>?_)
  refine goes_ Try.func104 zqk rfl #[.pointer (some ⟨g,0,none⟩),.pointer (some ⟨r,0,none⟩),.agg #[.int .i64 a,.int .i64 b,.int .i64 c]] (by rfl) rfl rfl zq70 ?_
  refine(IH'.out r w4 HV4.out HF4r.out HOK'.out).mono ?_
  rintro e w5 ⟨rfl,hb⟩
  refine⟨_,rfl,?_⟩
  have HB5:=zqm (below_step HB4.out hb)
  have HV5:=zqm (View.below HV4.out hb)
  have HP5:=zqm (blk_below HP4.out hb)
  have HX5:=zqm (blk_below HX4.out hb)
  have HC5_0:=zqm (cell_up HC4_0.out hb rfl)
  have HC5_1:=zqm (cell_up HC4_1.out hb rfl)
  have HF5q:=zqm (FAt.below hb _ _ HF4q.out)
  have HF5r:=zqm (FAt.below hb _ _ HF4r.out)
  refine hK.out _ _ ⟨(blk_cell HP5.out 1).trans rfl,HC5_1.out,(blk_cell HX5.out 0).trans rfl,(blk_cell HX5.out 1).trans rfl,(blk_cell HX5.out 2).trans rfl⟩ (fun hHeld5=>?_)
  clear hK K hb
  refine norm_ (a':=?_) ?_ ?_
  rotate_left
  ·show Act.put _ (some 65) _=_
   simp only [Act.put,List.setIfInBounds_toArray,List.set_cons_zero,List.set_cons_succ,i64_w,i32_w]
   rfl
  refine zqp 9 8 (zqb 10 1023) HT_ ?_
  refine done_ (done_of HT_.out zqk) ?_
  clear hHeld hHeld5 s3_
  have s5_:w5.cell? ⟨pf,0,none⟩=some (.int .u8 124):=(blk_cell HP5.out 0).trans rfl
  have b0_:=eq_true Ix.out.1;have c0_:=eq_true Ix.out.2
  have b1_:=eq_true Iy.out.1;have c1_:=eq_true Iy.out.2
  have hf2_:=HV5.out.f2
  have r3_:=HV5.out.j x Ix.out
  have s4_:=HV5.out.j2 x y Ix.out Iy.out
  go_wp2
  go_ret
  exact⟨rfl,HB5.out⟩
theorem value_calls (g : Nat) (U : List (List Int)) (N : List Int) (v : Adr) (L : Logic U N) (a b c : Int) (ia : In U a) (ib : In U b) (ic : In U c) : ∀ (f : Fm) (pf : Nat) (w : World), View w g U N v → FAt w pf f → f.ok →
 Calls Try.prog 104 #[.pointer (some ⟨g,0,none⟩),.pointer (some ⟨pf,0,none⟩),.agg #[.int .i64 a,.int .i64 b,.int .i64 c]] w fun e w'=>e= .returned (.int .i64 (valF U N a b c f))∧Below w.heap.size w w'
 | .leaf x,pf,w,hV,hF,hok=>value_leaf g U N v L a b c x hok pf w hV hF
 | .neg f,pf,w,hV,hF,hok=>value_neg g U N v L a b c f _ rfl (in_val L ia ib ic f) (value_calls g U N v L a b c ia ib ic f) hok pf w hV hF
 | .bin z f f',pf,w,hV,hF,hok=>value_bin g U N v L a b c z hok.1 f f' _ _ rfl rfl (in_val L ia ib ic f) (in_val L ia ib ic f') (value_calls g U N v L a b c ia ib ic f) (value_calls g U N v L a b c ia ib ic f') hok.2.1 hok.2.2 pf w hV hF
structure SameI (w : World) (g : Nat) (U : List (List Int)) (N : List Int) (v : Adr) (gG gF gH pf ph : Nat) (f h : Fm) : Prop where
 view:View w g U N v
 bG:w.heap[gG]? =some (.cells #[.pointer (some ⟨g,0,none⟩)] 67 (0,0))
 bF:w.heap[gF]? =some (.cells #[.pointer (some ⟨pf,0,none⟩)] 94 (0,0))
 bH:w.heap[gH]? =some (.cells #[.pointer (some ⟨ph,0,none⟩)] 94 (0,0))
 tf:FAt w pf f
 th:FAt w ph h
theorem SameI.below {w w1 : World} {g : Nat} {U : List (List Int)} {N : List Int} {v : Adr} {gG gF gH pf ph : Nat} {f h : Fm} (H : SameI w g U N v gG gF gH pf ph f h) (hb : Below w.heap.size w w1) : SameI w1 g U N v gG gF gH pf ph f h where
 view:=H.view.below hb
 bG:=blk_below H.bG hb
 bF:=blk_below H.bF hb
 bH:=blk_below H.bH hb
 tf:=FAt.below hb _ _ H.tf
 th:=FAt.below hb _ _ H.th
def sfx (s : ByteArray) (i : Nat) : ByteArray := s.extract i s.size
theorem sfx_size (s : ByteArray) (i : Nat) : (sfx s i).size = s.size - i := by unfold sfx; rw [ByteArray.size_extract]; omega
theorem sfx_zero (s : ByteArray) : sfx s 0 = s := by unfold sfx; exact ByteArray.extract_zero_size
theorem sfx_next (s : ByteArray) {i : Nat} (h : i < s.size) : (sfx s i).extract 1 (sfx s i).size = sfx s (i + 1) := by
 rw [sfx_size]
 unfold sfx
 rw [ByteArray.extract_extract]
 congr 1
 omega
theorem sfx_bt (s : ByteArray) {i : Nat} (h : i < s.size) : bt (sfx s i) 0 = bt s (i : Int) := by
 have h1:0<(sfx s i).size:=by rw [sfx_size];omega
 have e1:=bt_at (sfx s i) 0 h1
 have e2:=bt_at s (i:Int) (by rw [Int.toNat_natCast];exact h)
 rw [← e1,← e2]
 have e3:(sfx s i)[0]'h1=s[i]:=by
  have h3:0<(s.extract i s.size).size:=h1
  have h4:(s.extract i s.size)[0]'h3=s[i+0]:=ByteArray.getElem_extract h3
  exact h4
 have e4:(s[((i:Nat):Int).toNat]'(by rw [Int.toNat_natCast];exact h))=s[i]:=by congr 1
 rw [e4,← e3]
 rfl
theorem rdF_sfx (s : ByteArray) : ∀ (k i : Nat) (f : Fm) (r : ByteArray), i ≤ s.size → rdF k (sfx s i) = some (f, r) → ∃ j, i < j ∧ j ≤ s.size ∧ r = sfx s j
 |0,_,_,_,_,h=>by simp [rdF] at h
 |k+1,i,f,r,hi,h=>by
  have ih:=rdF_sfx s k
  simp only [rdF] at h
  split at h
  ·cases h
  ·rename_i h0
   rw [sfx_size] at h0
   have hlt:i<s.size:=by omega
   rw [sfx_next s hlt] at h
   split at h
   ·cases h;exact⟨i+1,by omega,by omega,rfl⟩
   ·split at h
    ·split at h
     ·cases h
     ·rename_i f1 r1 h1
      cases h
      obtain⟨j,a,b,c⟩:=ih (i+1) _ _ (by omega) h1
      exact⟨j,by omega,b,c⟩
    ·split at h
     ·split at h
      ·cases h
      ·rename_i f1 r1 h1
       obtain⟨j,a,b,rfl⟩:=ih (i+1) _ _ (by omega) h1
       split at h
       ·cases h
       ·rename_i h2
        rw [sfx_size] at h2
        rw [sfx_next s (by omega)] at h
        split at h
        ·split at h
         ·cases h
         ·rename_i g q h3
          obtain⟨m,a2,b2,rfl⟩:=ih (j+1) _ _ (by omega) h3
          split at h
          ·cases h
          ·rename_i h4
           rw [sfx_size] at h4
           rw [sfx_next s (by omega)] at h
           split at h
           ·cases h;exact⟨m+1,by omega,by omega,rfl⟩
           ·cases h
        ·cases h
     ·cases h
def endV (s : ByteArray) (o : Option (Fm × ByteArray)) : Int := match o with | none => -1 | some (_, r) => ((s.size - r.size : Nat) : Int)
theorem rdF_leaf {k : Nat} {s : ByteArray} {i : Nat} (h : i < s.size) (hl : isLeaf (bt s i)) : rdF (k + 1) (sfx s i) = some (.leaf (bt s i), sfx s (i + 1)) := by
 simp only [rdF]
 rw [if_neg (by rw [sfx_size];omega),sfx_bt s h,if_pos hl,sfx_next s h]
theorem rdF_neg {k : Nat} {s : ByteArray} {i : Nat} (h : i < s.size) (hc : bt s i = 33) : rdF (k + 1) (sfx s i) = (rdF k (sfx s (i + 1))).map fun fr => (.neg fr.1, fr.2) := by
 simp only [rdF]
 rw [if_neg (by rw [sfx_size];omega),sfx_bt s h,if_neg (by rw [hc];unfold isLeaf;omega),if_pos hc,sfx_next s h]
 cases rdF k (sfx s (i+1)) <;> rfl
theorem rdF_par {k : Nat} {s : ByteArray} {i : Nat} (h : i < s.size) (hc : bt s i = 40) : rdF (k + 1) (sfx s i) = (rdF k (sfx s (i + 1))).bind fun fr => if fr.2.size = 0 then none else if bt fr.2 0 = 38 ∨ bt fr.2 0 = 124 then (rdF k (fr.2.extract 1 fr.2.size)).bind fun gq => if gq.2.size = 0 then none else if bt gq.2 0 = 41 then some (.bin (bt fr.2 0) fr.1 gq.1, gq.2.extract 1 gq.2.size) else none else none := by
 simp only [rdF]
 rw [if_neg (by rw [sfx_size];omega),sfx_bt s h,if_neg (by rw [hc];unfold isLeaf;omega),if_neg (by rw [hc];omega),if_pos hc,sfx_next s h]
 rcases rdF k (sfx s (i+1)) with _|⟨f,r⟩
 ·rfl
 simp only [Option.bind_some]
 split
 ·rfl
 split
 ·rcases rdF k (r.extract 1 r.size) with _|⟨g,q⟩ <;> rfl
 ·rfl
theorem rdF_other {k : Nat} {s : ByteArray} {i : Nat} (h : i < s.size) (hl : ¬ isLeaf (bt s i)) (h1 : ¬ bt s i = 33) (h2 : ¬ bt s i = 40) : rdF (k + 1) (sfx s i) = none := by
 simp only [rdF]
 rw [if_neg (by rw [sfx_size];omega),sfx_bt s h,if_neg hl,if_neg h1,if_neg h2]
theorem rdF_end {k : Nat} {s : ByteArray} {i : Nat} (h : s.size ≤ i) : rdF k (sfx s i) = none := by
 cases k with
 | zero => rfl
 | succ k => simp only [rdF]; rw [if_pos (by rw [sfx_size]; omega)]
theorem l10End_j1 (s : ByteArray) (hs : s.size ≤ 1000000) (j : Nat) (V : Int) (hj : j < s.size) (hev : Ev (fun m => spec_l10End.f m s ((j + 1 : Nat) : Int)) V) (hV : V = -1 ∨ ∃ m : Nat, V = (m : Int)) :
 Ev (fun m=>spec_l10End.j1 m s (j:Int) false) (if 0≤V∧V<(s.size:Int)∧bt s V=41 then V+1 else -1):=by
 refine Ev.succ ?_
 simp only [spec_l10End.j1,wrap_nat (show j<4611686018427387904 by omega)]
 repeat(with_reducible first|refine Ev.ip ?_|refine Ev.iq ?_)
 refine Ev.bind hev ?_
 rcases hV with rfl|⟨m,rfl⟩
 ·repeat(with_reducible first|refine Ev.ip ?_|refine Ev.iq ?_)
  exact Ev.now _
 ·by_cases h1:m<s.size
  ·by_cases h2:bt s (m:Int)=41
   ·repeat(with_reducible first|refine Ev.ip ?_|refine Ev.iq ?_)
    rw [if_pos ⟨by omega,by omega,h2⟩,wrap_nat (show m<4611686018427387904 by omega)]
    exact Ev.now _
   ·repeat(with_reducible first|refine Ev.ip ?_|refine Ev.iq ?_)
    rw [if_neg (fun h=>h2 h.2.2)]
    exact Ev.now _
  ·repeat(with_reducible first|refine Ev.ip ?_|refine Ev.iq ?_)
   rw [if_neg (fun h=>h1 (by omega))]
   exact Ev.now _
theorem l10End_ev (s : ByteArray) (hs : s.size ≤ 1000000) : ∀ k i, i ≤ s.size → s.size - i ≤ k → Ev (fun m => spec_l10End.f m s (i : Int)) (endV s (rdF k (sfx s i))) := by
 intro k
 induction k with
 |zero=>
  intro i hi hk
  rw [rdF_end (by omega)]
  refine Ev.succ ?_
  simp only [spec_l10End.f]
  repeat(with_reducible first|refine Ev.ip ?_|refine Ev.iq ?_)
  exact Ev.now _
 |succ k ih=>
  intro i hi hk
  by_cases hlt:i<s.size
  ·have hw:wrap64 ((i:Int)+1)=((i+1:Nat):Int):=wrap_nat (by omega)
   by_cases hl:isLeaf (bt s i)
   ·rw [rdF_leaf hlt hl]
    have hv:endV s (some (Fm.leaf (bt s i),sfx s (i+1)))=((i+1:Nat):Int):=by
     show ((s.size - (sfx s (i+1)).size:Nat):Int)=_
     rw [sfx_size];omega
    rw [hv]
    have J: ∀c,Ev (fun m=>spec_l10End.j0 m s (i:Int) c true) ((i+1:Nat):Int):=by
     intro c
     refine Ev.succ ?_
     simp only [spec_l10End.j0,hw]
     repeat(with_reducible first|refine Ev.ip ?_|refine Ev.iq ?_)
     exact Ev.now _
    refine Ev.succ ?_
    simp only [spec_l10End.f]
    repeat(with_reducible first|refine Ev.ip ?_|refine Ev.iq ?_)
    unfold isLeaf at hl
    by_cases h97:bt s (i:Int)=97
    ·repeat(with_reducible first|refine Ev.ip ?_|refine Ev.iq ?_)
     rw [show (bt s (i:Int)==97)=true by rw [h97];rfl];exact J _
    by_cases h98:bt s (i:Int)=98
    ·repeat(with_reducible first|refine Ev.ip ?_|refine Ev.iq ?_)
     rw [show (bt s (i:Int)==98)=true by rw [h98];rfl];exact J _
    by_cases h99:bt s (i:Int)=99
    ·repeat(with_reducible first|refine Ev.ip ?_|refine Ev.iq ?_)
     rw [show (bt s (i:Int)==99)=true by rw [h99];rfl];exact J _
    by_cases h48:bt s (i:Int)=48
    ·repeat(with_reducible first|refine Ev.ip ?_|refine Ev.iq ?_)
     rw [show (bt s (i:Int)==48)=true by rw [h48];rfl];exact J _
    have h49:bt s (i:Int)=49:=by omega
    repeat(with_reducible first|refine Ev.ip ?_|refine Ev.iq ?_)
    rw [show (bt s (i:Int)==49)=true by rw [h49];rfl];exact J _
   ·have go: ∀V,Ev (fun m=>spec_l10End.j0 m s (i:Int) (bt s (i:Int)) false) V→Ev (fun m=>spec_l10End.f m s (i:Int)) V:=by
     intro V hV
     refine Ev.succ ?_
     simp only [spec_l10End.f]
     unfold isLeaf at hl
     have h97: ¬bt s (i:Int)=97:=fun e=>hl (by omega)
     have h98: ¬bt s (i:Int)=98:=fun e=>hl (by omega)
     have h99: ¬bt s (i:Int)=99:=fun e=>hl (by omega)
     have h48: ¬bt s (i:Int)=48:=fun e=>hl (by omega)
     have h49:(bt s (i:Int)==49)=false:=beq_eq_false_iff_ne.2 fun e=>hl (by omega)
     repeat(with_reducible first|refine Ev.ip ?_|refine Ev.iq ?_)
     rw [h49]
     exact hV
    refine go _ (Ev.succ ?_)
    simp only [spec_l10End.j0,hw]
    have hI:=ih (i+1) (by omega) (by omega)
    by_cases h33:bt s (i:Int)=33
    ·rw [rdF_neg hlt h33]
     repeat(with_reducible first|refine Ev.ip ?_|refine Ev.iq ?_)
     refine Ev.bind hI ?_
     refine Ev.eq (Ev.now _) ?_
     cases rdF k (sfx s (i+1)) <;> rfl
    ·by_cases h40:bt s (i:Int)=40
     ·rw [rdF_par hlt h40]
      repeat(with_reducible first|refine Ev.ip ?_|refine Ev.iq ?_)
      refine Ev.bind hI ?_
      have hsx:=rdF_sfx s k (i+1)
      rcases hrd:rdF k (sfx s (i+1)) with _|⟨f,r⟩
      ·have e1:endV s none<0:=by show (-1:Int)<0;omega
       repeat(with_reducible first|refine Ev.ip ?_|refine Ev.iq ?_)
       refine Ev.succ ?_
       simp only [spec_l10End.j1]
       repeat(with_reducible first|refine Ev.ip ?_|refine Ev.iq ?_)
       exact Ev.now _
      ·obtain⟨j,ha,hb,rfl⟩:=hsx f r (by omega) hrd
       have e1:endV s (some (f,sfx s j))=(j:Int):=by
        show ((s.size - (sfx s j).size:Nat):Int)=_
        rw [sfx_size];omega
       rw [e1]
       simp only [Option.bind_some]
       by_cases hj:j<s.size
       ·rw [if_neg (by rw [sfx_size];omega),sfx_bt s hj,sfx_next s hj]
        repeat(with_reducible first|refine Ev.ip ?_|refine Ev.iq ?_)
        have hJ:=ih (j+1) (by omega) (by omega)
        have hsx2:=rdF_sfx s k (j+1)
        have hval:(∀ob:Option (Fm × ByteArray),rdF k (sfx s (j+1))=ob→Ev (fun m=>spec_l10End.j1 m s (j:Int) false) (endV s (ob.bind fun gq=>if gq.2.size=0 then none else if bt gq.2 0=41 then some (Fm.bin (bt s j) f gq.1,gq.2.extract 1 gq.2.size) else none))):=by
         intro ob hob
         rw [hob] at hJ hsx2
         cases ob with
         |none=>
          refine Ev.eq (l10End_j1 s hs j (endV s none) hj hJ (.inl rfl)) ?_
          rw [if_neg (fun h=>by have:(0:Int)≤ -1:=h.1;omega)];rfl
         |some gq=>
          obtain⟨g,q⟩:=gq
          obtain⟨m,hc,hd,rfl⟩:=hsx2 g q (by omega) rfl
          have e2:endV s (some (g,sfx s m))=(m:Int):=by
           show ((s.size - (sfx s m).size:Nat):Int)=_
           rw [sfx_size];omega
          rw [e2] at hJ
          refine Ev.eq (l10End_j1 s hs j (m:Int) hj hJ (.inr ⟨m,rfl⟩)) ?_
          simp only [Option.bind_some]
          by_cases hm:m<s.size
          ·rw [if_neg (show¬(sfx s m).size=0 by rw [sfx_size];omega),sfx_bt s hm,sfx_next s hm]
           by_cases h41:bt s (m:Int)=41
           ·rw [if_pos ⟨by omega,by omega,h41⟩,if_pos h41]
            show (m:Int)+1=((s.size - (sfx s (m+1)).size:Nat):Int)
            rw [sfx_size];omega
           ·rw [if_neg (fun h=>h41 h.2.2),if_neg h41];rfl
          ·rw [if_neg (fun h=>hm (by omega)),if_pos (by rw [sfx_size];omega)];rfl
        by_cases h38:bt s (j:Int)=38
        ·rw [if_pos (.inl h38)]
         repeat(with_reducible first|refine Ev.ip ?_|refine Ev.iq ?_)
         exact hval _ rfl
        ·by_cases h124:bt s (j:Int)=124
         ·rw [if_pos (.inr h124)]
          repeat(with_reducible first|refine Ev.ip ?_|refine Ev.iq ?_)
          rw [show (bt s (j:Int) !=124)=false by rw [h124];rfl]
          exact hval _ rfl
         ·rw [if_neg (fun h=>h.elim h38 h124)]
          repeat(with_reducible first|refine Ev.ip ?_|refine Ev.iq ?_)
          rw [show (bt s (j:Int) !=124)=true from bne_iff_ne.2 h124]
          refine Ev.succ ?_
          simp only [spec_l10End.j1]
          repeat(with_reducible first|refine Ev.ip ?_|refine Ev.iq ?_)
          exact Ev.now _
       ·rw [if_pos (by rw [sfx_size];omega)]
        repeat(with_reducible first|refine Ev.ip ?_|refine Ev.iq ?_)
        refine Ev.succ ?_
        simp only [spec_l10End.j1]
        repeat(with_reducible first|refine Ev.ip ?_|refine Ev.iq ?_)
        exact Ev.now _
     ·rw [rdF_other hlt hl h33 h40]
      repeat(with_reducible first|refine Ev.ip ?_|refine Ev.iq ?_)
      exact Ev.now _
  ·rw [rdF_end (by omega)]
   refine Ev.succ ?_
   simp only [spec_l10End.f]
   repeat(with_reducible first|refine Ev.ip ?_|refine Ev.iq ?_)
   exact Ev.now _
theorem spec_FormulaOk.ev (s : ByteArray) : Ev (fun k => spec_FormulaOk.f k s) (fmOf s).isSome := by
 unfold spec_FormulaOk.f fmOf
 by_cases h:60<s.size
 ·rw [if_pos h]
  repeat(with_reducible first|refine Ev.ip ?_|refine Ev.iq ?_)
  exact Ev.now _
 ·rw [if_neg h]
  by_cases h0:s.size=0
  ·have hr:rdF s.size s=none:=by rw [h0];rfl
   rw [hr]
   repeat(with_reducible first|refine Ev.ip ?_|refine Ev.iq ?_)
   exact Ev.now _
  ·repeat(with_reducible first|refine Ev.ip ?_|refine Ev.iq ?_)
   have hE:=l10End_ev s (by omega) s.size 0 (by omega) (by omega)
   have hsx:=rdF_sfx s s.size 0
   rw [sfx_zero] at hE hsx
   refine Ev.bind hE ?_
   rcases hrd:rdF s.size s with _|⟨f,r⟩
   ·refine Ev.eq (Ev.now _) ?_
    show ((-1:Int)==(s.size:Int))=false
    rw [beq_eq_false_iff_ne];omega
   ·obtain⟨j,ha,hb,rfl⟩:=hsx f r (by omega) hrd
    refine Ev.eq (Ev.now _) ?_
    show (((s.size - (sfx s j).size:Nat):Int)==(s.size:Int))=(if(sfx s j).size=0 then some f else none).isSome
    rw [sfx_size]
    by_cases hj:j=s.size
    ·rw [if_pos (by omega)]
     show _=true
     rw [beq_iff_eq];omega
    ·rw [if_neg (by omega)]
     show _=false
     rw [beq_eq_false_iff_ne];omega
section
def Best (n : Nat) (lb : Nat → Bool) (le : Nat → Nat → Bool) (i : Nat) (x : Int) : Prop :=
 (x= -1∧ ∀j,j<i→lb j=false)∨ ∃c:Nat,x=c∧c<i∧lb c=true∧ ∀j,j<i→lb j=true→(∀d,d<n→lb d=true→le d j=true)→j=c
theorem Best.zero {n : Nat} {lb : Nat → Bool} {le : Nat → Nat → Bool} : Best n lb le 0 (-1) := .inl ⟨rfl, fun _ h => absurd h (Nat.not_lt_zero _)⟩
theorem Best.skip {n i : Nat} {lb : Nat → Bool} {le : Nat → Nat → Bool} {x : Int} (h : Best n lb le i x) (hi : lb i = false) : Best n lb le (i + 1) x := by
 rcases h with ⟨h1,h2⟩|⟨c,h1,h2,h3,h4⟩
 ·refine .inl ⟨h1,fun j hj=>?_⟩
  rcases Nat.lt_or_ge j i with h|h
  ·exact h2 j h
  ·obtain rfl:j=i:=by omega
   exact hi
 ·refine .inr ⟨c,h1,by omega,h3,fun j hj k1 k2=>?_⟩
  rcases Nat.lt_or_ge j i with h|h
  ·exact h4 j h k1 k2
  ·obtain rfl:j=i:=by omega
   rw [hi] at k1;exact absurd k1 (by simp)
theorem Best.first {n i : Nat} {lb : Nat → Bool} {le : Nat → Nat → Bool} (h : Best n lb le i (-1)) (hi : lb i = true) : Best n lb le (i + 1) (i : Int) := by
 rcases h with ⟨h1,h2⟩|⟨c,h1,h2,h3,h4⟩
 ·refine .inr ⟨i,rfl,by omega,hi,fun j hj k1 _=>?_⟩
  rcases Nat.lt_or_ge j i with h|h
  ·rw [h2 j h] at k1;exact absurd k1 (by simp)
  ·omega
 ·omega
theorem Best.up {n i c : Nat} {lb : Nat → Bool} {le : Nat → Nat → Bool} (ha : ∀ a b, a < n → b < n → le a b = true → le b a = true → a = b) (hn : i < n) (h : Best n lb le i (c : Int)) (hi : lb i = true) (hc : le c i = true) : Best n lb le (i + 1) (i : Int) := by
 rcases h with ⟨h1,h2⟩|⟨c',h1,h2,h3,h4⟩
 ·omega
 ·obtain rfl:c=c':=by omega
  refine .inr ⟨i,rfl,by omega,hi,fun j hj k1 k2=>?_⟩
  rcases Nat.lt_or_ge j i with h|h
  ·obtain rfl:=h4 j h k1 k2
   exact ha j i (by omega) hn hc (k2 i hn hi)
  ·omega
theorem Best.stay {n i c : Nat} {lb : Nat → Bool} {le : Nat → Nat → Bool} (hn : i < n) (h : Best n lb le i (c : Int)) (hc : le c i = false) : Best n lb le (i + 1) (c : Int) := by
 rcases h with ⟨h1,h2⟩|⟨c',h1,h2,h3,h4⟩
 ·omega
 ·obtain rfl:c=c':=by omega
  refine .inr ⟨c,rfl,by omega,h3,fun j hj k1 k2=>?_⟩
  rcases Nat.lt_or_ge j i with h|h
  ·exact h4 j h k1 k2
  ·obtain rfl:j=i:=by omega
   have:=k2 c (by omega) h3
   rw [hc] at this;exact absurd this (by simp)
section
variable {U : List (List Int)} (O : Order U)
include O
theorem spec_l1Meet.ev {a b : Nat} (ha : a < U.length) (hb : b < U.length) : Ev (fun k => spec_l1Meet.f k U a b) (mI U a b) := by
 have hs:=O.small
 unfold spec_l1Meet.f
 refine Ev.loop (g:=fun k s i=>spec_l1Meet.l0 k U a b s i) U.length (Best U.length (fun i=>leB U i a && leB U i b) (leB U)) (by omega) (fun s h=>?_) (fun i s hi h=>?_) (-1) Best.zero
 ·refine Ev.succ ?_
  simp only [spec_l1Meet.l0]
  repeat(with_reducible first|refine Ev.ip ?_|refine Ev.iq ?_)
  rcases h with ⟨rfl,h⟩|⟨c,rfl,hc,h1,h2⟩
  ·have e:meetO U a b=none:=findN_none.2 fun i hi=>by
    have:(leB U i a && leB U i b)=false:=h i hi
    unfold meetP;rw [← Bool.and_assoc,this];rfl
   unfold mI
   rw [e]
   refine Ev.eq (Ev.all (n:=U.length) (g:=fun k i=>spec_l1Meet.l1 k U a b (-1) i) (fun _=>true) (go:= -1) (stop:= -1) (by omega) (fun _=>?_) fun i hi _ R hR=>?_) (by split <;> rfl)
   ·refine Ev.succ ?_
    simp only [spec_l1Meet.l1]
    repeat(with_reducible first|refine Ev.ip ?_|refine Ev.iq ?_)
    exact Ev.now _
   ·refine Ev.succ ?_
    have hrow:=O.row i hi
    have va:=O.val hi ha
    have vb:=O.val hi hb
    have hab:(leB U i a && leB U i b)=false:=h i hi
    simp only [spec_l1Meet.l1,rdL_nat,rd_nat,rd_row,hrow,va,vb]
    repeat(with_reducible first|refine Ev.ip ?_|refine Ev.iq ?_)
    cases xa:leB U i a with
    |false=>
     repeat(with_reducible first|refine Ev.ip ?_|refine Ev.iq ?_)
     exact hR rfl
    |true=>
     cases xb:leB U i b with
     |false=>
      repeat(with_reducible first|refine Ev.ip ?_|refine Ev.iq ?_)
      exact hR rfl
     |true=>rw [xa,xb] at hab;exact absurd hab (by simp)
  ·replace h1:(leB U c a && leB U c b)=true:=h1
   refine Ev.eq (Ev.all (n:=U.length) (g:=fun k i=>spec_l1Meet.l1 k U a b c i) (fun d=>!(leB U d a && leB U d b)||leB U d c) (go:=(c:Int)) (stop:= -1) (by omega) (fun _=>?_) fun i hi _ R hR=>?_) ?_
   ·refine Ev.succ ?_
    simp only [spec_l1Meet.l1]
    repeat(with_reducible first|refine Ev.ip ?_|refine Ev.iq ?_)
    exact Ev.now _
   ·refine Ev.succ ?_
    have hrow:=O.row i hi
    have va:=O.val hi ha
    have vb:=O.val hi hb
    have vc:=O.val hi hc
    simp only [spec_l1Meet.l1,rdL_nat,rd_nat,rd_row,hrow,va,vb,vc]
    repeat(with_reducible first|refine Ev.ip ?_|refine Ev.iq ?_)
    cases xa:leB U i a with
    |false=>
     repeat(with_reducible first|refine Ev.ip ?_|refine Ev.iq ?_)
     exact hR (by simp [xa])
    |true=>
     repeat(with_reducible first|refine Ev.ip ?_|refine Ev.iq ?_)
     cases xb:leB U i b with
     |false=>
      repeat(with_reducible first|refine Ev.ip ?_|refine Ev.iq ?_)
      exact hR (by simp [xa,xb])
     |true=>
      repeat(with_reducible first|refine Ev.ip ?_|refine Ev.iq ?_)
      cases xc:leB U i c with
      |false=>
       repeat(with_reducible first|refine Ev.ip ?_|refine Ev.iq ?_)
       exact Ev.now _
      |true=>
       repeat(with_reducible first|refine Ev.ip ?_|refine Ev.iq ?_)
       exact hR (by simp [xc])
   ·unfold mI
    have hP:meetP U a b c=allN U.length fun d=>!(leB U d a && leB U d b)||leB U d c:=by unfold meetP;rw [← Bool.and_assoc,h1];rfl
    rw [← hP]
    cases hp:meetP U a b c with
    |true=>rw [O.meet_eq hc hp];rfl
    |false=>
     cases e:meetO U a b with
     |none=>rfl
     |some m=>
      obtain⟨k1,k2⟩:=findN_some e
      obtain⟨q1,q2,q3⟩:=meetP_iff.1 k2
      have:=h2 m k1 (by simp [q1,q2]) fun d hd kd=>by
       rw [Bool.and_eq_true] at kd
       exact q3 d hd kd.1 kd.2
      rw [← this,k2] at hp
      exact absurd hp (by simp)
 ·have hrow:=O.row i hi
  have va:=O.val hi ha
  have vb:=O.val hi hb
  cases xa:leB U i a with
  |false=>
   refine⟨s,h.skip (by simp [xa]),fun K=>Ev.succ ?_⟩
   rw [xa] at va
   simp only [spec_l1Meet.l0,rdL_nat,rd_nat,rd_row,hrow,va,vb]
   repeat(with_reducible first|refine Ev.ip ?_|refine Ev.iq ?_)
   exact K
  |true=>
   cases xb:leB U i b with
   |false=>
    refine⟨s,h.skip (by simp [xb]),fun K=>Ev.succ ?_⟩
    rw [xa] at va;rw [xb] at vb
    simp only [spec_l1Meet.l0,rdL_nat,rd_nat,rd_row,hrow,va,vb]
    repeat(with_reducible first|refine Ev.ip ?_|refine Ev.iq ?_)
    exact K
   |true=>
    rw [xa] at va;rw [xb] at vb
    by_cases hneg:s= -1
    ·subst hneg
     refine⟨(i:Int),h.first (by simp [xa,xb]),fun K=>Ev.succ ?_⟩
     simp only [spec_l1Meet.l0,rdL_nat,rd_nat,rd_row,hrow,va,vb]
     repeat(with_reducible first|refine Ev.ip ?_|refine Ev.iq ?_)
     exact K
    ·obtain⟨c,rfl,hc⟩: ∃c:Nat,s=c∧c<i:=by
      rcases h with ⟨h1,_⟩|⟨c,h1,h2,_⟩
      ·exact absurd h1 hneg
      ·exact⟨c,h1,h2⟩
     have vc:=O.val (show c<U.length by omega) hi
     have hrowc:=O.row c (by omega)
     cases xc:leB U c i with
     |true=>
      refine⟨(i:Int),h.up O.anti hi (by simp [xa,xb]) xc,fun K=>Ev.succ ?_⟩
      rw [xc] at vc
      simp only [spec_l1Meet.l0,rdL_nat,rd_nat,rd_row,hrow,hrowc,va,vb,vc]
      repeat(with_reducible first|refine Ev.ip ?_|refine Ev.iq ?_)
      exact K
     |false=>
      refine⟨(c:Int),h.stay hi xc,fun K=>Ev.succ ?_⟩
      rw [xc] at vc
      simp only [spec_l1Meet.l0,rdL_nat,rd_nat,rd_row,hrow,hrowc,va,vb,vc]
      repeat(with_reducible first|refine Ev.ip ?_|refine Ev.iq ?_)
      exact K
theorem spec_l1Join.ev {a b : Nat} (ha : a < U.length) (hb : b < U.length) : Ev (fun k => spec_l1Join.f k U a b) (jI U a b) := by
 have hs:=O.small
 have hra:=O.row a ha
 have hrb:=O.row b hb
 unfold spec_l1Join.f
 refine Ev.loop (g:=fun k s i=>spec_l1Join.l0 k U a b s i) U.length (Best U.length (fun i=>leB U a i && leB U b i) (fun x y=>leB U y x)) (by omega) (fun s h=>?_) (fun i s hi h=>?_) (-1) Best.zero
 ·refine Ev.succ ?_
  simp only [spec_l1Join.l0]
  repeat(with_reducible first|refine Ev.ip ?_|refine Ev.iq ?_)
  rcases h with ⟨rfl,h⟩|⟨c,rfl,hc,h1,h2⟩
  ·have e:joinO U a b=none:=findN_none.2 fun i hi=>by
    have:(leB U a i && leB U b i)=false:=h i hi
    unfold joinP;rw [← Bool.and_assoc,this];rfl
   unfold jI
   rw [e]
   refine Ev.eq (Ev.all (n:=U.length) (g:=fun k i=>spec_l1Join.l1 k U a b (-1) i) (fun _=>true) (go:= -1) (stop:= -1) (by omega) (fun _=>?_) fun i hi _ R hR=>?_) (by split <;> rfl)
   ·refine Ev.succ ?_
    simp only [spec_l1Join.l1]
    repeat(with_reducible first|refine Ev.ip ?_|refine Ev.iq ?_)
    exact Ev.now _
   ·refine Ev.succ ?_
    have va:=O.val ha hi
    have vb:=O.val hb hi
    have hab:(leB U a i && leB U b i)=false:=h i hi
    simp only [spec_l1Join.l1,rdL_nat,rd_nat,rd_row,hra,hrb,va,vb]
    repeat(with_reducible first|refine Ev.ip ?_|refine Ev.iq ?_)
    cases xa:leB U a i with
    |false=>
     repeat(with_reducible first|refine Ev.ip ?_|refine Ev.iq ?_)
     exact hR rfl
    |true=>
     cases xb:leB U b i with
     |false=>
      repeat(with_reducible first|refine Ev.ip ?_|refine Ev.iq ?_)
      exact hR rfl
     |true=>rw [xa,xb] at hab;exact absurd hab (by simp)
  ·have hrc:=O.row c hc
   replace h1:(leB U a c && leB U b c)=true:=h1
   refine Ev.eq (Ev.all (n:=U.length) (g:=fun k i=>spec_l1Join.l1 k U a b c i) (fun d=>!(leB U a d && leB U b d)||leB U c d) (go:=(c:Int)) (stop:= -1) (by omega) (fun _=>?_) fun i hi _ R hR=>?_) ?_
   ·refine Ev.succ ?_
    simp only [spec_l1Join.l1]
    repeat(with_reducible first|refine Ev.ip ?_|refine Ev.iq ?_)
    exact Ev.now _
   ·refine Ev.succ ?_
    have va:=O.val ha hi
    have vb:=O.val hb hi
    have vc:=O.val hc hi
    simp only [spec_l1Join.l1,rdL_nat,rd_nat,rd_row,hra,hrb,hrc,va,vb,vc]
    repeat(with_reducible first|refine Ev.ip ?_|refine Ev.iq ?_)
    cases xa:leB U a i with
    |false=>
     repeat(with_reducible first|refine Ev.ip ?_|refine Ev.iq ?_)
     exact hR (by simp [xa])
    |true=>
     repeat(with_reducible first|refine Ev.ip ?_|refine Ev.iq ?_)
     cases xb:leB U b i with
     |false=>
      repeat(with_reducible first|refine Ev.ip ?_|refine Ev.iq ?_)
      exact hR (by simp [xa,xb])
     |true=>
      repeat(with_reducible first|refine Ev.ip ?_|refine Ev.iq ?_)
      cases xc:leB U c i with
      |false=>
       repeat(with_reducible first|refine Ev.ip ?_|refine Ev.iq ?_)
       exact Ev.now _
      |true=>
       repeat(with_reducible first|refine Ev.ip ?_|refine Ev.iq ?_)
       exact hR (by simp [xc])
   ·unfold jI
    have hP:joinP U a b c=allN U.length fun d=>!(leB U a d && leB U b d)||leB U c d:=by unfold joinP;rw [← Bool.and_assoc,h1];rfl
    rw [← hP]
    cases hp:joinP U a b c with
    |true=>rw [O.join_eq hc hp];rfl
    |false=>
     cases e:joinO U a b with
     |none=>rfl
     |some m=>
      obtain⟨k1,k2⟩:=findN_some e
      obtain⟨q1,q2,q3⟩:=joinP_iff.1 k2
      have:=h2 m k1 (by simp [q1,q2]) fun d hd kd=>by
       rw [Bool.and_eq_true] at kd
       exact q3 d hd kd.1 kd.2
      rw [← this,k2] at hp
      exact absurd hp (by simp)
 ·have hrow:=O.row i hi
  have va:=O.val ha hi
  have vb:=O.val hb hi
  cases xa:leB U a i with
  |false=>
   refine⟨s,h.skip (by simp [xa]),fun K=>Ev.succ ?_⟩
   rw [xa] at va
   simp only [spec_l1Join.l0,rdL_nat,rd_nat,rd_row,hra,hrb,va,vb]
   repeat(with_reducible first|refine Ev.ip ?_|refine Ev.iq ?_)
   exact K
  |true=>
   cases xb:leB U b i with
   |false=>
    refine⟨s,h.skip (by simp [xb]),fun K=>Ev.succ ?_⟩
    rw [xa] at va;rw [xb] at vb
    simp only [spec_l1Join.l0,rdL_nat,rd_nat,rd_row,hra,hrb,va,vb]
    repeat(with_reducible first|refine Ev.ip ?_|refine Ev.iq ?_)
    exact K
   |true=>
    rw [xa] at va;rw [xb] at vb
    by_cases hneg:s= -1
    ·subst hneg
     refine⟨(i:Int),h.first (by simp [xa,xb]),fun K=>Ev.succ ?_⟩
     simp only [spec_l1Join.l0,rdL_nat,rd_nat,rd_row,hra,hrb,va,vb]
     repeat(with_reducible first|refine Ev.ip ?_|refine Ev.iq ?_)
     exact K
    ·obtain⟨c,rfl,hc⟩: ∃c:Nat,s=c∧c<i:=by
      rcases h with ⟨h1,_⟩|⟨c,h1,h2,_⟩
      ·exact absurd h1 hneg
      ·exact⟨c,h1,h2⟩
     have vc:=O.val hi (show c<U.length by omega)
     cases xc:leB U i c with
     |true=>
      refine⟨(i:Int),h.up (fun x y hx hy e1 e2=>O.anti x y hx hy e2 e1) hi (by simp [xa,xb]) xc,fun K=>Ev.succ ?_⟩
      rw [xc] at vc
      simp only [spec_l1Join.l0,rdL_nat,rd_nat,rd_row,hrow,hra,hrb,va,vb,vc]
      repeat(with_reducible first|refine Ev.ip ?_|refine Ev.iq ?_)
      exact K
     |false=>
      refine⟨(c:Int),h.stay hi xc,fun K=>Ev.succ ?_⟩
      rw [xc] at vc
      simp only [spec_l1Join.l0,rdL_nat,rd_nat,rd_row,hrow,hra,hrb,va,vb,vc]
      repeat(with_reducible first|refine Ev.ip ?_|refine Ev.iq ?_)
      exact K
end
end
theorem l1In_eq (a b c : Int) : spec_l1In.f a b c = some (decide (b ≤ a) && decide (a ≤ c)) := by
 unfold spec_l1In.f
 by_cases h : a ≥ b
 ·rw [if_pos h]; simp [h]
 ·rw [if_neg h]; simp [h]
def rowS (U : List (List Int)) (i : Nat) : Bool := (U.getD i []).length == U.length && allN U.length fun j => at2 U i j == 0 || at2 U i j == 1
def relS (U : List (List Int)) (i : Nat) : Bool := allN U.length fun j => !(if i = j then !leB U i j else leB U i j && leB U j i) && allN U.length fun c => !(leB U i j && leB U j c) || leB U i c
theorem orderB_spec (U : List (List Int)) : orderB U = (decide (1 ≤ U.length) && (decide (U.length ≤ 12) && (allN U.length (rowS U) && allN U.length (relS U)))) := by
 rw [Bool.eq_iff_iff,orderB_iff]
 unfold rowS relS
 simp only [Bool.and_eq_true,decide_eq_true_eq,allN_iff,Bool.or_eq_true,beq_iff_eq,Bool.not_eq_true']
 constructor
 ·intro O
  refine⟨O.pos,O.small,fun i hi=>⟨O.row i hi,fun j hj=>O.bit i j hi hj⟩,fun i hi j hj=>⟨?_,fun c hc=>?_⟩⟩
  ·by_cases e:i=j
   ·rw [if_pos e,← e,O.refl i hi];rfl
   ·rw [if_neg e]
    cases k1:leB U i j
    ·rfl
    ·cases k2:leB U j i
     ·rfl
     ·exact absurd (O.anti i j hi hj k1 k2) e
  ·cases k1:leB U i j
   ·simp
   ·cases k2:leB U j c
    ·simp
    ·exact .inr (O.trans i j c hi hj hc k1 k2)
 ·rintro ⟨h1,h2,h3,h4⟩
  refine⟨h1,h2,fun a ha=>(h3 a ha).1,fun a b ha hb=>(h3 a ha).2 b hb,fun a ha=>?_,fun a b ha hb k1 k2=>?_,fun a b c ha hb hc k1 k2=>?_⟩
  ·have:=(h4 a ha a ha).1
   rw [if_pos rfl] at this
   simpa using this
  ·by_cases e:a=b
   ·exact e
   ·have:=(h4 a ha b hb).1
    rw [if_neg e,k1,k2] at this
    exact absurd this (by simp)
  ·rcases (h4 a ha b hb).2 c hc with e|e
   ·rw [k1,k2] at e;exact absurd e (by simp)
   ·exact e
theorem spec_OrderOk.ev (U : List (List Int)) : Ev (fun k => spec_OrderOk.f k U) (orderB U) := by
 rw [orderB_spec]
 unfold spec_OrderOk.f
 refine Ev.pbind (l1In_eq _ _ _) ?_
 by_cases h1:1≤U.length
 ·by_cases h2:U.length≤12
  ·rw [show (decide ((1:Int)≤U.length) && decide ((U.length:Int)≤12))=true by simp;omega]
   simp only [h1,h2,decide_true,Bool.true_and]
   repeat(with_reducible first|refine Ev.ip ?_|refine Ev.iq ?_)
   refine Ev.eq (Ev.all (n:=U.length) (g:=fun k i=>spec_OrderOk.l0 k U U.length i) (rowS U) (go:=allN U.length (relS U)) (stop:=false) (by omega) (fun hr=>?_) fun i hi _ R hR=>?_) (by cases allN U.length (rowS U) <;> rfl)
   ·have row: ∀i,i<U.length→(U.getD i []).length=U.length:=fun i hi=>by
     have:=hr i hi
     unfold rowS at this
     simp only [Bool.and_eq_true,beq_iff_eq] at this
     exact this.1
    have bit: ∀i j,i<U.length→j<U.length→at2 U i j=if leB U i j=true then 1 else 0:=fun i j hi hj=>by
     have:=hr i hi
     unfold rowS at this
     simp only [Bool.and_eq_true,beq_iff_eq,allN_iff,Bool.or_eq_true] at this
     unfold leB
     rcases this.2 j hj with e|e <;> simp [e]
    refine Ev.succ ?_
    simp only [spec_OrderOk.l0]
    repeat(with_reducible first|refine Ev.ip ?_|refine Ev.iq ?_)
    refine Ev.eq (Ev.all (n:=U.length) (g:=fun k i=>spec_OrderOk.l2 k U U.length i) (relS U) (go:=true) (stop:=false) (by omega) (fun _=>?_) fun a ha _ R hR=>?_) (by cases allN U.length _ <;> rfl)
    ·refine Ev.succ ?_
     simp only [spec_OrderOk.l2]
     repeat(with_reducible first|refine Ev.ip ?_|refine Ev.iq ?_)
     exact Ev.now _
    ·refine Ev.succ ?_
     simp only [spec_OrderOk.l2]
     repeat(with_reducible first|refine Ev.ip ?_|refine Ev.iq ?_)
     refine Ev.all (n:=U.length) (g:=fun k i=>spec_OrderOk.l3 k U U.length a i) _ (by omega) (fun h=>?_) fun b hb _ R2 hR2=>?_
     ·refine Ev.succ ?_
      simp only [spec_OrderOk.l3]
      repeat(with_reducible first|refine Ev.ip ?_|refine Ev.iq ?_)
      exact hR (allN_iff.2 h)
     ·have vab:=bit a b ha hb
      have vba:=bit b a hb ha
      have j4:Ev (fun k=>spec_OrderOk.j4 k U U.length a b (if a=b then !leB U a b else leB U a b && leB U b a)) (if(!(if a=b then !leB U a b else leB U a b && leB U b a) && allN U.length fun c=>!(leB U a b && leB U b c)||leB U a c)=true then R2 else false):=by
       refine Ev.succ ?_
       simp only [spec_OrderOk.j4]
       cases hx:(if a=b then !leB U a b else leB U a b && leB U b a) with
       |true=>
        repeat(with_reducible first|refine Ev.ip ?_|refine Ev.iq ?_)
        exact Ev.now _
       |false=>
        rw [hx,Bool.not_false,Bool.true_and] at hR2
        rw [Bool.not_false,Bool.true_and]
        repeat(with_reducible first|refine Ev.ip ?_|refine Ev.iq ?_)
        refine Ev.all (n:=U.length) (g:=fun k i=>spec_OrderOk.l4 k U U.length a b i) _ (by omega) (fun h=>?_) fun c hc _ R3 hR3=>?_
        ·refine Ev.succ ?_
         simp only [spec_OrderOk.l4]
         repeat(with_reducible first|refine Ev.ip ?_|refine Ev.iq ?_)
         exact hR2 (allN_iff.2 h)
        ·refine Ev.succ ?_
         have vbc:=bit b c hb hc
         have vac:=bit a c ha hc
         have ra:=row a ha
         have rb:=row b hb
         simp only [spec_OrderOk.l4,rdL_nat,rd_nat,rd_row,ra,rb,vab,vbc,vac]
         repeat(with_reducible first|refine Ev.ip ?_|refine Ev.iq ?_)
         cases f1:leB U a b with
         |false=>
          repeat(with_reducible first|refine Ev.ip ?_|refine Ev.iq ?_)
          exact hR3 (by simp [f1])
         |true=>
          repeat(with_reducible first|refine Ev.ip ?_|refine Ev.iq ?_)
          cases f2:leB U b c with
          |false=>
           repeat(with_reducible first|refine Ev.ip ?_|refine Ev.iq ?_)
           exact hR3 (by simp [f2])
          |true=>
           repeat(with_reducible first|refine Ev.ip ?_|refine Ev.iq ?_)
           cases f3:leB U a c with
           |false=>
            repeat(with_reducible first|refine Ev.ip ?_|refine Ev.iq ?_)
            exact Ev.now _
           |true=>
            repeat(with_reducible first|refine Ev.ip ?_|refine Ev.iq ?_)
            exact hR3 (by simp [f3])
      refine Ev.succ ?_
      have ra:=row a ha
      have rb:=row b hb
      simp only [spec_OrderOk.l3,rdL_nat,rd_nat,rd_row,ra,rb,vab,vba]
      repeat(with_reducible first|refine Ev.ip ?_|refine Ev.iq ?_)
      by_cases e:a=b
      ·rw [if_pos e] at j4 ⊢
       repeat(with_reducible first|refine Ev.ip ?_|refine Ev.iq ?_)
       cases f1:leB U a b with
       |false=>
        rw [f1] at j4
        repeat(with_reducible first|refine Ev.ip ?_|refine Ev.iq ?_)
        exact j4
       |true=>
        rw [f1] at j4
        repeat(with_reducible first|refine Ev.ip ?_|refine Ev.iq ?_)
        exact j4
      ·rw [if_neg e] at j4 ⊢
       repeat(with_reducible first|refine Ev.ip ?_|refine Ev.iq ?_)
       cases f1:leB U a b with
       |false=>
        rw [f1] at j4
        repeat(with_reducible first|refine Ev.ip ?_|refine Ev.iq ?_)
        exact j4
       |true=>
        rw [f1] at j4
        repeat(with_reducible first|refine Ev.ip ?_|refine Ev.iq ?_)
        rw [show ((if leB U b a=true then(1:Int) else 0)==1)=leB U b a by cases leB U b a <;> rfl]
        exact j4
   ·refine Ev.succ ?_
    simp only [spec_OrderOk.l0,rdL_nat]
    repeat(with_reducible first|refine Ev.ip ?_|refine Ev.iq ?_)
    by_cases e1:(U.getD i []).length=U.length
    ·repeat(with_reducible first|refine Ev.ip ?_|refine Ev.iq ?_)
     refine Ev.eq (Ev.all (n:=U.length) (g:=fun k j=>spec_OrderOk.l1 k U U.length i j) (fun j=>at2 U i j==0||at2 U i j==1) (go:=R) (stop:=false) (by omega) (fun h=>?_) fun j hj _ R2 hR2=>?_) (by unfold rowS;simp [-List.getD_eq_getElem?_getD,e1])
     ·refine Ev.succ ?_
      simp only [spec_OrderOk.l1]
      repeat(with_reducible first|refine Ev.ip ?_|refine Ev.iq ?_)
      exact hR (by unfold rowS;simp only [e1,BEq.rfl,Bool.true_and];exact allN_iff.2 h)
     ·refine Ev.succ ?_
      simp only [spec_OrderOk.l1,rdL_nat,rd_nat,rd_row,l1In_eq]
      repeat(with_reducible first|refine Ev.ip ?_|refine Ev.iq ?_)
      refine Ev.pbind rfl ?_
      have e:(decide (0≤at2 U i j) && decide (at2 U i j≤1))=(at2 U i j==0||at2 U i j==1):=by
       rw [Bool.eq_iff_iff];simp only [Bool.and_eq_true,decide_eq_true_eq,Bool.or_eq_true,beq_iff_eq];omega
      rw [e]
      cases hb:(at2 U i j==0||at2 U i j==1) with
      |true=>
       repeat(with_reducible first|refine Ev.ip ?_|refine Ev.iq ?_)
       exact hR2 hb
      |false=>
       repeat(with_reducible first|refine Ev.ip ?_|refine Ev.iq ?_)
       exact Ev.now _
    ·repeat(with_reducible first|refine Ev.ip ?_|refine Ev.iq ?_)
     exact Ev.eq (Ev.now _) (by unfold rowS;simp [-List.getD_eq_getElem?_getD,e1])
  ·rw [show (decide ((1:Int)≤U.length) && decide ((U.length:Int)≤12))=false by simp;omega]
   simp only [h1,h2,decide_true,decide_false,Bool.true_and,Bool.false_and]
   repeat(with_reducible first|refine Ev.ip ?_|refine Ev.iq ?_)
   exact Ev.now _
 ·rw [show (decide ((1:Int)≤U.length) && decide ((U.length:Int)≤12))=false by simp;omega]
  simp only [h1,decide_false,Bool.false_and]
  repeat(with_reducible first|refine Ev.ip ?_|refine Ev.iq ?_)
  exact Ev.now _
theorem meetO_comm (U : List (List Int)) (a b : Nat) : meetO U a b = meetO U b a := by
 unfold meetO
 refine findN_congr fun c _=>?_
 rw [Bool.eq_iff_iff,meetP_iff,meetP_iff]
 constructor <;> rintro ⟨h1,h2,h3⟩ <;> exact⟨h2,h1,fun d hd k1 k2=>h3 d hd k2 k1⟩
theorem joinO_comm (U : List (List Int)) (a b : Nat) : joinO U a b = joinO U b a := by
 unfold joinO
 refine findN_congr fun c _=>?_
 rw [Bool.eq_iff_iff,joinP_iff,joinP_iff]
 constructor <;> rintro ⟨h1,h2,h3⟩ <;> exact⟨h2,h1,fun d hd k1 k2=>h3 d hd k2 k1⟩
theorem lattice_half {U : List (List Int)} (O : Order U) : (allN U.length fun a => allN U.length fun b => (meetO U a b).isSome && (joinO U a b).isSome) = allN U.length fun a => allN a fun b => (meetO U a b).isSome && (joinO U a b).isSome := by
 rw [Bool.eq_iff_iff]
 simp only [allN_iff]
 constructor
 ·intro h a ha b hb
  exact h a ha b (by omega)
 ·intro h a ha b hb
  rcases Nat.lt_trichotomy b a with hlt|rfl|hlt
  ·exact h a ha b hlt
  ·rw [O.meet_eq (a:=b) (b:=b) hb (meetP_iff.2 ⟨O.refl b hb,O.refl b hb,fun d _ h _=>h⟩),O.join_eq (a:=b) (b:=b) hb (joinP_iff.2 ⟨O.refl b hb,O.refl b hb,fun d _ h _=>h⟩)]
   rfl
  ·rw [meetO_comm,joinO_comm]
   exact h b hb a hlt
theorem spec_LatticeOk.ev (U : List (List Int)) : Ev (fun k => spec_LatticeOk.f k U) (latticeB U) := by
 unfold spec_LatticeOk.f latticeB
 have ho:=spec_OrderOk.ev U
 cases hb:orderB U with
 |false=>
  rw [hb] at ho
  have fin:Ev (fun k=>spec_LatticeOk.j1 k U 0 false) false:=by
   refine Ev.succ ?_
   simp only [spec_LatticeOk.j1]
   repeat(with_reducible first|refine Ev.ip ?_|refine Ev.iq ?_)
   exact Ev.bind ho (Ev.now _)
  refine Ev.succ ?_
  simp only [spec_LatticeOk.l0]
  by_cases h0:(0:Int)<(U.length:Int)
  ·repeat(with_reducible first|refine Ev.ip ?_|refine Ev.iq ?_)
   exact Ev.bind ho fin
  ·repeat(with_reducible first|refine Ev.ip ?_|refine Ev.iq ?_)
   exact fin
 |true=>
  rw [hb] at ho
  have O:=orderB_iff.1 hb
  have hs:=O.small
  refine Ev.eq (Ev.all (n:=U.length) (g:=fun k i=>spec_LatticeOk.l0 k U i) (fun a=>allN a fun b=>(meetO U a b).isSome && (joinO U a b).isSome) (go:=true) (stop:=false) (by omega) (fun _=>?_) fun a ha _ R hR=>?_) (by rw [Bool.true_and,lattice_half O];cases allN U.length _ <;> rfl)
  ·refine Ev.succ ?_
   simp only [spec_LatticeOk.l0]
   repeat(with_reducible first|refine Ev.ip ?_|refine Ev.iq ?_)
   refine Ev.succ ?_
   simp only [spec_LatticeOk.j1]
   repeat(with_reducible first|refine Ev.ip ?_|refine Ev.iq ?_)
   exact Ev.bind ho (Ev.now _)
  ·refine Ev.succ ?_
   simp only [spec_LatticeOk.l0]
   repeat(with_reducible first|refine Ev.ip ?_|refine Ev.iq ?_)
   refine Ev.bind ho ?_
   refine Ev.succ ?_
   simp only [spec_LatticeOk.j1]
   repeat(with_reducible first|refine Ev.ip ?_|refine Ev.iq ?_)
   refine Ev.all (n:=a) (g:=fun k i=>spec_LatticeOk.l1 k U a i) _ (by omega) (fun h=>?_) fun b hb' _ R2 hR2=>?_
   ·refine Ev.succ ?_
    simp only [spec_LatticeOk.l1]
    repeat(with_reducible first|refine Ev.ip ?_|refine Ev.iq ?_)
    exact hR (allN_iff.2 h)
   ·refine Ev.succ ?_
    have hb:b<U.length:=by omega
    simp only [spec_LatticeOk.l1]
    repeat(with_reducible first|refine Ev.ip ?_|refine Ev.iq ?_)
    refine Ev.bind (spec_l1Meet.ev O ha hb) ?_
    unfold mI
    cases em:meetO U a b with
    |none=>
     refine Ev.ite_pos (by simp [optI]) ?_
     exact Ev.eq (Ev.now _) (by simp)
    |some m=>
     refine Ev.ite_neg (by have:=optI_neg (some 0);simp [optI]) ?_
     refine Ev.bind (spec_l1Join.ev O ha hb) ?_
     unfold jI
     cases ej:joinO U a b with
     |none=>
      refine Ev.ite_pos (by simp [optI]) ?_
      exact Ev.eq (Ev.now _) (by simp)
     |some j=>
      refine Ev.ite_neg (by have:=optI_neg (some 0);simp [optI]) ?_
      exact Ev.eq (hR2 (by simp [em,ej])) (by simp)
theorem spec_LeastOf.ev (U : List (List Int)) : Ev (fun k => spec_LeastOf.f k U) (if orderB U = true then (optI (leastO U), (leastO U).isSome) else (-1, false)) := by
 unfold spec_LeastOf.f
 have ho:=spec_OrderOk.ev U
 cases hb:orderB U with
 |false=>
  rw [hb] at ho
  have fin:Ev (fun k=>spec_LeastOf.j1 k U 0 false) (-1,false):=by
   refine Ev.succ ?_
   simp only [spec_LeastOf.j1]
   repeat(with_reducible first|refine Ev.ip ?_|refine Ev.iq ?_)
   exact Ev.now _
  repeat(with_reducible first|refine Ev.ip ?_|refine Ev.iq ?_)
  refine Ev.succ ?_
  simp only [spec_LeastOf.l0]
  by_cases h0:(0:Int)<(U.length:Int)
  ·repeat(with_reducible first|refine Ev.ip ?_|refine Ev.iq ?_)
   exact Ev.eq (Ev.bind ho fin) (by simp)
  ·repeat(with_reducible first|refine Ev.ip ?_|refine Ev.iq ?_)
   exact Ev.eq fin (by simp)
 |true=>
  rw [hb] at ho
  have O:=orderB_iff.1 hb
  have hs:=O.small
  refine Ev.eq (Ev.find (n:=U.length) (g:=fun k i=>spec_LeastOf.l0 k U i) (fun a=>allN U.length fun b=>leB U a b) (none':=(-1,false)) (some':=fun i=>((i:Int),true)) (by omega) (fun _=>?_) fun a ha _ R hR=>?_) (by rw [if_pos rfl];unfold leastO;cases findN U.length _ <;> rfl)
  ·refine Ev.succ ?_
   simp only [spec_LeastOf.l0]
   repeat(with_reducible first|refine Ev.ip ?_|refine Ev.iq ?_)
   refine Ev.succ ?_
   simp only [spec_LeastOf.j1]
   repeat(with_reducible first|refine Ev.ip ?_|refine Ev.iq ?_)
   exact Ev.now _
  ·refine Ev.succ ?_
   simp only [spec_LeastOf.l0]
   repeat(with_reducible first|refine Ev.ip ?_|refine Ev.iq ?_)
   refine Ev.bind ho ?_
   refine Ev.succ ?_
   simp only [spec_LeastOf.j1]
   repeat(with_reducible first|refine Ev.ip ?_|refine Ev.iq ?_)
   have key: ∀d i,i+d=U.length→ ∀fl:Bool,(fl && allFrom U.length (fun b=>leB U a b) i)=allN U.length (fun b=>leB U a b)→Ev (fun k=>spec_LeastOf.l1 k U a fl i) (if allN U.length (fun b=>leB U a b)=true then((a:Int),true) else R):=by
    intro d
    induction d with
    |zero=>
     intro i hi fl hfl
     refine Ev.succ ?_
     simp only [spec_LeastOf.l1]
     rw [allFrom_ge (by omega),Bool.and_true] at hfl
     rw [hfl]
     repeat(with_reducible first|refine Ev.ip ?_|refine Ev.iq ?_)
     cases ha':allN U.length (fun b=>leB U a b) with
     |true=>
      repeat(with_reducible first|refine Ev.ip ?_|refine Ev.iq ?_)
      exact Ev.now _
     |false=>
      repeat(with_reducible first|refine Ev.ip ?_|refine Ev.iq ?_)
      exact hR ha'
    |succ d ih=>
     intro i hi fl hfl
     rw [allFrom_lt (by omega)] at hfl
     refine Ev.succ ?_
     have rl:=O.row a ha
     simp only [spec_LeastOf.l1,rdL_nat,rd_nat,rd_row,wrap_nat (show i<4611686018427387904 by omega),rl]
     repeat(with_reducible first|refine Ev.ip ?_|refine Ev.iq ?_)
     cases fl with
     |true=>
      repeat(with_reducible first|refine Ev.ip ?_|refine Ev.iq ?_)
      exact ih (i+1) (by omega) _ hfl
     |false=>
      repeat(with_reducible first|refine Ev.ip ?_|refine Ev.iq ?_)
      exact ih (i+1) (by omega) _ (by rw [← hfl];simp)
   exact key U.length 0 (by omega) true (by rw [allFrom_zero,Bool.true_and])
def negS (U : List (List Int)) (N : List Int) (a : Nat) : Bool :=
 at1 N (at1 N a).toNat==(a:Int) && (mI U a (at1 N a).toNat==optI (leastO U) && allN U.length fun b=>!leB U a b||leB U (at1 N b).toNat (at1 N a).toNat)
theorem logicB_spec (U : List (List Int)) (N : List Int) : logicB U N = (latticeB U && (N.length == U.length && (allN U.length (fun a => decide (0 ≤ at1 N a) && decide (at1 N a < U.length)) && allN U.length (negS U N)))) := by
 unfold logicB negS mI
 have e: ∀x y:Option Nat,(optI x==optI y)=(x==y):=by
  intro x y
  rw [Bool.eq_iff_iff,beq_iff_eq,beq_iff_eq]
  exact⟨optI_inj,fun h=>by rw [h]⟩
 simp only [e]
theorem spec_LogicOk.ev (U : List (List Int)) (N : List Int) : Ev (fun k => spec_LogicOk.f k U N) (logicB U N) := by
 rw [logicB_spec]
 unfold spec_LogicOk.f
 refine Ev.bind (spec_LatticeOk.ev U) ?_
 have jf:Ev (fun k=>spec_LogicOk.j0 k U.length true U N) false:=by
  refine Ev.succ ?_
  simp only [spec_LogicOk.j0]
  repeat(with_reducible first|refine Ev.ip ?_|refine Ev.iq ?_)
  exact Ev.now _
 cases hl:latticeB U with
 |false=>
  repeat(with_reducible first|refine Ev.ip ?_|refine Ev.iq ?_)
  exact Ev.eq jf (by simp)
 |true=>
  have O:=latticeB_order hl
  have hs:=O.small
  repeat(with_reducible first|refine Ev.ip ?_|refine Ev.iq ?_)
  by_cases hn:N.length=U.length
  ·rw [show ((N.length:Int) !=(U.length:Int))=false by rw [hn];simp,show (N.length==U.length)=true by simp [hn]]
   simp only [Bool.true_and]
   refine Ev.succ ?_
   simp only [spec_LogicOk.j0]
   repeat(with_reducible first|refine Ev.ip ?_|refine Ev.iq ?_)
   refine Ev.eq (Ev.all (n:=U.length) (g:=fun k i=>spec_LogicOk.l0 k U.length i U N) (fun a=>decide (0≤at1 N a) && decide (at1 N a<U.length)) (go:=allN U.length (negS U N)) (stop:=false) (by omega) (fun hr=>?_) fun i hi _ R hR=>?_) (by cases allN U.length fun a=>decide (0≤at1 N a) && decide (at1 N a<U.length) <;> rfl)
   ·have ran: ∀a,a<U.length→ ∃m:Nat,at1 N a=m∧m<U.length:=fun a ha=>by
     have:=hr a ha
     simp only [Bool.and_eq_true,decide_eq_true_eq] at this
     exact⟨(at1 N a).toNat,by omega,by omega⟩
    refine Ev.succ ?_
    simp only [spec_LogicOk.l0]
    repeat(with_reducible first|refine Ev.ip ?_|refine Ev.iq ?_)
    refine Ev.bind (spec_LeastOf.ev U) ?_
    rw [if_pos (orderB_iff.2 O)]
    refine Ev.eq (Ev.all (n:=U.length) (g:=fun k i=>spec_LogicOk.l1 k U.length (optI (leastO U)) i U N) (negS U N) (go:=true) (stop:=false) (by omega) (fun _=>?_) fun a ha _ R hR=>?_) (by cases allN U.length (negS U N) <;> rfl)
    ·refine Ev.succ ?_
     simp only [spec_LogicOk.l1]
     repeat(with_reducible first|refine Ev.ip ?_|refine Ev.iq ?_)
     exact Ev.now _
    ·obtain⟨m,hm,hmn⟩:=ran a ha
     have fal:Ev (fun k=>spec_LogicOk.j3 k U.length (optI (leastO U)) a true U N) false:=by
      refine Ev.succ ?_
      simp only [spec_LogicOk.j3]
      repeat(with_reducible first|refine Ev.ip ?_|refine Ev.iq ?_)
      exact Ev.now _
     refine Ev.succ ?_
     simp only [spec_LogicOk.l1,rd_nat,hm]
     have hneg:negS U N a=(at1 N m==(a:Int) && (mI U a m==optI (leastO U) && allN U.length fun b=>!leB U a b||leB U (at1 N b).toNat m)):=by unfold negS;rw [hm,Int.toNat_natCast]
     repeat(with_reducible first|refine Ev.ip ?_|refine Ev.iq ?_)
     by_cases e1:at1 N m=a
     ·repeat(with_reducible first|refine Ev.ip ?_|refine Ev.iq ?_)
      refine Ev.bind (spec_l1Meet.ev O ha hmn) ?_
      by_cases e2:mI U a m=optI (leastO U)
      ·rw [show (mI U a m !=optI (leastO U))=false by simp [e2]]
       refine Ev.succ ?_
       simp only [spec_LogicOk.j3]
       repeat(with_reducible first|refine Ev.ip ?_|refine Ev.iq ?_)
       have hneg2:negS U N a=allN U.length fun b=>!leB U a b||leB U (at1 N b).toNat m:=by rw [hneg,show (at1 N m==(a:Int))=true by simp [e1],show (mI U a m==optI (leastO U))=true by simp [e2],Bool.true_and,Bool.true_and]
       rw [hneg2]
       refine Ev.all (n:=U.length) (g:=fun k i=>spec_LogicOk.l2 k U.length (optI (leastO U)) a i U N) _ (by omega) (fun h=>?_) fun b hb _ R3 hR3=>?_
       ·refine Ev.succ ?_
        simp only [spec_LogicOk.l2]
        repeat(with_reducible first|refine Ev.ip ?_|refine Ev.iq ?_)
        exact hR (by rw [hneg2];exact allN_iff.2 h)
       ·obtain⟨q,hq,hqn⟩:=ran b hb
        have vab:=O.val ha hb
        have vqm:=O.val hqn hmn
        have ra:=O.row a ha
        have rq:=O.row q hqn
        refine Ev.succ ?_
        simp only [spec_LogicOk.l2,rdL_nat,rd_nat,rd_row,hq,hm,ra,rq,vab,vqm,Int.toNat_natCast]
        rw [hq,Int.toNat_natCast] at hR3
        repeat(with_reducible first|refine Ev.ip ?_|refine Ev.iq ?_)
        cases f1:leB U a b with
        |false=>
         repeat(with_reducible first|refine Ev.ip ?_|refine Ev.iq ?_)
         exact hR3 (by simp [f1])
        |true=>
         repeat(with_reducible first|refine Ev.ip ?_|refine Ev.iq ?_)
         cases f2:leB U q m with
         |false=>
          repeat(with_reducible first|refine Ev.ip ?_|refine Ev.iq ?_)
          exact Ev.now _
         |true=>
          repeat(with_reducible first|refine Ev.ip ?_|refine Ev.iq ?_)
          exact hR3 (by simp [f2])
      ·rw [show (mI U a m !=optI (leastO U))=true by simp [e2]]
       exact Ev.eq fal (by rw [hneg];simp [e2])
     ·repeat(with_reducible first|refine Ev.ip ?_|refine Ev.iq ?_)
      exact Ev.eq fal (by rw [hneg];simp [e1])
   ·refine Ev.succ ?_
    simp only [spec_LogicOk.l0,rd_nat,l1In_eq]
    repeat(with_reducible first|refine Ev.ip ?_|refine Ev.iq ?_)
    refine Ev.pbind rfl ?_
    have e:(decide (0≤at1 N i) && decide (at1 N i≤wrap64 ((U.length:Int) - 1)))=(decide (0≤at1 N i) && decide (at1 N i<U.length)):=by
     rw [wrap_small (by omega) (by omega)]
     congr 1
     rw [decide_eq_decide];omega
    rw [e]
    cases hb:(decide (0≤at1 N i) && decide (at1 N i<U.length)) with
    |true=>
     repeat(with_reducible first|refine Ev.ip ?_|refine Ev.iq ?_)
     exact hR hb
    |false=>
     repeat(with_reducible first|refine Ev.ip ?_|refine Ev.iq ?_)
     exact Ev.now _
  ·rw [show ((N.length:Int) !=(U.length:Int))=true by rw [bne_iff_ne];omega,show (N.length==U.length)=false by simp [hn]]
   exact Ev.eq jf (by simp)
theorem spec_NoOf.ev (U : List (List Int)) (N : List Int) : Ev (fun k => spec_NoOf.f k U N) (if logicB U N = true then noI U else -1) := by
 unfold spec_NoOf.f
 refine Ev.bind (spec_LogicOk.ev U N) ?_
 cases hl:logicB U N with
 |false=>
  repeat(with_reducible first|refine Ev.ip ?_|refine Ev.iq ?_)
  exact Ev.now _
 |true=>
  have L:=logicB_iff.1 hl
  have ho:orderB U=true:=orderB_iff.2 L.toOrder
  repeat(with_reducible first|refine Ev.ip ?_|refine Ev.iq ?_)
  refine Ev.bind (spec_LeastOf.ev U) ?_
  rw [ho]
  exact Ev.now _
section
theorem rd_in {U : List (List Int)} {N : List Int} (_L : Logic U N) {a : Int} (ha : In U a) : rd N a = notI N a := by
 obtain⟨x,rfl⟩: ∃x:Nat,a=x:=⟨a.toNat,by have:=ha.1;omega⟩
 rw [rd_nat];rfl
section
variable {U : List (List Int)} {N : List Int} (L : Logic U N)
include L
theorem meet_in {a b : Int} (ha : In U a) (hb : In U b) : Ev (fun k => spec_l1Meet.f k U a b) (andI U a b) := by
 obtain⟨x,rfl⟩: ∃x:Nat,a=x:=⟨a.toNat,by have:=ha.1;omega⟩
 obtain⟨y,rfl⟩: ∃y:Nat,b=y:=⟨b.toNat,by have:=hb.1;omega⟩
 exact spec_l1Meet.ev L.toOrder (by have:=ha.2;omega) (by have:=hb.2;omega)
theorem join_in {a b : Int} (ha : In U a) (hb : In U b) : Ev (fun k => spec_l1Join.f k U a b) (orI U a b) := by
 obtain⟨x,rfl⟩: ∃x:Nat,a=x:=⟨a.toNat,by have:=ha.1;omega⟩
 obtain⟨y,rfl⟩: ∃y:Nat,b=y:=⟨b.toNat,by have:=hb.1;omega⟩
 exact spec_l1Join.ev L.toOrder (by have:=ha.2;omega) (by have:=hb.2;omega)
end
end
theorem cut_size (s : ByteArray) {i m : Nat} (h : m ≤ s.size) : (s.extract i m).size = m - i := by rw [ByteArray.size_extract]; omega
theorem cut_cut (s : ByteArray) {i m a b : Nat} (h : m ≤ s.size) (h2 : i + b ≤ m) : (s.extract i m).extract a b = s.extract (i + a) (i + b) := by
 rw [ByteArray.extract_extract]
 congr 1
 omega
theorem cut_next (s : ByteArray) {i m : Nat} (h : i < m) (h2 : m ≤ s.size) : (s.extract i m).extract 1 (s.extract i m).size = s.extract (i + 1) m := by
 rw [cut_size s h2,cut_cut s h2 (by omega)]
 congr 1
 omega
theorem cut_bt (s : ByteArray) {i m j : Nat} (h : i + j < m) (h2 : m ≤ s.size) : bt (s.extract i m) (j : Int) = bt s ((i + j : Nat) : Int) := by
 have h1:j<(s.extract i m).size:=by rw [cut_size s h2];omega
 have e1:=bt_at (s.extract i m) (j:Int) (by rw [Int.toNat_natCast];exact h1)
 have e2:=bt_at s ((i+j:Nat):Int) (by rw [Int.toNat_natCast];omega)
 rw [← e1,← e2]
 have e3:(s.extract i m)[j]'h1=s[i+j]'(by omega):=ByteArray.getElem_extract h1
 have e4:(s[((i+j:Nat):Int).toNat]'(by rw [Int.toNat_natCast];omega))=s[i+j]'(by omega):=by congr 1
 have e5:((s.extract i m)[(j:Int).toNat]'(by rw [Int.toNat_natCast];exact h1))=(s.extract i m)[j]'h1:=by congr 1
 rw [e4,e5,e3]
theorem rdF_cut (s : ByteArray) : ∀ (k i : Nat) (f : Fm) (r : ByteArray), i ≤ s.size → rdF k (sfx s i) = some (f, r) →
 ∃j,i<j∧j≤s.size∧r=sfx s j∧ ∀m,j≤m→m≤s.size→rdF k (s.extract i m)=some (f,s.extract j m)
 |0,_,_,_,_,h=>by simp [rdF] at h
 |k+1,i,f,r,hi,h=>by
  have ih:=rdF_cut s k
  by_cases hlt:i<s.size
  ·have b0: ∀m,i<m→m≤s.size→bt (s.extract i m) 0=bt s (i:Int):=fun m h1 h2=>cut_bt s (j:=0) (by omega) h2
   by_cases hl:isLeaf (bt s i)
   ·rw [rdF_leaf hlt hl] at h
    cases h
    refine⟨i+1,by omega,by omega,rfl,fun m h1 h2=>?_⟩
    simp only [rdF]
    rw [if_neg (by rw [cut_size s h2];omega),b0 m (by omega) h2,if_pos hl,cut_next s (by omega) h2]
   ·by_cases h33:bt s (i:Int)=33
    ·rw [rdF_neg hlt h33] at h
     rcases hrd:rdF k (sfx s (i+1)) with _|⟨f1,r1⟩
     ·rw [hrd] at h;cases h
     rw [hrd] at h
     cases h
     obtain⟨j,a,b,c,d⟩:=ih (i+1) _ _ (by omega) hrd
     refine⟨j,by omega,b,c,fun m h1 h2=>?_⟩
     simp only [rdF]
     rw [if_neg (by rw [cut_size s h2];omega),b0 m (by omega) h2,if_neg hl,if_pos h33,cut_next s (by omega) h2,d m h1 h2]
    ·by_cases h40:bt s (i:Int)=40
     ·rw [rdF_par hlt h40] at h
      rcases hrd:rdF k (sfx s (i+1)) with _|⟨f1,r1⟩
      ·rw [hrd] at h;cases h
      rw [hrd] at h
      simp only [Option.bind_some] at h
      obtain⟨j,a,b,rfl,d⟩:=ih (i+1) _ _ (by omega) hrd
      split at h
      ·cases h
      rename_i hj
      rw [sfx_size] at hj
      have hj':j<s.size:=by omega
      rw [sfx_bt s hj',sfx_next s hj'] at h
      split at h
      ·rename_i ho
       rcases hrd2:rdF k (sfx s (j+1)) with _|⟨g,q⟩
       ·rw [hrd2] at h;cases h
       rw [hrd2] at h
       simp only [Option.bind_some] at h
       obtain⟨n,a2,b2,rfl,d2⟩:=ih (j+1) _ _ (by omega) hrd2
       split at h
       ·cases h
       rename_i hn
       rw [sfx_size] at hn
       have hn':n<s.size:=by omega
       rw [sfx_bt s hn',sfx_next s hn'] at h
       split at h
       ·rename_i h41
        cases h
        refine⟨n+1,by omega,by omega,rfl,fun m h1 h2=>?_⟩
        have c1:bt (s.extract j m) 0=bt s (j:Int):=cut_bt s (j:=0) (by omega) h2
        have c2:bt (s.extract n m) 0=bt s (n:Int):=cut_bt s (j:=0) (by omega) h2
        simp only [rdF]
        rw [if_neg (by rw [cut_size s h2];omega),b0 m (by omega) h2,if_neg hl,if_neg h33,if_pos h40,cut_next s (by omega) h2,d m (by omega) h2]
        simp only []
        rw [if_neg (by rw [cut_size s h2];omega),c1,if_pos ho,cut_next s (by omega) h2,d2 m (by omega) h2]
        simp only []
        rw [if_neg (by rw [cut_size s h2];omega),c2,if_pos h41,cut_next s (by omega) h2]
       ·cases h
      ·cases h
     ·rw [rdF_other hlt hl h33 h40] at h
      cases h
  ·rw [rdF_end (by omega)] at h
   cases h
theorem l10Value_ev {U : List (List Int)} {N : List Int} (L : Logic U N) {a b c : Int} (ia : In U a) (ib : In U b) (ic : In U c) :
 ∀(k:Nat) (s:ByteArray) (f:Fm) (r:ByteArray),s.size≤1000000→s.size≤k→rdF k s=some (f,r)→r.size=0→Ev (fun m=>spec_l10Value.f m U N s a b c (noI U)) (valF U N a b c f):=by
 intro k
 induction k with
 |zero=>intro s f r _ _ h;simp [rdF] at h
 |succ k ih=>
  intro s f r hs hk h hr
  have hsf:=sfx_zero s
  have i0:=L.in_no
  by_cases h0:s.size=0
  ·rw [← hsf,rdF_end (by omega)] at h
   cases h
  ·have hlt:0<s.size:=by omega
   rw [← hsf] at h
   by_cases hl:isLeaf (bt s (0:Nat))
   ·rw [rdF_leaf hlt hl] at h
    cases h
    refine Ev.succ ?_
    simp only [spec_l10Value.f,rd_in L i0]
    unfold isLeaf at hl
    have i1:=i0.1
    have i2:=i0.2
    rw [← L.len] at i2
    show Ev _ (if bt s 0=97 then a else if bt s 0=98 then b else if bt s 0=99 then c else if bt s 0=48 then noI U else yesI U N)
    have hl':bt s 0=97∨bt s 0=98∨bt s 0=99∨bt s 0=48∨bt s 0=49:=hl
    clear hl
    rcases hl' with hl|hl|hl|hl|hl
    all_goals
     rw [hl]
     repeat(with_reducible first|refine Ev.ip ?_|refine Ev.iq ?_)
     exact Ev.now _
   ·by_cases h33:bt s ((0:Nat):Int)=33
    ·rw [rdF_neg hlt h33] at h
     rcases hrd:rdF k (sfx s (0+1)) with _|⟨f1,r1⟩
     ·rw [hrd] at h;cases h
     rw [hrd] at h
     cases h
     have hI:=ih (s.extract 1 s.size) f1 _ (by rw [ext_size];omega) (by rw [ext_size];omega) hrd hr
     have hv:=in_val L ia ib ic f1
     have hv1:=hv.1
     have hv2:=hv.2
     rw [← L.len] at hv2
     refine Ev.succ ?_
     have e33:bt s 0=33:=h33
     simp only [spec_l10Value.f]
     repeat(with_reducible first|refine Ev.ip ?_|refine Ev.iq ?_)
     refine Ev.bind hI ?_
     rw [rd_in L hv]
     repeat(with_reducible first|refine Ev.ip ?_|refine Ev.iq ?_)
     exact Ev.now _
    ·by_cases h40:bt s ((0:Nat):Int)=40
     ·rw [rdF_par hlt h40] at h
      rcases hrd:rdF k (sfx s (0+1)) with _|⟨f1,r1⟩
      ·rw [hrd] at h;cases h
      rw [hrd] at h
      simp only [Option.bind_some] at h
      obtain⟨j,ja,jb,rfl,jd⟩:=rdF_cut s k (0+1) _ _ (by omega) hrd
      split at h
      ·cases h
      rename_i hj
      rw [sfx_size] at hj
      have hj':j<s.size:=by omega
      rw [sfx_bt s hj',sfx_next s hj'] at h
      split at h
      ·rename_i ho
       rcases hrd2:rdF k (sfx s (j+1)) with _|⟨g,q⟩
       ·rw [hrd2] at h;cases h
       rw [hrd2] at h
       simp only [Option.bind_some] at h
       obtain⟨n,na,nb,rfl,nd⟩:=rdF_cut s k (j+1) _ _ (by omega) hrd2
       split at h
       ·cases h
       rename_i hn
       rw [sfx_size] at hn
       have hn':n<s.size:=by omega
       rw [sfx_bt s hn',sfx_next s hn'] at h
       split at h
       ·rename_i h41
        cases h
        rw [sfx_size] at hr
        have hns:n=s.size - 1:=by omega
        have hE:=l10End_ev s hs k 1 (by omega) (by omega)
        have e1:endV s (rdF k (sfx s 1))=(j:Int):=by
         have h2:rdF k (sfx s 1)=some (f1,sfx s j):=hrd
         rw [h2]
         show ((s.size - (sfx s j).size:Nat):Int)=_
         rw [sfx_size];omega
        rw [e1] at hE
        have x1:=ih (s.extract 1 j) f1 _ (by rw [cut_size s jb];omega) (by rw [cut_size s jb];omega) (jd j (Nat.le_refl _) jb) (by rw [cut_size s jb];omega)
        have x2:=ih (s.extract (j+1) n) g _ (by rw [cut_size s nb];omega) (by rw [cut_size s nb];omega) (nd n (Nat.le_refl _) nb) (by rw [cut_size s nb];omega)
        have hv:=in_val L ia ib ic f1
        have hu:=in_val L ia ib ic g
        have e40:bt s 0=40:=h40
        have g0:(0:Int)<(s.size:Int):=by omega
        have g1:(1:Int)≤(j:Int):=by omega
        have g2:(j:Int)≤(s.size:Int):=by omega
        have g3:(0:Int)≤((j+1:Nat):Int):=by omega
        have g4:((j+1:Nat):Int)≤(n:Int):=by omega
        have g5:(n:Int)≤(s.size:Int):=by omega
        have g6:(0:Int)≤(j:Int):=by omega
        have g7:(j:Int)<(s.size:Int):=by omega
        have w1:wrap64 ((j:Int)+1)=((j+1:Nat):Int):=wrap_nat (by omega)
        have w2:wrap64 ((s.size:Int) - 1)=(n:Int):=by rw [show (s.size:Int) - 1=(n:Int) by omega];exact wrap_small (by omega) (by omega)
        clear hs hk hr hns hn hn' hj hj' ja jb na nb jd nd h0 hlt h41
        refine Ev.succ ?_
        simp only [spec_l10Value.f]
        repeat(with_reducible first|refine Ev.ip ?_|refine Ev.iq ?_)
        refine Ev.bind hE ?_
        simp only [w1,w2,Int.toNat_natCast]
        repeat(with_reducible first|refine Ev.ip ?_|refine Ev.iq ?_)
        refine Ev.bind x1 ?_
        repeat(with_reducible first|refine Ev.ip ?_|refine Ev.iq ?_)
        refine Ev.bind x2 ?_
        show Ev _ (if bt s (j:Int)=38 then andI U (valF U N a b c f1) (valF U N a b c g) else orI U (valF U N a b c f1) (valF U N a b c g))
        by_cases h38:bt s (j:Int)=38
        ·rw [if_pos h38]
         repeat(with_reducible first|refine Ev.ip ?_|refine Ev.iq ?_)
         refine Ev.bind (meet_in L hv hu) ?_
         exact Ev.now _
        ·rw [if_neg h38]
         repeat(with_reducible first|refine Ev.ip ?_|refine Ev.iq ?_)
         refine Ev.bind (join_in L hv hu) ?_
         exact Ev.now _
       ·cases h
      ·cases h
     ·rw [rdF_other hlt hl h33 h40] at h
      cases h
theorem fmOf_rd {s : ByteArray} {f : Fm} (h : fmOf s = some f) : ∃ r, rdF s.size s = some (f, r) ∧ r.size = 0 ∧ s.size ≤ 60 := by
 unfold fmOf at h
 split at h
 ·cases h
 ·rename_i h60
  split at h
  ·cases h
  ·rename_i g r h1
   split at h
   ·rename_i h2
    cases h;exact⟨r,h1,h2,by omega⟩
   ·cases h
theorem value_of_ev {U : List (List Int)} {N : List Int} (L : Logic U N) {a b c : Int} (ia : In U a) (ib : In U b) (ic : In U c) {s : ByteArray} {f : Fm} (h : fmOf s = some f) : Ev (fun m => spec_l10Value.f m U N s a b c (noI U)) (valF U N a b c f) := by
 obtain⟨r,h1,h2,h3⟩:=fmOf_rd h
 exact l10Value_ev L ia ib ic s.size s f r (by omega) (Nat.le_refl _) h1 h2
end Go.Proofs.Ytcbjpdaogicibaa.Print
end
