/- Part 6 of what is common to several claims of this seat: StatesOfL. -/
import Derived.Test.YtcbjpdaogicibaaLG5
import Derived.Below
import Derived.Deep.Draws
import Derived.Deep.AppendLies
import Derived.Maps.AppendAt
import Derived.OwnWalk
import Derived.Laws.BytesArg
import Derived.Laws.MakeOwn
import Derived.Laws.OwnMore
import Derived.Deep.OwnRows
import Derived.Tactics
import Derived.Lib.ConvBytes
import Derived.Laws.Slices
import Derived.WalkKit
import Derived.KernelRfl
import Derived.RowKit3
import Derived.Deep.LoopGhost
import Derived.Deep.QuietTactic
import Derived.BigQuiet
import Derived.WideLaws
import Derived.Deep.DeepCutAuto
import Derived.Deep.CutBlock
import Derived.Deep.RegionHeld3
import Derived.Laws.Rows
import Derived.Lib.AppendStr
import Derived.ArgAppend
import Derived.Laws.IdiomCopy
import Derived.RowKit
import Derived.OrdersHeld
import Derived.Laws.BitsLemmas
import Derived.Test.YtcbjpdaogicibaaProg
set_option linter.all false
section
namespace Go.Proofs.Ytcbjpdaogicibaa.Print
open Go.RowKit Go.Proofs.YtcbjpdaogicibaaW.PrintWords Go.Proofs.YtcbjpdaogicibaaW.PrintLast Go.Proofs.YtcbjpdaogicibaaW.PrintMore
open Oml
theorem Ev.down {ρ : Type} {g : Nat → Nat → Option ρ} {R : Nat → ρ} (n : Nat) (hend : Ev (fun k => g k n) (R n)) (hstep : ∀ i, i < n → Ev (fun k => g k (i + 1)) (R (i + 1)) → Ev (fun k => g k i) (R i)) : ∀ i, i ≤ n → Ev (fun k => g k i) (R i) := by
 intro i hi
 obtain⟨d,hd⟩: ∃d,n=i+d:=⟨n - i,by omega⟩
 induction d generalizing i with
 |zero=>
  obtain rfl:n=i:=by omega
  exact hend
 |succ d ih=>exact hstep i (by omega) (ih (i+1) (by omega) (by omega))
theorem Ev.eq {α : Type} {g : Nat → Option α} {r r' : α} (h : Ev g r) (e : r = r') : Ev g r' := e ▸ h
def allFrom (n : Nat) (p : Nat → Bool) (i : Nat) : Bool := (List.range' i (n - i)).all p
def fstFrom (n : Nat) (p : Nat → Bool) (i : Nat) : Option Nat := (List.range' i (n - i)).find? p
theorem allFrom_lt {n : Nat} {p : Nat → Bool} {i : Nat} (h : i < n) : allFrom n p i = (p i && allFrom n p (i + 1)) := by
 unfold allFrom
 obtain⟨d,rfl⟩: ∃d,n=i+(d+1):=⟨n - i - 1,by omega⟩
 rw [show i+(d+1) - i=d+1 by omega,show i+(d+1) - (i+1)=d by omega,List.range'_succ,List.all_cons]
theorem allFrom_ge {n : Nat} {p : Nat → Bool} {i : Nat} (h : n ≤ i) : allFrom n p i = true := by
 unfold allFrom; rw [show n - i = 0 by omega]; rfl
theorem allFrom_zero (n : Nat) (p : Nat → Bool) : allFrom n p 0 = allN n p := by
 unfold allFrom allN; rw [Nat.sub_zero, List.range_eq_range']
theorem fstFrom_lt {n : Nat} {p : Nat → Bool} {i : Nat} (h : i < n) : fstFrom n p i = if p i = true then some i else fstFrom n p (i + 1) := by
 unfold fstFrom
 obtain⟨d,rfl⟩: ∃d,n=i+(d+1):=⟨n - i - 1,by omega⟩
 rw [show i+(d+1) - i=d+1 by omega,show i+(d+1) - (i+1)=d by omega,List.range'_succ,List.find?_cons]
 cases p i <;> simp
theorem fstFrom_ge {n : Nat} {p : Nat → Bool} {i : Nat} (h : n ≤ i) : fstFrom n p i = none := by
 unfold fstFrom; rw [show n - i = 0 by omega]; rfl
theorem fstFrom_zero (n : Nat) (p : Nat → Bool) : fstFrom n p 0 = findN n p := by
 unfold fstFrom findN; rw [Nat.sub_zero, List.range_eq_range']
theorem wrap_nat {i : Nat} (h : i < 4611686018427387904) : wrap64 ((i : Int) + 1) = ((i + 1 : Nat) : Int) := by unfold wrap64; omega
theorem Ev.succ {α : Type} {g : Nat → Option α} {r : α} (h : Ev (fun k => g (k + 1)) r) : Ev g r := Ev.step (fun _ => rfl) h
theorem Ev.ite_pos {α : Type} {c : Prop} [Decidable c] {a b : Nat → Option α} {r : α} (h : c) (k : Ev a r) : Ev (fun n => if c then a n else b n) r := by simpa only [if_pos h] using k
theorem Ev.ite_neg {α : Type} {c : Prop} [Decidable c] {a b : Nat → Option α} {r : α} (h : ¬ c) (k : Ev b r) : Ev (fun n => if c then a n else b n) r := by simpa only [if_neg h] using k
theorem Ev.ip {α : Type} {c : Prop} [Decidable c] {a b : Nat → Option α} {r : α} (k : Ev a r) (h : c := by first | assumption | (focus omega) | (simp <;> fail)) : Ev (fun n => if c then a n else b n) r := Ev.ite_pos h k
theorem Ev.iq {α : Type} {c : Prop} [Decidable c] {a b : Nat → Option α} {r : α} (k : Ev b r) (h : ¬ c := by first | assumption | (focus omega) | (simp <;> fail)) : Ev (fun n => if c then a n else b n) r := Ev.ite_neg h k
theorem Ev.pure {α : Type} {o : Option α} {r : α} (h : o = some r) : Ev (fun _ => o) r := h ▸ Ev.now r
theorem Ev.pbind {α β : Type} {g : Option α} {f : Nat → α → Option β} {a : α} {r : β} (h : g = some a) (k : Ev (fun n => f n a) r) : Ev (fun n => g.bind (f n)) r := Ev.bind (g := fun _ => g) (Ev.pure h) k
theorem Ev.all {ρ : Type} {g : Nat → Int → Option ρ} {n : Nat} (p : Nat → Bool) {go stop : ρ} (hn : n < 4611686018427387904) (hend : (∀ i, i < n → p i = true) → Ev (fun k => g k (n : Int)) go)
 (hstep: ∀i,i<n→(∀j,j<i→p j=true)→ ∀R,(p i=true→Ev (fun k=>g k (wrap64 ((i:Int)+1))) R)→Ev (fun k=>g k (i:Int)) (if p i=true then R else stop)):
 Ev (fun k=>g k 0) (if allN n p=true then go else stop):=by
 have key: ∀d i,i+d=n→(∀j,j<i→p j=true)→Ev (fun k=>g k (i:Int)) (if allFrom n p i=true then go else stop):=by
  intro d
  induction d with
  |zero=>
   intro i hi hj
   obtain rfl:i=n:=by omega
   rw [allFrom_ge (Nat.le_refl _),if_pos rfl]
   exact hend hj
  |succ d ih=>
   intro i hi hj
   rw [allFrom_lt (by omega)]
   refine Ev.eq (hstep i (by omega) hj (if allFrom n p (i+1)=true then go else stop) fun hp=>?_) ?_
   ·rw [wrap_nat (by omega)]
    exact ih (i+1) (by omega) fun j hj'=>by
     rcases Nat.lt_or_ge j i with h|h
     ·exact hj j h
     ·obtain rfl:j=i:=by omega
      exact hp
   ·cases p i <;> simp
 have:=key n 0 (by omega) fun _ h=>absurd h (Nat.not_lt_zero _)
 rw [allFrom_zero] at this
 exact this
theorem Ev.find {ρ : Type} {g : Nat → Int → Option ρ} {n : Nat} (p : Nat → Bool) {none' : ρ} {some' : Nat → ρ} (hn : n < 4611686018427387904) (hend : (∀ i, i < n → p i = false) → Ev (fun k => g k (n : Int)) none')
 (hstep: ∀i,i<n→(∀j,j<i→p j=false)→ ∀R,(p i=false→Ev (fun k=>g k (wrap64 ((i:Int)+1))) R)→Ev (fun k=>g k (i:Int)) (if p i=true then some' i else R)):
 Ev (fun k=>g k 0) (match findN n p with|some i=>some' i|none=>none'):=by
 have key: ∀d i,i+d=n→(∀j,j<i→p j=false)→Ev (fun k=>g k (i:Int)) (match fstFrom n p i with|some i=>some' i|none=>none'):=by
  intro d
  induction d with
  |zero=>
   intro i hi hj
   obtain rfl:i=n:=by omega
   rw [fstFrom_ge (Nat.le_refl _)]
   exact hend hj
  |succ d ih=>
   intro i hi hj
   rw [fstFrom_lt (by omega)]
   refine Ev.eq (hstep i (by omega) hj (match fstFrom n p (i+1) with|some i=>some' i|none=>none') fun hp=>?_) ?_
   ·rw [wrap_nat (by omega)]
    exact ih (i+1) (by omega) fun j hj'=>by
     rcases Nat.lt_or_ge j i with h|h
     ·exact hj j h
     ·obtain rfl:j=i:=by omega
      exact hp
   ·cases p i <;> simp
 have:=key n 0 (by omega) fun _ h=>absurd h (Nat.not_lt_zero _)
 rw [fstFrom_zero] at this
 exact this
theorem Ev.loop {σ ρ : Type} {g : Nat → σ → Int → Option ρ} (n : Nat) (I : Nat → σ → Prop) {R : ρ} (hn : n < 4611686018427387904) (hend : ∀ s, I n s → Ev (fun k => g k s (n : Int)) R)
 (hstep: ∀i s,i<n→I i s→ ∃s',I (i+1) s'∧(Ev (fun k=>g k s' (wrap64 ((i:Int)+1))) R→Ev (fun k=>g k s (i:Int)) R)): ∀s,I 0 s→Ev (fun k=>g k s 0) R:=by
 have key: ∀d i,i+d=n→ ∀s,I i s→Ev (fun k=>g k s (i:Int)) R:=by
  intro d
  induction d with
  |zero=>
   intro i hi s hs
   obtain rfl:i=n:=by omega
   exact hend s hs
  |succ d ih=>
   intro i hi s hs
   obtain⟨s',h1,h2⟩:=hstep i s (by omega) hs
   refine h2 ?_
   rw [wrap_nat (by omega)]
   exact ih (i+1) (by omega) s' h1
 exact fun s hs=>key n 0 (by omega) s hs
theorem Ev.all1 {ρ : Type} {g : Nat → Nat → Option ρ} {R : Nat → ρ} (n : Nat) (h : ∀ a, a < n → Ev (fun k => g k a) (R a)) : ∃ K, ∀ a, a < n → ∀ k, K ≤ k → g k a = some (R a) := by
 induction n with
 |zero=>exact⟨0,fun a ha=>absurd ha (Nat.not_lt_zero _)⟩
 |succ n ih=>
  obtain⟨K,hK⟩:=ih fun a ha=>h a (by omega)
  obtain⟨K',hK'⟩:=h n (by omega)
  refine⟨K+K',fun a ha k hk=>?_⟩
  rcases Nat.lt_or_ge a n with hlt|hge
  ·exact hK a hlt k (by omega)
  ·obtain rfl:a=n:=by omega
   exact hK' k (by omega)
theorem Ev.all2 {ρ : Type} {g : Nat → Nat → Nat → Option ρ} {R : Nat → Nat → ρ} (n : Nat) (h : ∀ a b, a < n → b < n → Ev (fun k => g k a b) (R a b)) : ∃ K, ∀ a b, a < n → b < n → ∀ k, K ≤ k → g k a b = some (R a b) := by
 have h1: ∀a,a<n→ ∃K,∀b,b<n→ ∀k,K≤k→g k a b=some (R a b):=fun a ha=>Ev.all1 n fun b hb=>h a b ha hb
 have h2: ∀m,m≤n→ ∃K,∀a b,a<m→b<n→ ∀k,K≤k→g k a b=some (R a b):=by
  intro m
  induction m with
  |zero=>exact fun _=>⟨0,fun a b ha=>absurd ha (Nat.not_lt_zero _)⟩
  |succ m ih=>
   intro hm
   obtain⟨K,hK⟩:=ih (by omega)
   obtain⟨K',hK'⟩:=h1 m (by omega)
   refine⟨K+K',fun a b ha hb k hk=>?_⟩
   rcases Nat.lt_or_ge a m with hlt|hge
   ·exact hK a b hlt hb k (by omega)
   ·obtain rfl:a=m:=by omega
    exact hK' b hb k (by omega)
 exact h2 n (Nat.le_refl _)
theorem rd_nat (N : List Int) (i : Nat) : rd N (i : Int) = at1 N i := by simp [rd, at1]
theorem rdL_nat (U : List (List Int)) (i : Nat) : rd_L2 U (i : Int) = U.getD i [] := by simp [rd_L2]
theorem rd_row (U : List (List Int)) (i j : Nat) : at1 (U.getD i []) j = at2 U i j := rfl
section
section
variable {U : List (List Int)} (O : Order U)
include O
theorem meet_l1 {a b c : Nat} (ha : a < U.length) (hb : b < U.length) (hc : c < U.length) (R : Int) :
 ∀i,i≤U.length→ ∀fl:Bool,((fl && allFrom U.length (fun d=>!(leB U d a && leB U d b)||leB U d c) i)=false→Ev (fun k=>impl_meet.l0 k U a b U.length ((c+1:Nat):Int)) R)→
  Ev (fun k=>impl_meet.l1 k U a b c fl U.length c U.length i) (if(fl && allFrom U.length (fun d=>!(leB U d a && leB U d b)||leB U d c) i)=true then(c:Int) else R):=by
 have hs:=O.small
 refine fun i hi=>?_
 obtain⟨d,hd⟩: ∃d,U.length=i+d:=⟨U.length - i,by omega⟩
 induction d generalizing i with
 |zero=>
  intro fl hR
  rw [allFrom_ge (by omega),Bool.and_true] at hR ⊢
  cases fl with
  |true=>
   refine Ev.step (f:=fun _=>some (c:Int)) (fun k=>?_) (Ev.now _)
   simp only [impl_meet.l1]
   rw [if_neg (by omega)];rfl
  |false=>
   refine Ev.step (f:=fun k=>impl_meet.l0 k U a b U.length ((c+1:Nat):Int)) (fun k=>?_) (by simpa using hR rfl)
   simp only [impl_meet.l1]
   rw [if_neg (by omega),if_neg (by simp),wrap_nat (by omega)]
 |succ d ih=>
  intro fl hR
  rw [allFrom_lt (by omega)] at hR ⊢
  have hrow:((U.getD i []).length:Int)=U.length:=by rw [O.row i (by omega)]
  have va:=O.val (a:=i) (b:=a) (by omega) ha
  have vb:=O.val (a:=i) (b:=b) (by omega) hb
  have vc:=O.val (a:=i) (b:=c) (by omega) hc
  refine Ev.step (f:=fun k=>impl_meet.l1 k U a b c (fl && (!(leB U i a && leB U i b)||leB U i c)) U.length c U.length ((i+1:Nat):Int)) (fun k=>?_) ?_
  ·simp only [impl_meet.l1,rdL_nat,rd_nat,rd_row,hrow,va,vb,vc,wrap_nat (show i<4611686018427387904 by omega)]
   rw [if_pos (by omega)]
   cases fl
   ·rfl
   ·rw [if_pos rfl,if_pos (by omega),if_pos (by omega),if_pos (by omega),if_pos (by omega)]
    cases leB U i a
    ·rfl
    ·rw [if_neg (by simp),if_pos (by omega),if_pos (by omega)]
     cases leB U i b
     ·rfl
     ·rw [if_neg (by simp),if_pos (by omega),if_pos (by omega)]
      cases leB U i c <;> rfl
  ·refine Ev.eq (ih (i+1) (by omega) (by omega) (fl && (!(leB U i a && leB U i b)||leB U i c)) ?_) ?_
   ·intro h;exact hR (by rw [← Bool.and_assoc];exact h)
   ·rw [Bool.and_assoc]
theorem impl_meet.ev {a b : Nat} (ha : a < U.length) (hb : b < U.length) : Ev (fun k => impl_meet.f k U a b) (mI U a b) := by
 have hs:=O.small
 have key: ∀i,i≤U.length→Ev (fun k=>impl_meet.l0 k U a b U.length (i:Int)) (optI (fstFrom U.length (meetP U a b) i)):=by
  refine Ev.down U.length ?_ fun i hi ih=>?_
  ·rw [fstFrom_ge (Nat.le_refl _)]
   refine Ev.step (f:=fun _=>some (-1)) (fun k=>?_) (Ev.now _)
   simp only [impl_meet.l0]
   rw [if_neg (by omega)]
  ·have hrow:((U.getD i []).length:Int)=U.length:=by rw [O.row i hi]
   have va:=O.val (a:=i) (b:=a) hi ha
   have vb:=O.val (a:=i) (b:=b) hi hb
   rw [fstFrom_lt hi]
   refine Ev.step (f:=fun k=>impl_meet.j1 k U a b i U.length i (!(leB U i a && leB U i b))) (fun k=>?_) ?_
   ·simp only [impl_meet.l0,rdL_nat,rd_nat,rd_row,hrow,va,vb]
    rw [if_pos (by omega),if_pos (by omega),if_pos (by omega),if_pos (by omega),if_pos (by omega)]
    cases leB U i a
    ·rfl
    ·rw [if_neg (by simp),if_pos (by omega),if_pos (by omega)]
     cases leB U i b <;> rfl
   ·cases hab:leB U i a && leB U i b with
    |false=>
     refine Ev.step (f:=fun k=>impl_meet.l0 k U a b U.length ((i+1:Nat):Int)) (fun k=>?_) (Ev.eq ih ?_)
     ·simp only [impl_meet.j1,Bool.not_false,if_true]
      rw [wrap_nat (by omega)]
     ·have:meetP U a b i=false:=by unfold meetP;rw [← Bool.and_assoc,hab];rfl
      rw [this];rfl
    |true=>
     refine Ev.step (f:=fun k=>impl_meet.l1 k U a b i true U.length i U.length ((0:Nat):Int)) (fun k=>?_) (Ev.eq (meet_l1 O ha hb hi _ 0 (by omega) true (fun _=>ih)) ?_)
     ·simp only [impl_meet.j1,Bool.not_true];rfl
     ·have:meetP U a b i=allN U.length (fun d=>!(leB U d a && leB U d b)||leB U d i):=by unfold meetP;rw [← Bool.and_assoc,hab];rfl
      rw [this,Bool.true_and,allFrom_zero]
      split <;> rfl
 have:=key 0 (by omega)
 rw [fstFrom_zero] at this
 exact this
end
end
def rowOk (U : List (List Int)) (i : Nat) : Bool :=
 ((U.getD i []).length==U.length) && (leB U i i && allN U.length fun j=>(at2 U i j==0||at2 U i j==1) && ((U.getD j []).length==U.length && !(leB U i j && (!(i==j) && leB U j i))))
def transOk (U : List (List Int)) : Bool := allN U.length fun a => allN U.length fun b => allN U.length fun c => !(leB U a b && leB U b c) || leB U a c
theorem orderB_eq (U : List (List Int)) : orderB U = (decide (1 ≤ U.length) && (decide (U.length ≤ 12) && (allN U.length (rowOk U) && transOk U))) := by
 rw [Bool.eq_iff_iff,orderB_iff]
 unfold rowOk transOk
 simp only [Bool.and_eq_true,decide_eq_true_eq,allN_iff,Bool.or_eq_true,beq_iff_eq,Bool.not_eq_true',Bool.and_eq_false_iff]
 constructor
 ·intro O
  refine⟨O.pos,O.small,fun i hi=>⟨O.row i hi,O.refl i hi,fun j hj=>⟨O.bit i j hi hj,O.row j hj,?_⟩⟩,fun a ha b hb c hc=>?_⟩
  ·by_cases e:i=j
   ·right;left;simp [e]
   ·cases k1:leB U i j <;> cases k2:leB U j i <;> simp
    exact O.anti i j hi hj k1 k2
  ·cases k1:leB U a b <;> cases k2:leB U b c <;> simp
   exact O.trans a b c ha hb hc k1 k2
 ·rintro ⟨h1,h2,h3,h4⟩
  refine⟨h1,h2,fun a ha=>(h3 a ha).1,fun a b ha hb=>((h3 a ha).2.2 b hb).1,fun a ha=>(h3 a ha).2.1,fun a b ha hb k1 k2=>?_,fun a b c ha hb hc k1 k2=>?_⟩
  ·rcases ((h3 a ha).2.2 b hb).2.2 with e|e|e
   ·rw [k1] at e;exact absurd e (by simp)
   ·simpa using e
   ·rw [k2] at e;exact absurd e (by simp)
  ·rcases h4 a ha b hb c hc with (e|e)|e
   ·rw [k1] at e;exact absurd e (by simp)
   ·rw [k2] at e;exact absurd e (by simp)
   ·exact e
theorem impl_OrderOk.ev (U : List (List Int)) : Ev (fun k => impl_OrderOk.f k U) (orderB U) := by
 rw [orderB_eq]
 by_cases h1:1≤U.length
 ·by_cases h2:U.length≤12
  ·simp only [h1,h2,decide_true,Bool.true_and]
   unfold impl_OrderOk.f
   repeat(with_reducible first|refine Ev.ip ?_|refine Ev.iq ?_)
   rw [show decide ((U.length:Int)>12)=false from decide_eq_false (by omega)]
   refine Ev.succ ?_
   simp only [impl_OrderOk.j0]
   repeat(with_reducible first|refine Ev.ip ?_|refine Ev.iq ?_)
   refine Ev.eq (Ev.all (n:=U.length) (g:=fun k i=>impl_OrderOk.l0 k U U.length U U.length i) (rowOk U) (go:=transOk U) (stop:=false) (by omega) (fun hr=>?_) fun i hi hj R hR=>?_) (by cases allN U.length (rowOk U) <;> rfl)
   ·refine Ev.succ ?_
    simp only [impl_OrderOk.l0]
    repeat(with_reducible first|refine Ev.ip ?_|refine Ev.iq ?_)
    refine Ev.eq (Ev.all (n:=U.length) (g:=fun k i=>impl_OrderOk.l2 k U U.length U.length i) (fun a=>allN U.length fun b=>allN U.length fun c=>!(leB U a b && leB U b c)||leB U a c) (go:=true) (stop:=false) (by omega) (fun _=>?_) fun a ha _ R hR=>?_) (by unfold transOk;cases allN U.length _ <;> rfl)
    ·refine Ev.succ ?_
     simp only [impl_OrderOk.l2]
     repeat(with_reducible first|refine Ev.ip ?_|refine Ev.iq ?_)
     exact Ev.now _
    ·refine Ev.succ ?_
     simp only [impl_OrderOk.l2]
     repeat(with_reducible first|refine Ev.ip ?_|refine Ev.iq ?_)
     refine Ev.all (n:=U.length) (g:=fun k i=>impl_OrderOk.l3 k U U.length a U.length a U.length i) _ (by omega) (fun h=>?_) fun b hb _ R2 hR2=>?_
     ·refine Ev.succ ?_
      simp only [impl_OrderOk.l3]
      repeat(with_reducible first|refine Ev.ip ?_|refine Ev.iq ?_)
      exact hR (allN_iff.2 h)
     ·refine Ev.succ ?_
      simp only [impl_OrderOk.l3]
      repeat(with_reducible first|refine Ev.ip ?_|refine Ev.iq ?_)
      refine Ev.all (n:=U.length) (g:=fun k i=>impl_OrderOk.l4 k U U.length a b U.length a U.length b U.length i) _ (by omega) (fun h=>?_) fun c hc _ R3 hR3=>?_
      ·refine Ev.succ ?_
       simp only [impl_OrderOk.l4]
       repeat(with_reducible first|refine Ev.ip ?_|refine Ev.iq ?_)
       exact hR2 (allN_iff.2 h)
      ·refine Ev.succ ?_
       have ra:((U.getD a []).length:Int)=U.length:=by have:=hr a ha;unfold rowOk at this;simp only [Bool.and_eq_true,beq_iff_eq] at this;omega
       have rb:((U.getD b []).length:Int)=U.length:=by have:=hr b hb;unfold rowOk at this;simp only [Bool.and_eq_true,beq_iff_eq] at this;omega
       simp only [impl_OrderOk.l4,rdL_nat,rd_nat,rd_row,ra,rb]
       repeat(with_reducible first|refine Ev.ip ?_|refine Ev.iq ?_)
       by_cases e1:at2 U a b=1
       ·have f1:leB U a b=true:=by simp [leB,e1]
        by_cases e2:at2 U b c=1
        ·have f2:leB U b c=true:=by simp [leB,e2]
         by_cases e3:at2 U a c=1
         ·have f3:leB U a c=true:=by simp [leB,e3]
          repeat(with_reducible first|refine Ev.ip ?_|refine Ev.iq ?_)
          refine Ev.eq (hR3 (by simp [f3])) (by simp [f3])
         ·have f3:leB U a c=false:=by simp [leB,e3]
          repeat(with_reducible first|refine Ev.ip ?_|refine Ev.iq ?_)
          refine Ev.eq (Ev.now _) (by simp [f1,f2,f3])
        ·have f2:leB U b c=false:=by simp [leB,e2]
         repeat(with_reducible first|refine Ev.ip ?_|refine Ev.iq ?_)
         refine Ev.eq (hR3 (by simp [f2])) (by simp [f2])
       ·have f1:leB U a b=false:=by simp [leB,e1]
        repeat(with_reducible first|refine Ev.ip ?_|refine Ev.iq ?_)
        refine Ev.eq (hR3 (by simp [f1])) (by simp [f1])
   ·refine Ev.succ ?_
    simp only [impl_OrderOk.l0,rdL_nat,rd_nat,rd_row]
    repeat(with_reducible first|refine Ev.ip ?_|refine Ev.iq ?_)
    by_cases e1:(U.getD i []).length=U.length
    ·repeat(with_reducible first|refine Ev.ip ?_|refine Ev.iq ?_)
     by_cases e2:at2 U i i=1
     ·have f2:leB U i i=true:=by simp [leB,e2]
      rw [show (at2 U i i !=1)=false by simp [e2]]
      refine Ev.succ ?_
      simp only [impl_OrderOk.j2,rdL_nat,rd_nat,rd_row]
      repeat(with_reducible first|refine Ev.ip ?_|refine Ev.iq ?_)
      rw [e1]
      refine Ev.eq (Ev.all (n:=U.length) (g:=fun k j=>impl_OrderOk.l1 k U U.length i U U.length i (U.getD i []) U.length j) (fun j=>(at2 U i j==0||at2 U i j==1) && ((U.getD j []).length==U.length && !(leB U i j && (!(i==j) && leB U j i)))) (go:=R) (stop:=false) (by omega) (fun h=>?_) fun j hj _ R2 hR2=>?_) (by unfold rowOk;simp [-List.getD_eq_getElem?_getD,e1,f2])
      ·refine Ev.succ ?_
       simp only [impl_OrderOk.l1]
       repeat(with_reducible first|refine Ev.ip ?_|refine Ev.iq ?_)
       exact hR (by unfold rowOk;simp only [e1,f2,BEq.rfl,Bool.true_and];exact allN_iff.2 h)
      ·refine Ev.succ ?_
       simp only [impl_OrderOk.l1,rd_nat,rd_row]
       repeat(with_reducible first|refine Ev.ip ?_|refine Ev.iq ?_)
       have j4: ∀R3:Bool,(((U.getD j []).length=U.length→(leB U i j=true→i≠j→leB U j i=false)→Ev (fun k=>impl_OrderOk.l1 k U U.length i U U.length i (U.getD i []) U.length (wrap64 ((j:Int)+1))) R3))→
        Ev (fun k=>impl_OrderOk.j4 k U U.length i j (at2 U i j) U U.length i (U.getD i []) U.length j false) (if((U.getD j []).length==U.length && !(leB U i j && (!(i==j) && leB U j i)))=true then R3 else false):=by
        intro R3 hR3
        refine Ev.succ ?_
        simp only [impl_OrderOk.j4,rdL_nat,rd_nat,rd_row]
        repeat(with_reducible first|refine Ev.ip ?_|refine Ev.iq ?_)
        by_cases l1:(U.getD j []).length=U.length
        ·repeat(with_reducible first|refine Ev.ip ?_|refine Ev.iq ?_)
         rw [l1]
         by_cases x1:at2 U i j=1
         ·have y1:leB U i j=true:=by simp [leB,x1]
          repeat(with_reducible first|refine Ev.ip ?_|refine Ev.iq ?_)
          by_cases x2:i=j
          ·repeat(with_reducible first|refine Ev.ip ?_|refine Ev.iq ?_)
           exact Ev.eq (hR3 l1 (fun _ h=>absurd x2 h)) (by simp [x2])
          ·repeat(with_reducible first|refine Ev.ip ?_|refine Ev.iq ?_)
           by_cases x3:at2 U j i=1
           ·have y3:leB U j i=true:=by simp [leB,x3]
            repeat(with_reducible first|refine Ev.ip ?_|refine Ev.iq ?_)
            exact Ev.eq (Ev.now _) (by simp [x2,y1,y3])
           ·have y3:leB U j i=false:=by simp [leB,x3]
            repeat(with_reducible first|refine Ev.ip ?_|refine Ev.iq ?_)
            exact Ev.eq (hR3 l1 (fun _ _=>y3)) (by simp [y3])
         ·have y1:leB U i j=false:=by simp [leB,x1]
          repeat(with_reducible first|refine Ev.ip ?_|refine Ev.iq ?_)
          exact Ev.eq (hR3 l1 (fun h=>by rw [y1] at h;exact absurd h (by simp))) (by simp [y1])
        ·repeat(with_reducible first|refine Ev.ip ?_|refine Ev.iq ?_)
         exact Ev.eq (Ev.now _) (by simp [-List.getD_eq_getElem?_getD,l1])
       have hgo:at2 U i j=0∨at2 U i j=1→Ev (fun k=>impl_OrderOk.j4 k U U.length i j (at2 U i j) U U.length i (U.getD i []) U.length j false) (if((at2 U i j==0||at2 U i j==1) && ((U.getD j []).length==U.length && !(leB U i j && (!(i==j) && leB U j i))))=true then R2 else false):=by
        intro hb
        have hb1:(at2 U i j==0||at2 U i j==1)=true:=by rcases hb with h|h <;> simp [h]
        rw [hb1,Bool.true_and]
        refine j4 R2 fun l1 h=>hR2 ?_
        rw [hb1,Bool.true_and]
        simp only [l1,BEq.rfl,Bool.true_and,Bool.not_eq_true']
        cases y1:leB U i j
        ·rfl
        ·by_cases x2:i=j
         ·simp [x2]
         ·simp [h y1 x2]
       by_cases x0:at2 U i j=0
       ·repeat(with_reducible first|refine Ev.ip ?_|refine Ev.iq ?_)
        exact hgo (.inl x0)
       ·repeat(with_reducible first|refine Ev.ip ?_|refine Ev.iq ?_)
        by_cases x1:at2 U i j=1
        ·rw [show (at2 U i j !=1)=false by simp [x1]]
         exact hgo (.inr x1)
        ·rw [show (at2 U i j !=1)=true by simp [x1]]
         refine Ev.succ ?_
         simp only [impl_OrderOk.j4]
         repeat(with_reducible first|refine Ev.ip ?_|refine Ev.iq ?_)
         exact Ev.eq (Ev.now _) (by simp [x0,x1])
     ·have f2:leB U i i=false:=by simp [leB,e2]
      rw [show (at2 U i i !=1)=true by simp [e2]]
      refine Ev.succ ?_
      simp only [impl_OrderOk.j2]
      repeat(with_reducible first|refine Ev.ip ?_|refine Ev.iq ?_)
      exact Ev.eq (Ev.now _) (by unfold rowOk;simp [f2])
    ·repeat(with_reducible first|refine Ev.ip ?_|refine Ev.iq ?_)
     refine Ev.succ ?_
     simp only [impl_OrderOk.j2]
     repeat(with_reducible first|refine Ev.ip ?_|refine Ev.iq ?_)
     exact Ev.eq (Ev.now _) (by unfold rowOk;simp [-List.getD_eq_getElem?_getD,e1])
  ·simp only [h1,h2,decide_true,decide_false,Bool.true_and,Bool.false_and]
   unfold impl_OrderOk.f
   repeat(with_reducible first|refine Ev.ip ?_|refine Ev.iq ?_)
   rw [show decide ((U.length:Int)>12)=true from decide_eq_true (by omega)]
   refine Ev.succ ?_
   simp only [impl_OrderOk.j0]
   repeat(with_reducible first|refine Ev.ip ?_|refine Ev.iq ?_)
   exact Ev.now _
 ·simp only [h1,decide_false,Bool.false_and]
  unfold impl_OrderOk.f
  repeat(with_reducible first|refine Ev.ip ?_|refine Ev.iq ?_)
  refine Ev.succ ?_
  simp only [impl_OrderOk.j0]
  repeat(with_reducible first|refine Ev.ip ?_|refine Ev.iq ?_)
  exact Ev.now _
theorem turnL_len (U : List (List Int)) : (turnL U).length = U.length := by simp [turnL]
theorem turnL_at (U : List (List Int)) {a b : Nat} (ha : a < U.length) (hb : b < U.length) : at2 (turnL U) a b = at2 U b a := by simp [at2, turnL, ha, hb]
theorem turnL_le (U : List (List Int)) {a b : Nat} (ha : a < U.length) (hb : b < U.length) : leB (turnL U) a b = leB U b a := by unfold leB; rw [turnL_at U ha hb]
theorem _root_.Oml.Order.turn {U : List (List Int)} (O : Order U) : Order (turnL U) where
 pos:=by rw [turnL_len];exact O.pos
 small:=by rw [turnL_len];exact O.small
 row a ha:=by rw [turnL_len] at*;simp [turnL,ha]
 bit a b ha hb:=by rw [turnL_len] at*;rw [turnL_at U ha hb];exact O.bit b a hb ha
 refl a ha:=by rw [turnL_len] at*;rw [turnL_le U ha ha];exact O.refl a ha
 anti a b ha hb h k:=by rw [turnL_len] at*;rw [turnL_le U ha hb] at h;rw [turnL_le U hb ha] at k;exact O.anti a b ha hb k h
 trans a b c ha hb hc h k:=by rw [turnL_len] at*;rw [turnL_le U ha hb] at h;rw [turnL_le U hb hc] at k;rw [turnL_le U ha hc];exact O.trans c b a hc hb ha k h
theorem allN_congr {n : Nat} {p q : Nat → Bool} (h : ∀ i, i < n → p i = q i) : allN n p = allN n q := by
 rw [Bool.eq_iff_iff,allN_iff,allN_iff]
 exact⟨fun k i hi=>h i hi ▸ k i hi,fun k i hi=>(h i hi).symm ▸ k i hi⟩
theorem findN_congr {n : Nat} {p q : Nat → Bool} (h : ∀ i, i < n → p i = q i) : findN n p = findN n q := by
 cases e:findN n p with
 |some i=>exact(findN_of (findN_some e).1 (by rw [← h i (findN_some e).1];exact(findN_some e).2) fun j hj=>by rw [← h j (by have:=(findN_some e).1;omega)];exact findN_first e j hj).symm
 |none=>exact(findN_none.2 fun i hi=>by rw [← h i hi];exact findN_none.1 e i hi).symm
theorem meet_turn (U : List (List Int)) {a b : Nat} (ha : a < U.length) (hb : b < U.length) : mI (turnL U) a b = jI U a b := by
 unfold mI jI meetO joinO
 rw [turnL_len]
 congr 1
 refine findN_congr fun c hc=>?_
 unfold meetP joinP
 rw [turnL_le U hc ha,turnL_le U hc hb,turnL_len]
 congr 2
 refine allN_congr fun d hd=>?_
 rw [turnL_le U hd ha,turnL_le U hd hb,turnL_le U hd hc]
theorem impl_meet.ev_turn {U : List (List Int)} (O : Order U) {a b : Nat} (ha : a < U.length) (hb : b < U.length) : Ev (fun k => impl_meet.f k (turnL U) a b) (jI U a b) := by
 rw [← meet_turn U ha hb]
 exact impl_meet.ev O.turn (by rw [turnL_len];exact ha) (by rw [turnL_len];exact hb)
theorem getD_set {α : Type} (l : List α) (i j : Nat) (x d : α) (hi : i < l.length) : (l.set i x).getD j d = if j = i then x else l.getD j d := by
 by_cases e:j=i
 ·subst e;simp [hi]
 ·simp [List.getElem?_set,e,show¬(i=j) by omega]
theorem impl_turned.ev {U : List (List Int)} (O : Order U) : Ev (fun k => impl_turned.f k U) (turnL U) := by
 have hs:=O.small
 unfold impl_turned.f
 repeat(with_reducible first|refine Ev.ip ?_|refine Ev.iq ?_)
 rw [Int.toNat_natCast]
 repeat(with_reducible first|refine Ev.ip ?_|refine Ev.iq ?_)
 refine Ev.loop (g:=fun k s i=>impl_turned.l0 k U s U.length i) U.length (fun i s=>s.length=U.length∧ ∀a,a<i→s.getD a []=(List.range U.length).map fun b=>at2 U b a) (by omega) (fun s h=>?_) (fun i s hi h=>?_) _ ⟨by simp,fun a h=>absurd h (Nat.not_lt_zero _)⟩
 ·refine Ev.succ ?_
  simp only [impl_turned.l0]
  repeat(with_reducible first|refine Ev.ip ?_|refine Ev.iq ?_)
  refine Ev.eq (Ev.now s) (List.ext_getElem (by rw [h.1,turnL_len]) fun a h1 h2=>?_)
  have:=h.2 a (by omega)
  simpa [turnL,h1] using this
 ·obtain⟨h1,h2⟩:=h
  refine⟨s.set i ((List.range U.length).map fun b=>at2 U b i),⟨by simp [h1],fun a ha=>?_⟩,fun K=>Ev.succ ?_⟩
  ·rw [getD_set _ _ _ _ _ (by omega)]
   by_cases e:a=i
   ·rw [if_pos e,e]
   ·rw [if_neg e];exact h2 a (by omega)
  ·simp only [impl_turned.l0,Int.toNat_natCast]
   repeat(with_reducible first|refine Ev.ip ?_|refine Ev.iq ?_)
   refine Ev.loop (g:=fun k s j=>impl_turned.l1 k U s i U.length i U.length j) U.length (fun j t=>t.length=U.length∧(t.getD i []).length=U.length∧t.set i []=s.set i []∧ ∀b,b<j→at1 (t.getD i []) b=at2 U b i) (by omega) (fun t h=>?_) (fun j t hj h=>?_) _ ⟨by simp [h1],by rw [getD_set _ _ _ _ _ (by omega)];simp,by simp,fun b h=>absurd h (Nat.not_lt_zero _)⟩
   ·refine Ev.succ ?_
    simp only [impl_turned.l1]
    repeat(with_reducible first|refine Ev.ip ?_|refine Ev.iq ?_)
    have e:t=s.set i ((List.range U.length).map fun b=>at2 U b i):=by
     obtain⟨t1,t2,t3,t4⟩:=h
     have er:t.getD i []=(List.range U.length).map fun b=>at2 U b i:=by
      refine List.ext_getElem (by rw [t2];simp) fun b k1 k2=>?_
      have:=t4 b (by omega)
      simp only [at1] at this
      rw [List.getD_eq_getElem?_getD,List.getElem?_eq_getElem k1] at this
      simpa using this
     refine List.ext_getElem (by simp [t1,h1]) fun a k1 k2=>?_
     by_cases ea:a=i
     ·subst ea
      have:t.getD a []=t[a]:=by simp [k1]
      rw [← this,er];simp
     ·have:=congrArg (fun l=>l.getD a []) t3
      rw [getD_set _ _ _ _ _ (by omega),getD_set _ _ _ _ _ (by omega),if_neg ea,if_neg ea] at this
      have k3:a<s.length:=by omega
      simpa [k1,k3,List.getElem_set,show¬(i=a) by omega] using this
    rw [e]
    exact K
   ·obtain⟨t1,t2,t3,t4⟩:=h
    have hrow:=O.row j hj
    refine⟨t.set i ((t.getD i []).set j (at2 U j i)),⟨by simp [t1],?_,?_,fun b hb=>?_⟩,fun K=>Ev.succ ?_⟩
    ·rw [getD_set _ _ _ _ _ (by omega),if_pos rfl];simpa using t2
    ·rw [← t3];simp
    ·rw [getD_set _ _ _ _ _ (by omega),if_pos rfl]
     unfold at1
     rw [getD_set _ _ _ _ _ (by omega)]
     by_cases eb:b=j
     ·rw [if_pos eb,eb]
     ·rw [if_neg eb];exact t4 b (by omega)
    ·simp only [impl_turned.l1,rdL_nat,rd_nat,rd_row,hrow,t1,t2,Int.toNat_natCast]
     repeat(with_reducible first|refine Ev.ip ?_|refine Ev.iq ?_)
     exact K
theorem optI_neg (o : Option Nat) : (optI o < 0) ↔ o.isSome = false := by cases o <;> simp [optI] <;> omega
theorem impl_LatticeOk.ev (U : List (List Int)) : Ev (fun k => impl_LatticeOk.f k U) (latticeB U) := by
 unfold impl_LatticeOk.f latticeB
 refine Ev.bind (impl_OrderOk.ev U) ?_
 cases ho:orderB U with
 |false=>
  repeat(with_reducible first|refine Ev.ip ?_|refine Ev.iq ?_)
  exact Ev.now _
 |true=>
  have O:=orderB_iff.1 ho
  have hs:=O.small
  repeat(with_reducible first|refine Ev.ip ?_|refine Ev.iq ?_)
  refine Ev.bind (impl_turned.ev O) ?_
  refine Ev.eq (Ev.all (n:=U.length) (g:=fun k i=>impl_LatticeOk.l0 k U (turnL U) U.length i) (fun a=>allN U.length fun b=>(meetO U a b).isSome && (joinO U a b).isSome) (go:=true) (stop:=false) (by omega) (fun _=>?_) fun a ha _ R hR=>?_) (by rw [Bool.true_and];cases allN U.length _ <;> rfl)
  ·refine Ev.succ ?_
   simp only [impl_LatticeOk.l0]
   repeat(with_reducible first|refine Ev.ip ?_|refine Ev.iq ?_)
   exact Ev.now _
  ·refine Ev.succ ?_
   simp only [impl_LatticeOk.l0]
   repeat(with_reducible first|refine Ev.ip ?_|refine Ev.iq ?_)
   refine Ev.all (n:=U.length) (g:=fun k i=>impl_LatticeOk.l1 k U (turnL U) a U.length a U.length i) _ (by omega) (fun h=>?_) fun b hb _ R2 hR2=>?_
   ·refine Ev.succ ?_
    simp only [impl_LatticeOk.l1]
    repeat(with_reducible first|refine Ev.ip ?_|refine Ev.iq ?_)
    exact hR (allN_iff.2 h)
   ·refine Ev.succ ?_
    simp only [impl_LatticeOk.l1]
    repeat(with_reducible first|refine Ev.ip ?_|refine Ev.iq ?_)
    refine Ev.bind (impl_meet.ev O ha hb) ?_
    unfold mI
    cases em:meetO U a b with
    |none=>
     refine Ev.ite_pos (by simp [optI]) ?_
     exact Ev.eq (Ev.now _) (by simp)
    |some m=>
     refine Ev.ite_neg (by have:=optI_neg (some 0);simp [optI]) ?_
     refine Ev.bind (impl_meet.ev_turn O ha hb) ?_
     unfold jI
     cases ej:joinO U a b with
     |none=>
      refine Ev.ite_pos (by simp [optI]) ?_
      exact Ev.eq (Ev.now _) (by simp)
     |some j=>
      refine Ev.ite_neg (by have:=optI_neg (some 0);simp [optI]) ?_
      exact Ev.eq (hR2 (by simp [em,ej])) (by simp)
theorem impl_LeastOf.ev (U : List (List Int)) : Ev (fun k => impl_LeastOf.f k U) (if orderB U = true then (optI (leastO U), (leastO U).isSome) else (-1, false)) := by
 unfold impl_LeastOf.f
 refine Ev.bind (impl_OrderOk.ev U) ?_
 cases ho:orderB U with
 |false=>
  repeat(with_reducible first|refine Ev.ip ?_|refine Ev.iq ?_)
  exact Ev.now _
 |true=>
  have O:=orderB_iff.1 ho
  have hs:=O.small
  repeat(with_reducible first|refine Ev.ip ?_|refine Ev.iq ?_)
  refine Ev.eq (Ev.find (n:=U.length) (g:=fun k i=>impl_LeastOf.l0 k U U.length i) (fun a=>allN U.length fun b=>leB U a b) (none':=(-1,false)) (some':=fun i=>((i:Int),true)) (by omega) (fun _=>?_) fun a ha _ R hR=>?_) (by unfold leastO;cases findN U.length _ <;> rfl)
  ·refine Ev.succ ?_
   simp only [impl_LeastOf.l0]
   repeat(with_reducible first|refine Ev.ip ?_|refine Ev.iq ?_)
   exact Ev.now _
  ·refine Ev.succ ?_
   simp only [impl_LeastOf.l0,rdL_nat,O.row a ha]
   repeat(with_reducible first|refine Ev.ip ?_|refine Ev.iq ?_)
   have key: ∀d i,i+d=U.length→ ∀fl:Bool,(fl && allFrom U.length (fun b=>leB U a b) i)=allN U.length (fun b=>leB U a b)→Ev (fun k=>impl_LeastOf.l1 k a fl U U.length a (U.getD a []) U.length i) (if allN U.length (fun b=>leB U a b)=true then((a:Int),true) else R):=by
    intro d
    induction d with
    |zero=>
     intro i hi fl hfl
     refine Ev.succ ?_
     simp only [impl_LeastOf.l1]
     rw [allFrom_ge (by omega),Bool.and_true] at hfl
     rw [hfl]
     repeat(with_reducible first|refine Ev.ip ?_|refine Ev.iq ?_)
     cases ha':allN U.length (fun b=>leB U a b) with
     |true=>
      repeat(with_reducible first|refine Ev.ip ?_|refine Ev.iq ?_)
      exact Ev.now _
     |false=>
      repeat(with_reducible first|refine Ev.ip ?_|refine Ev.iq ?_)
      exact hR ha'
    |succ d ih=>
     intro i hi fl hfl
     rw [allFrom_lt (by omega)] at hfl
     refine Ev.succ ?_
     have rl:=O.row a ha
     simp only [impl_LeastOf.l1,rd_nat,rd_row,wrap_nat (show i<4611686018427387904 by omega)]
     repeat(with_reducible first|refine Ev.ip ?_|refine Ev.iq ?_)
     cases fl with
     |true=>
      repeat(with_reducible first|refine Ev.ip ?_|refine Ev.iq ?_)
      exact ih (i+1) (by omega) _ hfl
     |false=>
      repeat(with_reducible first|refine Ev.ip ?_|refine Ev.iq ?_)
      exact ih (i+1) (by omega) _ (by rw [← hfl];simp)
   exact key U.length 0 (by omega) true (by rw [allFrom_zero,Bool.true_and])
theorem told_facts (U : List (List Int)) : ∃ k, ToldFacts k U := by
 cases hl:latticeB U with
 |false=>
  obtain⟨k,hk⟩:=(impl_LatticeOk.ev U).rounds
  exact⟨k,by rw [hk,hl],fun h=>by rw [hl] at h;exact absurd h (by simp),fun h=>by rw [hl] at h;exact absurd h (by simp),fun h=>by rw [hl] at h;exact absurd h (by simp),fun h=>by rw [hl] at h;exact absurd h (by simp)⟩
 |true=>
  have O:=latticeB_order hl
  obtain⟨k1,h1⟩:=impl_LatticeOk.ev U
  obtain⟨k2,h2⟩:=impl_LeastOf.ev U
  have hm: ∃K,∀a b:Nat,a<U.length→b<U.length→ ∀k,K≤k→impl_meet.f k U a b=some (mI U a b):=Ev.all2 U.length fun a b ha hb=>impl_meet.ev O ha hb
  have hj: ∃K,∀a b:Nat,a<U.length→b<U.length→ ∀k,K≤k→impl_meet.f k (turnL U) a b=some (jI U a b):=Ev.all2 U.length fun a b ha hb=>impl_meet.ev_turn O ha hb
  obtain⟨k3,h3⟩:=hm
  obtain⟨k4,h4⟩:=hj
  obtain⟨k5,h5⟩:=impl_turned.ev O
  refine⟨k1+k2+k3+k4+k5,?_,fun _=>h5 _ (by omega),fun _ a b ha hb=>h3 a b ha hb _ (by omega),fun _ a b ha hb=>h4 a b ha hb _ (by omega),fun _=>?_⟩
  ·exact h1 _ (by omega)
  ·have:=h2 (k1+k2+k3+k4+k5) (by omega)
   rw [if_pos (orderB_iff.2 O)] at this
   exact this
theorem natcast_beq (x y : Nat) : ((x : Int) == (y : Int)) = (x == y) := by rw [Bool.eq_iff_iff, beq_iff_eq, beq_iff_eq]; constructor <;> intro h <;> omega
theorem filI_all (n : Nat) (p : Nat → Bool) : ((filI n p).length == n) = allN n p := by
 rw [Bool.eq_iff_iff,beq_iff_eq,allN_iff]
 unfold filI
 rw [List.length_map]
 constructor
 ·intro h i hi
  have h2:((List.range n).filter p).length=(List.range n).length:=by rw [h];simp
  have:=List.length_filter_eq_length_iff.1 h2 i (by simpa using hi)
  exact this
 ·intro h
  rw [List.filter_eq_self.2 (fun i hi=>h i (by simpa using hi))]
  simp
theorem Drawn0.quiet {P : Program} {f : FuncId} {args : Array Value} {w : World} {n : Nat} {v : Value}
 (h:Calls P f args (w.drewN n) fun e w'=>e= .returned v∧Drawn0 (w.drewN n) w'):Calls P f args (w.drewN n) fun e w''=>e= .returned v∧ ∃m,w''=w.drewN m:=
 h.mono fun _ _ ⟨he,⟨⟨m,hm⟩⟩⟩=>⟨he,n+m,by rw [hm,World.drewN_drewN]⟩
theorem Drawn0.quiet2 {P : Program} {f : FuncId} {args : Array Value} {w : World} {a n : Nat} {v : Value}
 (h:Calls P f args (w.drewN (a+n)) fun e w'=>e= .returned v∧Drawn0 (w.drewN (a+n)) w'):Calls P f args (w.drewN (a+n)) fun e w''=>e= .returned v∧ ∃m,w''=w.drewN (a+m):=
 h.mono fun _ _ ⟨he,⟨⟨m,hm⟩⟩⟩=>⟨he,n+m,by rw [hm,World.drewN_drewN,Nat.add_assoc]⟩
def splitB (U : List (List Int)) (a b c : Int) : Bool := andI U a (orI U b c) == orI U (andI U a b) (andI U a c)
theorem alg_split0.reads (g : Nat) (U : List (List Int)) (N : List Int) (v : Adr) (a : Int) (b : Int) (c : Int) (w : World) (L : Logic U N) (hV : View w g U N v) (ia : In U a) (ib : In U b) (ic : In U c) :
 Calls Try.prog 75 #[.pointer (some ⟨g,0,none⟩),.int .i64 a,.int .i64 b,.int .i64 c] w fun e w'=>e= .returned (.bool ((andI U a (orI U b c))==(orI U (andI U a b) (andI U a c))))∧Drawn0 w w':=by
 have hu70:=Try.underlying74
 have HV:=zqm hV
 have HLg:=zqm L
 have Ia:=zqm ia
 have Ib:=zqm ib
 have Ic:=zqm ic
 clear hV L ia ib ic
 have b0_:=eq_true Ib.out.1;have c0_:=eq_true Ib.out.2
 have b1_:=eq_true Ic.out.1;have c1_:=eq_true Ic.out.2
 have hf2_:=HV.out.f2
 have r3_:=HV.out.j b Ib.out
 have s4_:=HV.out.j2 b c Ib.out Ic.out
 have b5_:=eq_true Ia.out.1;have c5_:=eq_true Ia.out.2
 have IN1_:=zqm (HLg.out.in_or Ib.out Ic.out)
 have b6_:=eq_true IN1_.out.1;have c6_:=eq_true IN1_.out.2
 have hf1_:=HV.out.f1
 have r8_:=HV.out.m a Ia.out
 have s9_:=HV.out.m2 a (orI U b c) Ia.out IN1_.out
 have s10_:=HV.out.m2 a b Ia.out Ib.out
 have s11_:=HV.out.m2 a c Ia.out Ic.out
 have IN2_:=zqm (HLg.out.in_and Ia.out Ib.out)
 have b12_:=eq_true IN2_.out.1;have c12_:=eq_true IN2_.out.2
 have IN3_:=zqm (HLg.out.in_and Ia.out Ic.out)
 have b13_:=eq_true IN3_.out.1;have c13_:=eq_true IN3_.out.2
 have r14_:=HV.out.j (andI U a b) IN2_.out
 have s15_:=HV.out.j2 (andI U a b) (andI U a c) IN2_.out IN3_.out
 go_enter Try.func75,Try.ntmps75
 go_wp2_with fail
 go_quiet (fail)
 go_wp2
 go_ret
 exact⟨rfl,⟨⟨_,rfl⟩⟩⟩
theorem alg_split.reads (g : Nat) (U : List (List Int)) (N : List Int) (v : Adr) (a b c : Int) (w : World) (L : Logic U N) (hV : View w g U N v) (ia : In U a) (ib : In U b) (ic : In U c) :
 Calls Try.prog 75 #[.pointer (some ⟨g,0,none⟩),.int .i64 a,.int .i64 b,.int .i64 c] w fun e w'=>e= .returned (.bool (splitB U a b c))∧Drawn0 w w':=alg_split0.reads g U N v a b c w L hV ia ib ic
def booB (U : List (List Int)) : Bool := allN U.length fun a => allN U.length fun b => allN U.length fun c => splitB U a b c
theorem boo_c2 (g : Nat) (U : List (List Int)) (N : List Int) (v : Adr) (w : World) (L : Logic U N) (hV : View w g U N v) (gG gA gC : Nat) (a b c : Int) (ia : In U a) (ib : In U b) (ic : In U c)
 (hG:w.heap[gG]? =some (.cells #[.pointer (some ⟨g,0,none⟩)] 67 (0,0))) (hA:w.heap[gA]? =some (.cells #[.int .i64 a] 3 (0,0))) (hC:w.heap[gC]? =some (.cells #[.int .i64 c] 3 (0,0))):
 Calls Try.prog 74 #[.int .i64 b,.pointer (some ⟨gG,0,none⟩),.pointer (some ⟨gA,0,none⟩),.pointer (some ⟨gC,0,none⟩)] w fun e w'=>e= .returned (.bool (splitB U a c b))∧Below w.heap.size w w':=by
 have hu70:=Try.underlying74
 have HV:=zqm hV
 have HLg:=zqm L
 have Ia:=zqm ia
 have Ib:=zqm ib
 have Ic:=zqm ic
 have x0:w.cell? ⟨gG,0,none⟩=some (.pointer (some ⟨g,0,none⟩)):=(blk_cell hG 0).trans rfl
 have x1:w.cell? ⟨gA,0,none⟩=some (.int .i64 a):=(blk_cell hA 0).trans rfl
 have x2:w.cell? ⟨gC,0,none⟩=some (.int .i64 c):=(blk_cell hC 0).trans rfl
 clear hV L ia ib ic hG hA hC
 go_enter Try.func74,Try.ntmps74
 go_wp2_with (go_at_call 75;(with_reducible refine(alg_split.reads g U N v a c b _ HLg.out ?s1 Ia.out Ic.out Ib.out).mono ?_);(case s1=>repeat(first|exact HV.out|apply View.drewN));rintro e w' ⟨rfl,⟨⟨nd,rfl⟩⟩⟩)
 go_ret
 exact⟨rfl,by repeat(first|exact Below.refl _ _|apply pw_below_drewN|apply below_drew1)⟩
def boo_c1.T1 : Bool × List (List Nat × List Nat) := (true, [([], []), ([], []), ([0, 1], [0, 1]), ([2], [2]), ([], []), ([4], [4]), ([5], [5]), ([6], [6]), ([7], [7]), ([3, 8], [3, 8]), ([9, 2, 0, 1, 2, 3, 4, 5, 6, 7, 8, 9], [9])])
def boo_c1.B1 : List Nat := [0, 0, 3, 7, 0, 16, 48, 112, 240, 511, 1023]
theorem boo_c1.tab1 : rtab .any (opsOf Try.f72 1) = boo_c1.T1 := by kernel_rfl
theorem boo_c1.bits1 : waitsOk boo_c1.T1.2 boo_c1.B1 = true := by kernel_rfl
set_option maxHeartbeats 4000000 in
set_option maxRecDepth 100000 in
theorem boo_c1 (g : Nat) (U : List (List Int)) (N : List Int) (v : Adr) (w : World) (L : Logic U N) (hV : View w g U N v) (gG : Nat) (a c : Int) (ia : In U a) (ic : In U c) (hG : w.heap[gG]? = some (.cells #[.pointer (some ⟨g, 0, none⟩)] 67 (0, 0))) :
 Calls Try.prog 72 #[.int .i64 a,.int .i64 c,.pointer (some ⟨gG,0,none⟩)] w fun e w'=>e= .returned (.bool (allN U.length fun b=>splitB U a c b))∧Below w.heap.size w w':=by
 have hu70:=Try.underlying74
 have HV:=zqm hV
 have HLg:=zqm L
 have Ia:=zqm ia
 have Ic:=zqm ic
 have HG:=zqm hG
 clear hV L ia ic hG
 rw [← filI_all]
 go_enter Try.func72,Try.ntmps72
 go_wp2_with (first|((with_reducible refine gate_dst (N:=3) rfl ?_);refine box_event ?hg (N:=3) ?hd (cs:= #[.int .i64 a]) (t:=3) ?hr ?_;(case hd=>rfl);(case hg=>rfl);(case hr=> exact zq9);intro gA hg_ w1 hbox hb;have HXA:=zqm hbox;have HB1:=zqm hb;have HG1:=zqm (blk_below HG.out hb);have HV1:=zqm (HV.out.below hb);clear hbox hb hg_)|((with_reducible refine gate_dst (N:=4) rfl ?_);refine box_event ?hg (N:=4) ?hd (cs:= #[.int .i64 c]) (t:=3) ?hr ?_;(case hd=>rfl);(case hg=>rfl);(case hr=> exact zq9);intro gC hg_ w2 hbox hb;have HXC:=zqm hbox;have HB2:=zqm (below_step HB1.out hb);have HXA2:=zqm (blk_below HXA.out hb);have HG2:=zqm (blk_below HG1.out hb);have HV2:=zqm (HV1.out.below hb);clear HB1 HXA HG1 HV1;clear hbox hb hg_))
 refine start_ (n:=11) (S:=(fun w'=>w'.cell? ⟨gG,0,none⟩=some (.pointer (some ⟨g,0,none⟩))∧w'.cell? ⟨g,0,none⟩=some (.slice (some v.aU) U.length v.cU))) (ds:= []) (zqb 11 0) zqk rfl rfl ⟨(blk_cell (blk_drew HG2.out) 0).trans rfl,(HV2.out.below (below_drew1 (Below.refl _ _))).f0⟩ (fun hHeld=>?_)
 refine with_tabW boo_c1.tab1 boo_c1.bits1 (fun HT_ HW_=>?_)
 generalize hwd:w2.drew=wd at hHeld ⊢
 have HB3:=zqm (show Below w.heap.size w wd from hwd ▸ below_drew1 HB2.out)
 replace HG2:=zqm (hwd ▸ blk_drew HG2.out)
 replace HXA2:=zqm (hwd ▸ blk_drew HXA2.out)
 replace HXC:=zqm (hwd ▸ blk_drew HXC.out)
 replace HV2:=zqm (show View wd g U N v from hwd ▸ HV2.out.below (below_drew1 (Below.refl _ _)))
 clear hwd HB2
 refine zqw 0 6 (zqb 11 1) HT_ HW_ hHeld ?_
 refine zqp 1 7 (zqb 11 3) HT_ ?_
 refine zqw 4 10 (zqb 11 19) HT_ HW_ hHeld ?_
 refine zqp 5 11 (zqb 11 51) HT_ ?_
 refine zqp 6 12 (zqb 11 115) HT_ ?_
 refine zqw 7 13 (zqb 11 243) HT_ HW_ hHeld ?_
 refine zqp 8 14 (zqb 11 499) HT_ ?_
 refine one_ (i:=2) (N:=some 8) (zqb 11 503) rfl rfl (one_of HT_.out zqk) (by decide) (fun K hK=>?_)
 refine goes_ Try.func73 zqk rfl #[.pointer (some ⟨g,0,none⟩),.func (.func 74) #[] #[.pointer (some ⟨gG,0,none⟩),.pointer (some ⟨gA,0,none⟩),.pointer (some ⟨gC,0,none⟩)]] (by rfl) rfl rfl zq26 ?_
 refine(all_calls g U N v _ HLg.out.small HV2.out 74 _ _ Try.func74 zqk rfl (fun b:Nat=>splitB U a c b) (fun b hb W hW=>?_)).mono ?_
 ·exact boo_c2 g U N v W HLg.out (HV2.out.below hW) gG gA gC a b c Ia.out ⟨by omega,by omega⟩ Ic.out (blk_below HG2.out hW) (blk_below HXA2.out hW) (blk_below HXC.out hW)
 rintro e w4 ⟨vo,rfl,ho,hb⟩
 obtain⟨Ao,co,rfl⟩:=Kd.R_slice ho
 refine⟨_,rfl,?_⟩
 refine hK.out _ _ ⟨(blk_cell (blk_below HG2.out hb) 0).trans rfl,(HV2.out.below hb).f0⟩ (fun hHeld4=>?_)
 have HB4:=zqm (below_step HB3.out hb)
 clear hK K ho hb
 (try simp only [Act.put,List.setIfInBounds_toArray,List.set_cons_zero,List.set_cons_succ])
 refine zqp 3 9 (zqb 11 511) HT_ ?_
 refine zqp 9 15 (zqb 11 1023) HT_ ?_
 refine zqp 10 5 (zqb 11 2047) HT_ ?_
 refine done_ (done_of HT_.out zqk) ?_
 go_wp2
 go_ret
 refine⟨?_,by repeat(first|exact HB4.out|apply pw_below_drewN|apply below_drew1)⟩
 show Ending.returned (Value.bool (((filI U.length fun b=>splitB U a c (b:Int)).length:Int)==(U.length:Int)))=_
 rw [natcast_beq]
def impl_BooleanOk.f (l0_0 : List (List Int)) (l0_1 : List Int) : Option (Bool) := some (if logicB l0_0 l0_1 = true then booB l0_0 else false)
set_option maxHeartbeats 4000000 in
set_option maxRecDepth 100000 in
theorem impl_BooleanOk.calls (A0_0 : Option Addr) (c0_0 : Nat) (l0_0 : List (List Int)) (A0_1 : Option Addr) (c0_1 : Nat) (l0_1 : List Int) (r : Bool) (w : World) (hr0_0 : Kd.C (Kd.slice 3 (Kd.int .i64)) w A0_0 l0_0.length l0_0) (hc0_0 : l0_0.length ≤ c0_0) (hr0_1 : Kd.C (Kd.int .i64) w A0_1 l0_1.length l0_1) (hc0_1 : l0_1.length ≤ c0_1) (h : impl_BooleanOk.f l0_0 l0_1 = some r) :
 Calls Try.prog 15 #[.agg #[.slice A0_0 l0_0.length c0_0,.slice A0_1 l0_1.length c0_1]] w fun e w'=>e= .returned (.bool r)∧Below w.heap.size w w':=by
 obtain⟨k,hF⟩:=told_facts l0_0
 have hu30:=Try.underlying26
 have hu70:=Try.underlying74
 have HF:=zqm hF
 have HR0:=zqm hr0_0
 have HC0:=zqm hc0_0
 have HR1:=zqm hr0_1
 have HC1:=zqm hc0_1
 simp only [impl_BooleanOk.f,Option.some.injEq] at h
 clear hr0_0 hc0_0 hr0_1 hc0_1 hF
 cases hL:logicB l0_0 l0_1 with
 |false=>
  rw [hL] at h
  have hr_:false=r:=by simpa using h
  subst hr_
  have HLB:=zqm hL
  clear h hL
  go_enter Try.func15,Try.ntmps15
  go_wp2_with (first|((with_reducible refine gate_dst (N:=1) rfl ?_);refine box_event ?hg (N:=1) ?hd (cs:= #[.slice A0_0 l0_0.length c0_0,.slice A0_1 l0_1.length c0_1]) (t:=26) ?hr ?_;(case hd=>rfl);(case hg=>rfl);(case hr=> exact zq9);intro gb hg_ w1 hbox hb;have HB:=zqm hb;have hx0:w1.cell? ⟨gb,0,none⟩=some (.slice A0_0 l0_0.length c0_0):=(blk_cell hbox 0).trans rfl;have hx1:w1.cell? ⟨gb,1,none⟩=some (.slice A0_1 l0_1.length c0_1):=(blk_cell hbox 1).trans rfl;have HX:=zqm hbox;clear hbox hb hg_)|(go_at_call 70;(with_reducible refine(told_n k _ _ l0_0 _ _ l0_1 _ ?s1 ?s2 ?s3 ?s4 HF.out HLB.out).mono ?_);(case s1=> exact zq143);(case s2=>exact HC0.out);(case s3=> exact zq158);(case s4=>exact HC1.out);rintro e w2 ⟨rfl,hb⟩;have HB2:=zqm (below_step HB.out hb);clear hb hx0 hx1 HX HB))
  go_ret
  exact⟨rfl,zq141⟩
 |true=>
  rw [hL] at h
  have hr_:booB l0_0=r:=by simpa using h
  subst hr_
  have HLB:=zqm hL
  have HLg:=zqm (logicB_iff.1 hL)
  clear h hL
  go_enter Try.func15,Try.ntmps15
  go_wp2_with (first|((with_reducible refine gate_dst (N:=1) rfl ?_);refine box_event ?hg (N:=1) ?hd (cs:= #[.slice A0_0 l0_0.length c0_0,.slice A0_1 l0_1.length c0_1]) (t:=26) ?hr ?_;(case hd=>rfl);(case hg=>rfl);(case hr=> exact zq9);intro gb hg_ w1 hbox hb;have HB:=zqm hb;have hx0:w1.cell? ⟨gb,0,none⟩=some (.slice A0_0 l0_0.length c0_0):=(blk_cell hbox 0).trans rfl;have hx1:w1.cell? ⟨gb,1,none⟩=some (.slice A0_1 l0_1.length c0_1):=(blk_cell hbox 1).trans rfl;have HX:=zqm hbox;clear hbox hb hg_)|(go_at_call 70;(with_reducible refine(told_y k _ _ l0_0 _ _ l0_1 _ ?s1 ?s2 ?s3 ?s4 HF.out HLB.out).mono ?_);(case s1=> exact zq143);(case s2=>exact HC0.out);(case s3=> exact zq158);(case s4=>exact HC1.out);rintro e w2 ⟨g,v,rfl,hv,hge,hb⟩;have HB2:=zqm (below_step HB.out hb);have HV:=zqm hv;clear hv hge hb hx0 hx1 HX HB)|(go_at_call 71;(with_reducible refine(every_pure g l0_0 l0_1 v _ HLg.out.small ?sV 72 _ #[.pointer (some ⟨w2.heap.size,0,none⟩)] Try.func72 zqk rfl (fun a c=>allN l0_0.length fun b=>splitB l0_0 a c b) ?sT).mono ?_);(case sV=>exact HV.out.below (below_alloc (Below.refl _ _) _));(case sT=>exact fun a c ha hc W hW=>boo_c1 g l0_0 l0_1 v W HLg.out ((HV.out.below (below_alloc (Below.refl _ _) _)).below hW) w2.heap.size a c ⟨by omega,by omega⟩ ⟨by omega,by omega⟩ (blk_below (MapKept.heap_alloc w2 _).1 hW));rintro e w3 ⟨rfl,hb⟩;have HB3:=zqm (below_step (below_step HB2.out (below_alloc (Below.refl _ _) _)) hb);clear hb))
  go_ret
  exact⟨rfl,zq139⟩
end Go.Proofs.Ytcbjpdaogicibaa.Print
end
