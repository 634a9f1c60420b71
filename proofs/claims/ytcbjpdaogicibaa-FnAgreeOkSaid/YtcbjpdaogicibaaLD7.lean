/- Part 7 of what is common to several claims of this seat: AgreeOkL. -/
import Derived.Test.YtcbjpdaogicibaaLD6
import Derived.Below
import Derived.Deep.Draws
import Derived.Deep.AppendLies
import Derived.Maps.AppendAt
import Derived.OwnWalk
import Derived.Laws.BytesArg
import Derived.Laws.MakeOwn
import Derived.Laws.OwnMore
import Derived.Deep.OwnRows
import Derived.Tactics
import Derived.Lib.ConvBytes
import Derived.Laws.Slices
import Derived.WalkKit
import Derived.KernelRfl
import Derived.RowKit3
import Derived.Deep.LoopGhost
import Derived.Deep.QuietTactic
import Derived.BigQuiet
import Derived.WideLaws
import Derived.Deep.DeepCutAuto
import Derived.Deep.CutBlock
import Derived.Deep.RegionHeld3
import Derived.Laws.Rows
import Derived.Lib.AppendStr
import Derived.ArgAppend
import Derived.Laws.IdiomCopy
import Derived.RowKit
import Derived.OrdersHeld
import Derived.Laws.BitsLemmas
import Derived.Test.YtcbjpdaogicibaaProg
import Derived.Laws.Bits64b
set_option linter.all false
section
namespace Go.Proofs.Ytcbjpdaogicibaa.Print
open Go.RowKit Go.Proofs.YtcbjpdaogicibaaW.PrintWords Go.Proofs.YtcbjpdaogicibaaW.PrintLast Go.Proofs.YtcbjpdaogicibaaW.PrintMore
open Oml
theorem ofInt_nat (a : Nat) (ha : a < 18446744073709551616) : (BitVec.ofInt 64 (a : Int)).toNat = a := by
 rw [BitVec.ofInt_natCast, BitVec.toNat_ofNat]; exact Nat.mod_eq_of_lt (by omega)
theorem band_nat (a b : Nat) (ha : a < 4611686018427387904) (hb : b < 4611686018427387904) : Go.bits .and .i64 (a : Int) (b : Int) = ((a &&& b : Nat) : Int) := by
 have hx:a &&& b<2 ^ 62:=Nat.and_lt_two_pow _ (by omega)
 show IntKind.i64.wrap ((BitVec.ofInt 64 (a:Int) &&& BitVec.ofInt 64 (b:Int)).toNat:Int)=_
 rw [BitVec.toNat_and,ofInt_nat a (by omega),ofInt_nat b (by omega),i64_w]
 unfold wrap64;omega
theorem bor_nat (a b : Nat) (ha : a < 4611686018427387904) (hb : b < 4611686018427387904) : Go.bits .or .i64 (a : Int) (b : Int) = ((a ||| b : Nat) : Int) := by
 have hx:a|||b<2 ^ 62:=Nat.or_lt_two_pow (by omega) (by omega)
 show IntKind.i64.wrap ((BitVec.ofInt 64 (a:Int)|||BitVec.ofInt 64 (b:Int)).toNat:Int)=_
 rw [BitVec.toNat_or,ofInt_nat a (by omega),ofInt_nat b (by omega),i64_w]
 unfold wrap64;omega
theorem two_pow_le {i : Nat} (h : i ≤ 40) : (2 : Nat) ^ i ≤ 1099511627776 := Nat.pow_le_pow_right (by omega) h
theorem cast_pow (i : Nat) : (2 : Int) ^ i = ((2 ^ i : Nat) : Int) := by rw [Int.natCast_pow]; rfl
theorem shl_nat {i : Nat} (h : i ≤ 40) : shl .i64 1 (i : Int) = ((2 ^ i : Nat) : Int) := by
 unfold shl
 have h2:=two_pow_le h
 rw [Int.toNat_natCast,Nat.min_eq_left (by show i≤64;omega),Int.one_mul,cast_pow,i64_w]
 generalize 2 ^ i=x at h2 ⊢
 unfold wrap64;omega
theorem wshl_nat {i : Nat} (h : i ≤ 40) : IntKind.i64.wrap (2 ^ i) = ((2 ^ i : Nat) : Int) := by
 have:=shl_nat h
 unfold shl at this
 rwa [Int.toNat_natCast,Nat.min_eq_left (by show i≤64;omega),Int.one_mul] at this
theorem shr_nat (s : Nat) {i : Nat} (h : i ≤ 64) : shr .i64 (s : Int) (i : Int) = ((s / 2 ^ i : Nat) : Int) := by
 unfold shr
 rw [Int.toNat_natCast,Nat.min_eq_left (by show i≤64;omega),cast_pow]
 rfl
theorem testBit_div (s i : Nat) : s.testBit i = decide (s / 2 ^ i % 2 = 1) := Nat.testBit_eq_decide_div_mod_eq
theorem smod_nat (s : Nat) {i : Nat} (h : i ≤ 64) : Int.tmod (shr .i64 (s : Int) (i : Int)) 2 = if s.testBit i = true then 1 else 0 := by
 rw [shr_nat s h,testBit_div]
 have h1:Int.tmod ((s / 2 ^ i:Nat):Int) ((2:Nat):Int)=((s / 2 ^ i % 2:Nat):Int):=by first|exact(Int.ofNat_tmod _ 2).symm|rfl
 rw [show ((2:Nat):Int)=2 from rfl] at h1
 rw [h1]
 by_cases e:s / 2 ^ i % 2=1
 ·rw [e];simp
 ·have:s / 2 ^ i % 2=0:=by omega
  rw [this];simp
def setB (n : Nat) (p : Nat → Bool) : Nat :=
 match n with
 | 0 => 0
 | n + 1 => setB n p ||| (if p n = true then 2 ^ n else 0)
theorem setB_bit (n : Nat) (p : Nat → Bool) (i : Nat) : (setB n p).testBit i = (decide (i < n) && p i) := by
 induction n with
 |zero=>simp [setB]
 |succ n ih=>
  simp only [setB,Nat.testBit_or,ih]
  by_cases e:i=n
  ·subst e
   cases h:p i <;> simp [h,Nat.testBit_two_pow]
  ·have:(if p n=true then 2 ^ n else 0).testBit i=false:=by
    split
    ·rw [Nat.testBit_two_pow];simp;omega
    ·simp
   rw [this,Bool.or_false]
   congr 1
   rw [Bool.eq_iff_iff];simp;omega
theorem setB_lt (n : Nat) (p : Nat → Bool) : setB n p < 2 ^ n := by
 refine Nat.lt_pow_two_of_testBit _ fun i hi => ?_
 rw [setB_bit]; simp; omega
theorem setB_small {n : Nat} (h : n ≤ 40) (p : Nat → Bool) : setB n p < 1099511627776 := by have := setB_lt n p; have := two_pow_le h; omega
theorem eq_setB {n s : Nat} (h : s < 2 ^ n) : s = setB n s.testBit := by
 refine Nat.eq_of_testBit_eq fun i=>?_
 rw [setB_bit]
 by_cases hi:i<n
 ·simp [hi]
 ·rw [Nat.testBit_lt_two_pow (Nat.lt_of_lt_of_le h (Nat.pow_le_pow_right (by omega) (by omega)))];simp [hi]
theorem setB_congr {n : Nat} {p q : Nat → Bool} (h : ∀ i, i < n → p i = q i) : setB n p = setB n q := by
 refine Nat.eq_of_testBit_eq fun i=>?_
 rw [setB_bit,setB_bit]
 by_cases hi:i<n
 ·rw [h i hi]
 ·simp [hi]
theorem setB_or (n : Nat) (p q : Nat → Bool) : setB n p ||| setB n q = setB n fun i => p i || q i := by
 refine Nat.eq_of_testBit_eq fun i=>?_
 rw [Nat.testBit_or,setB_bit,setB_bit,setB_bit]
 cases decide (i<n) <;> simp
theorem setB_and (n : Nat) (p q : Nat → Bool) : setB n p &&& setB n q = setB n fun i => p i && q i := by
 refine Nat.eq_of_testBit_eq fun i=>?_
 rw [Nat.testBit_and,setB_bit,setB_bit,setB_bit]
 cases decide (i<n) <;> simp
theorem setB_one {n k : Nat} (h : k < n) : 2 ^ k = setB n fun i => i == k := by
 refine Nat.eq_of_testBit_eq fun i => ?_
 rw [setB_bit, Nat.testBit_two_pow]
 rw [Bool.eq_iff_iff]; simp; omega
theorem setB_all (n : Nat) : 2 ^ n - 1 = setB n fun _ => true := by
 refine Nat.eq_of_testBit_eq fun i => ?_
 rw [setB_bit, Nat.testBit_two_pow_sub_one]; simp
theorem setB_none (n : Nat) : setB n (fun _ => false) = 0 := by
 refine Nat.eq_of_testBit_eq fun i => ?_
 rw [setB_bit]; simp
def setOk (U : List (List Int)) (s : Int) : Bool := decide (0 < s) && decide (s < ((2 ^ U.length : Nat) : Int))
theorem isset_nil (s : Int) (w : World) : Calls Try.prog 92 #[.pointer none, .int .i64 s] w fun e w' => e = .returned (.bool false) ∧ Below w.heap.size w w' := by
 have hu70:=Try.underlying74
 go_enter Try.func92,Try.ntmps92
 go_wp2
 go_ret
 exact⟨rfl,by repeat(first|exact Below.refl _ _|apply pw_below_drewN|apply below_drew1)⟩
set_option maxHeartbeats 1000000 in
theorem isset_calls (g : Nat) (U : List (List Int)) (N : List Int) (v : Adr) (w : World) (L : Logic U N) (hV : View w g U N v) (s : Int) : Calls Try.prog 92 #[.pointer (some ⟨g, 0, none⟩), .int .i64 s] w fun e w' => e = .returned (.bool (setOk U s)) ∧ Below w.heap.size w w' := by
 have hu70:=Try.underlying74
 have hf0:=hV.f0
 obtain⟨mv,hmv⟩: ∃mv:Int,mv=((2 ^ U.length:Nat):Int):=⟨_,rfl⟩
 have e1_:wrap64 (2 ^ min U.length 64)=mv:=by rw [Nat.min_eq_left (show U.length≤64 by have:=L.small;omega),← i64_w,wshl_nat (by have:=L.small;omega),hmv]
 unfold setOk
 rw [← hmv]
 clear hV L hmv
 by_cases h1:0<s
 ·have p1:(0<s)=True:=eq_true h1
  have p1':decide (0<s)=true:=decide_eq_true h1
  clear h1
  by_cases h2:s<mv
  ·have p2:(s<mv)=True:=eq_true h2
   have p2':decide (s<mv)=true:=decide_eq_true h2
   rw [p1',p2']
   clear h2
   go_enter Try.func92,Try.ntmps92
   go_wp2
   go_ret
   exact⟨rfl,by repeat(first|exact Below.refl _ _|apply pw_below_drewN|apply below_drew1)⟩
  ·have p2:(s<mv)=False:=eq_false h2
   have p2':decide (s<mv)=false:=decide_eq_false h2
   rw [p1',p2']
   clear h2
   go_enter Try.func92,Try.ntmps92
   go_wp2
   go_ret
   exact⟨rfl,by repeat(first|exact Below.refl _ _|apply pw_below_drewN|apply below_drew1)⟩
 ·have p1:(0<s)=False:=eq_false h1
  have p1':decide (0<s)=false:=decide_eq_false h1
  rw [p1',Bool.false_and]
  clear h1
  go_enter Try.func92,Try.ntmps92
  go_wp2
  go_ret
  exact⟨rfl,by repeat(first|exact Below.refl _ _|apply pw_below_drewN|apply below_drew1)⟩
end Go.Proofs.Ytcbjpdaogicibaa.Print
end
section
namespace Go.Proofs.Ytcbjpdaogicibaa.Print
open Go.RowKit Go.Proofs.YtcbjpdaogicibaaW.PrintWords Go.Proofs.YtcbjpdaogicibaaW.PrintLast Go.Proofs.YtcbjpdaogicibaaW.PrintMore
section
attribute [local go_sem] max2_int min2_int max_two min_two max_three min_three max_four min_four
def impl_has.f (a0 : Int) (a1 : Int) : Option (Bool) := if 0 ≤ a1 then (some ((Go.bits .and .i64 (shr .i64 a0 a1) 1) == 1)) else (none)
set_option maxHeartbeats 8000000 in
set_option maxRecDepth 100000 in
theorem impl_has.calls (a0 : Int) (a1 : Int) (r : Bool) (w : World) (h : impl_has.f a0 a1 = some r) :
  Calls Try.prog 88 #[.int .i64 a0, .int .i64 a1] w fun e w' => e = .returned (.bool r) ∧ Drawn0 w w' := by
 have H : (if 0 ≤ a1 then (some ((Go.bits .and .i64 (shr .i64 a0 a1) 1) == 1)) else (none)) = some r := h
 clear h
 by_cases c3 : 0 ≤ a1
 ·rw [if_pos c3] at H
  have c3b0 := eq_true c3
  have c3b1 : decide (0 ≤ a1) = true := decide_eq_true c3
  clear c3
  obtain ⟨ji4, hji4⟩ : ∃ j_ : Int, (shr .i64 a0 a1) = j_ := ⟨_, rfl⟩
  replace H : (some ((Go.bits .and .i64 (ji4) 1) == 1)) = some r := by first | (rw [hji4] at H; exact H) | (simp only [hji4] at H ⊢; exact H)
  have hji4_ : (a0 / 2 ^ min a1.toNat 64) = ji4 := hji4
  have hji4z : a1 ≤ 64 → (a0 / 2 ^ a1.toNat) = ji4 := shr_small hji4
  obtain rfl := Option.some.inj H
  go_enter Try.func88, Try.ntmps88
  go_wp2
  go_ret
  exact ⟨by first | rfl | (simp; done) | (simp only [← hji4] <;> (first | rfl | simp)) | (simp [*]; done), by repeat (first | exact Drawn0.refl _ | apply Drawn0.step)⟩
 ·rw [if_neg c3] at H
  exact absurd H (by simp)
end
end Go.Proofs.Ytcbjpdaogicibaa.Print
end
section
namespace Go.Proofs.Ytcbjpdaogicibaa.Print
open Go.RowKit Go.Proofs.YtcbjpdaogicibaaW.PrintWords Go.Proofs.YtcbjpdaogicibaaW.PrintLast Go.Proofs.YtcbjpdaogicibaaW.PrintMore
open Oml
theorem has_nat (s : Nat) (hs : s < 4611686018427387904) {i : Nat} (h : i ≤ 64) : impl_has.f (s : Int) (i : Int) = some (s.testBit i) := by
 unfold impl_has.f
 rw [if_pos (by omega),shr_nat s h,show (1:Int)=((1:Nat):Int) from rfl,band_nat _ _ (Nat.lt_of_le_of_lt (Nat.div_le_self _ _) hs) (by omega),Nat.and_one_is_mod,testBit_div]
 have h2:s / 2 ^ i % 2=0∨s / 2 ^ i % 2=1:=by omega
 rcases h2 with h2|h2 <;> rw [h2] <;> rfl
def withB (U : List (List Int)) (N : List Int) (a b : Int) : Bool := orI U (andI U a b) (andI U a (notI N b)) == a
def bothB (U : List (List Int)) (N : List Int) (a b : Int) : Bool := withB U N a b && withB U N b a
theorem alg_with0.reads (g : Nat) (U : List (List Int)) (N : List Int) (v : Adr) (a : Int) (b : Int) (w : World) (L : Logic U N) (hV : View w g U N v) (ia : In U a) (ib : In U b) :
 Calls Try.prog 150 #[.pointer (some ⟨g,0,none⟩),.int .i64 a,.int .i64 b] w fun e w'=>e= .returned (.bool ((orI U (andI U a b) (andI U a (notI N b)))==a))∧Drawn0 w w':=by
 have hu70:=Try.underlying74
 have HV:=zqm hV
 have HLg:=zqm L
 have Ia:=zqm ia
 have Ib:=zqm ib
 clear hV L ia ib
 have b0_:=eq_true Ia.out.1;have c0_:=eq_true Ia.out.2
 have b1_:=eq_true Ib.out.1;have c1_:=eq_true Ib.out.2
 have hf1_:=HV.out.f1
 have r3_:=HV.out.m a Ia.out
 have s4_:=HV.out.m2 a b Ia.out Ib.out
 have hf3_:=HV.out.f3
 have n6_:=HV.out.n b Ib.out
 have IN1_:=zqm (HLg.out.in_not Ib.out)
 have b7_:=eq_true IN1_.out.1;have c7_:=eq_true IN1_.out.2
 have s8_:=HV.out.m2 a (notI N b) Ia.out IN1_.out
 have IN2_:=zqm (HLg.out.in_and Ia.out Ib.out)
 have b9_:=eq_true IN2_.out.1;have c9_:=eq_true IN2_.out.2
 have IN3_:=zqm (HLg.out.in_and Ia.out IN1_.out)
 have b10_:=eq_true IN3_.out.1;have c10_:=eq_true IN3_.out.2
 have hf2_:=HV.out.f2
 have r12_:=HV.out.j (andI U a b) IN2_.out
 have s13_:=HV.out.j2 (andI U a b) (andI U a (notI N b)) IN2_.out IN3_.out
 go_enter Try.func150,Try.ntmps150
 go_wp2_with fail
 go_quiet (fail)
 go_wp2
 go_ret
 exact⟨rfl,⟨⟨_,rfl⟩⟩⟩
theorem alg_with.reads (g : Nat) (U : List (List Int)) (N : List Int) (v : Adr) (a b : Int) (w : World) (L : Logic U N) (hV : View w g U N v) (ia : In U a) (ib : In U b) :
 Calls Try.prog 150 #[.pointer (some ⟨g,0,none⟩),.int .i64 a,.int .i64 b] w fun e w'=>e= .returned (.bool (withB U N a b))∧Drawn0 w w':=alg_with0.reads g U N v a b w L hV ia ib
theorem alg_both.reads (g : Nat) (U : List (List Int)) (N : List Int) (v : Adr) (a b : Int) (w : World) (L : Logic U N) (hV : View w g U N v) (ia : In U a) (ib : In U b) :
 Calls Try.prog 138 #[.pointer (some ⟨g,0,none⟩),.int .i64 a,.int .i64 b] w fun e w'=>e= .returned (.bool (bothB U N a b))∧Drawn0 w w':=by
 have HV:=zqm hV
 have HLg:=zqm L
 have Ia:=zqm ia
 have Ib:=zqm ib
 clear hV L ia ib
 unfold bothB
 obtain⟨p,hp⟩: ∃p,withB U N a b=p:=⟨_,rfl⟩
 obtain⟨q,hq⟩: ∃q,withB U N b a=q:=⟨_,rfl⟩
 have HP:=zqm hp
 have HQ:=zqm hq
 rw [hp,hq]
 clear hp hq
 cases p with
 |false=>
  go_enter Try.func138,Try.ntmps138
  go_wp2_with (go_at_call 150;(with_reducible refine(alg_with.reads g U N v a b _ HLg.out ?s1 Ia.out Ib.out).mono ?_);(case s1=>repeat(first|exact HV.out|apply View.drewN));rintro e w' ⟨he,⟨⟨nd,rfl⟩⟩⟩;rw [HP.out] at he;subst he)
  go_ret
  exact⟨by first|rfl|simp,⟨⟨_,rfl⟩⟩⟩
 |true=>
  go_enter Try.func138,Try.ntmps138
  go_wp2_with (first|(go_at_call 150;(with_reducible refine(alg_with.reads g U N v a b _ HLg.out ?s1 Ia.out Ib.out).mono ?_);(case s1=>repeat(first|exact HV.out|apply View.drewN));rintro e w' ⟨he,⟨⟨nd,rfl⟩⟩⟩;rw [HP.out] at he;subst he)|(go_at_call 150;(with_reducible refine(alg_with.reads g U N v b a _ HLg.out ?s1 Ib.out Ia.out).mono ?_);(case s1=>repeat(first|exact HV.out|apply View.drewN));rintro e w' ⟨he,⟨⟨nd2,rfl⟩⟩⟩;rw [HQ.out] at he;subst he))
  go_ret
  exact⟨by first|rfl|simp,⟨⟨_,rfl⟩⟩⟩
theorem goesV_ {P : Program} {ops : Array Oper} {Q : Exit → Act → World → Prop} {rest : List Oper} {oi : Oper} {a : Act} {w : World} (N : Option Tmp) (hd : oi.dst = N) (hg : oi.guard = none) {f : FuncId} {fn : Func} {x : Operand} {xo : Array Operand} {ts : Array TypeId} {cs : Array Value}
 (hf : P.funcs[f]? = some fn) (hname : (fn.name == "runtime.NumGoroutine") = false) (hb : fn.body.isSome = true) (args : Array Value)
 (hop : oi.op = .call { callee := .value x, args := xo, argTypes := ts }) (hx : a.eval x = .func (.func f) #[] cs) (hargs : xo.map a.eval = args)
 (h : Calls P f (args ++ cs) w fun e w' => ∃ v, e = .returned v ∧ wpList P ops Q rest (a.put N v) w') : wpList P ops Q (oi :: rest) a w := by
 refine wpList_plain hg fun K hK => ?_
 have he := enters_ hf hname hb (args ++ cs) w
 have hrun : (execOp a.eval oi).run P w = .ok (.enter f (args ++ cs)) w := by
  unfold execOp
  simp [hop, resolve, Deferred.ofValue, invoke, hx, hargs, he]
 unfold Oper.wp
 rw [hrun, Oper.upon_enter]
 refine h.mono fun e w'' hh => ?_
 obtain ⟨v, rfl, hk⟩ := hh
 subst hd
 exact hK _ _ hk
set_option maxHeartbeats 1000000 in
set_option maxRecDepth 100000 in
theorem every_calls (g : Nat) (U : List (List Int)) (N : List Int) (v : Adr) (w : World) (hs : U.length ≤ 12) (fv : Nat) (fn : Func) (cs : Array Value) (hf : Try.prog.funcs[fv]? = some fn) (hname : (fn.name == "runtime.NumGoroutine") = false) (hb : fn.body.isSome = true)
 (p : Nat → Nat → Bool) (J : Nat → World → Prop) (hV : ∀ i w', J i w' → View w' g U N v) (hD : ∀ i w' n, J i w' → J i (w'.drewN n)) (h0 : J 0 w)
 (step : ∀ a b : Nat, a < U.length → b < U.length → ∀ w', J (a * U.length + b) w' → Calls Try.prog fv (#[.int .i64 a, .int .i64 b] ++ cs) w' fun e w'' => e = .returned (.bool (p a b)) ∧ J (a * U.length + b + 1) w'') :
 Calls Try.prog 71 #[.pointer (some ⟨g, 0, none⟩), .func (.func fv) #[] cs] w fun e w' =>
  e = .returned (.bool (allN U.length fun a => allN U.length fun b => p a b)) ∧ ∃ i, J i w' ∧ ((allN U.length fun a => allN U.length fun b => p a b) = true → i = U.length * U.length) := by
 obtain ⟨r, hr⟩ : ∃ r, r = allN U.length fun a => allN U.length fun b => p a b := ⟨_, rfl⟩
 rw [← hr]
 have hu70 := Try.underlying74
 have HF := Aside0.mk hf
 have HNM := Aside0.mk hname
 have HBD := Aside0.mk hb
 have HV := Aside0.mk hV
 have HD := Aside0.mk hD
 have HJ0 := Aside0.mk h0
 have HST := Aside0.mk step
 have HR := Aside0.mk hr
 have hf0 := (hV 0 w h0).f0
 clear hf hname hb hV hD h0 step hr
 go_enter Try.func71, Try.ntmps71
 go_wp2_with fail
 go_loopg [12] (U.length + 1) (fun kq v12 W => ∃ i s : Nat, v12 = .int .i64 i ∧ Aside0 (i + kq = U.length + 1) ∧ Aside0 (i ≤ U.length) ∧ Aside0 (s = i * U.length) ∧ Aside0 (∀ a, a < i → ∀ b, b < U.length → p a b = true) ∧ Aside0 (J s W))
 case atStart => exact ⟨0, 0, rfl, ⟨by omega⟩, ⟨by omega⟩, ⟨by simp⟩, ⟨fun j hj => absurd hj (by omega)⟩, ⟨by first | exact HJ0.out | exact HD.out _ _ _ HJ0.out⟩⟩
 case round =>
  clear hf0
  obtain ⟨i, s, rfl, HK, HK2, HSI, HS, HJ⟩ := hrel
  have hf0 := (HV.out _ _ HJ.out).f0
  cases gk with
  | zero => exact absurd HK.out (by have := HK2.out; omega)
  | succ kn =>
  by_cases hlt : i < U.length
  ·have hlt' : decide (i < U.length) = true := decide_eq_true hlt
   have HLT := Aside0.mk hlt
   clear hlt
   go_wp2_with fail
   go_loopg [20] (U.length + 1) (fun kq v20 W => ∃ j : Nat, v20 = .int .i64 j ∧ Aside0 (j + kq = U.length + 1) ∧ Aside0 (j ≤ U.length) ∧ Aside0 (∀ b, b < j → p i b = true) ∧ Aside0 (J (s + j) W))
   case atStart => exact ⟨0, rfl, ⟨by omega⟩, ⟨by omega⟩, ⟨fun j hj => absurd hj (by omega)⟩, ⟨by first | exact HJ.out | exact HD.out _ _ _ HJ.out⟩⟩
   case round =>
    clear hf0
    obtain ⟨j, rfl, HKj, HKj2, HSj, HJj⟩ := hrel
    cases gk with
    | zero => exact absurd HKj.out (by have := HKj2.out; omega)
    | succ kj =>
    by_cases hlj : j < U.length
    ·have hlj' : decide (j < U.length) = true := decide_eq_true hlj
     have HLJ := Aside0.mk hlj
     clear hlj
     cases hp : p i j with
     | true =>
      have HP := Aside0.mk hp
      clear hp
      go_wp2_with (refine goesV_ (some 26) rfl rfl HF.out HNM.out HBD.out #[.int .i64 i, .int .i64 j] rfl rfl zq157 ?_; refine (HST.out i j HLT.out HLJ.out _ ?sJ).mono ?_; (case sJ => exact zq154); rintro e w1 ⟨he, hj⟩; rw [HP.out] at he; subst he; refine ⟨_, rfl, ?_⟩; have HJ1 := Aside0.mk hj; clear hj)
      go_roundg kj
      case measure => omega
      case rel => exact ⟨j + 1, by first | go_num | (rw [wrap_small (by omega) (by have := HLJ.out; omega)]; go_num), ⟨by have := HKj.out; omega⟩, ⟨by have := HLJ.out; omega⟩, ⟨fun b hb => by
       rcases Nat.lt_or_ge b j with h | h
       ·exact HSj.out b h
       ·obtain rfl : b = j := by omega
        exact HP.out⟩, ⟨by have h1 := HJ1.out; rw [← HSI.out, Nat.add_assoc] at h1; first | exact h1 | exact HD.out _ _ _ h1⟩⟩
     | false =>
      have HP := Aside0.mk hp
      clear hp
      have hrf : r = false := by
       rw [HR.out]
       exact allN_false.2 ⟨i, HLT.out, allN_false.2 ⟨j, HLJ.out, HP.out⟩⟩
      subst hrf
      go_wp2_with (refine goesV_ (some 26) rfl rfl HF.out HNM.out HBD.out #[.int .i64 i, .int .i64 j] rfl rfl zq157 ?_; refine (HST.out i j HLT.out HLJ.out _ ?sJ).mono ?_; (case sJ => exact zq154); rintro e w1 ⟨he, hj⟩; rw [HP.out] at he; subst he; refine ⟨_, rfl, ?_⟩; have HJ1 := Aside0.mk hj; clear hj)
      go_ret
      exact ⟨rfl, _, by first | exact HJ1.out | exact HD.out _ _ _ HJ1.out, fun h => by cases h⟩
    ·have hlj' : decide (j < U.length) = false := decide_eq_false hlj
     obtain rfl : j = U.length := by have := HKj2.out; omega
     clear hlj
     go_wp2_with fail
     go_roundg kn
     case measure => omega
     case rel => exact ⟨i + 1, s + U.length, by first | go_num | (rw [wrap_small (by omega) (by have := HLT.out; omega)]; go_num), ⟨by have := HK.out; omega⟩, ⟨by have := HLT.out; omega⟩, ⟨by rw [Nat.succ_mul, HSI.out]⟩, ⟨fun a ha => by
      rcases Nat.lt_or_ge a i with h | h
      ·exact HS.out a h
      ·obtain rfl : a = i := by omega
       exact HSj.out⟩, ⟨by first | exact HJj.out | exact HD.out _ _ _ HJj.out⟩⟩
  ·have hlt' : decide (i < U.length) = false := decide_eq_false hlt
   obtain rfl : i = U.length := by have := HK2.out; omega
   have hrt : r = true := by
    rw [HR.out, allN_iff]
    intro a ha
    exact allN_iff.2 (HS.out a ha)
   subst hrt
   clear hlt
   go_wp2_with fail
   go_ret
   have hj := HJ.out
   rw [HSI.out] at hj
   exact ⟨rfl, by first | exact hj | exact HD.out _ _ _ hj⟩
def filI (n : Nat) (p : Nat → Bool) : List Int := ((List.range n).filter p).map fun (a : Nat) => (a : Int)
theorem filI_zero (p : Nat → Bool) : filI 0 p = [] := rfl
theorem filI_succ (n : Nat) (p : Nat → Bool) : filI (n + 1) p = if p n = true then filI n p ++ [(n : Int)] else filI n p := by
 unfold filI
 rw [List.range_succ,List.filter_append,List.map_append]
 cases h:p n <;> simp [h]
theorem filI_length (n : Nat) (p : Nat → Bool) : (filI n p).length ≤ n := by
 unfold filI
 rw [List.length_map]
 exact Nat.le_trans (List.length_filter_le _ _) (by simp)
end Go.Proofs.Ytcbjpdaogicibaa.Print
end
section
namespace Go.Proofs.Ytcbjpdaogicibaa.Print
open Go.RowKit Go.Proofs.YtcbjpdaogicibaaW.PrintWords Go.Proofs.YtcbjpdaogicibaaW.PrintLast Go.Proofs.YtcbjpdaogicibaaW.PrintMore
section
attribute [local go_sem] max2_int min2_int max_two min_two max_three min_three max_four min_four
def impl_common.l0 : Nat → Int → Int → List Int → Int → Int → Option (Int)
 | 0, _, _, _, _, _ => none
 | k + 1, x1, x5, x12, x13, x14 => if x14 < x13 then (if 0 ≤ x14 then (if x14 < (x12.length : Int) then ((impl_has.f x1 x14).bind fun t531 => (if t531 = true then (impl_common.l0 k x1 (Go.bits .and .i64 x5 (rd x12 x14)) x12 x13 (wrap64 (x14 + 1))) else (impl_common.l0 k x1 x5 x12 x13 (wrap64 (x14 + 1))))) else (none)) else (none)) else (some x5)
def impl_common.f (k : Nat) (l0 : List Int) (a1 : Int) : Option (Int) := impl_common.l0 k a1 (wrap64 ((shl .i64 1 (l0.length : Int)) - 1)) l0 (l0.length : Int) 0
set_option maxHeartbeats 8000000 in
set_option maxRecDepth 100000 in
theorem impl_common.calls (k : Nat) (A0 : Option Addr) (c0 : Nat) (l0 : List Int) (a1 : Int) (r : Int) (w : World) (hr0 : Kd.C (Kd.int .i64) w A0 l0.length l0) (hc0 : l0.length ≤ c0) (h : impl_common.f k l0 a1 = some r) :
  Calls Try.prog 84 #[.slice A0 l0.length c0, .int .i64 a1] w fun e w' => e = .returned (.int .i64 r) ∧ Drawn0 w w' := by
 have b3:=zqm hr0;have b9:=zqm hc0;clear hr0 hc0;have H:(impl_common.l0 k a1 (wrap64 ((shl .i64 1 (l0.length:Int)) - 1)) l0 (l0.length:Int) 0)=some r:=h;clear h;obtain⟨a2,a5⟩: ∃j_:Int,(shl .i64 1 (l0.length:Int))=j_:=⟨_,rfl⟩;(replace H:(impl_common.l0 k a1 (wrap64 ((a2) - 1)) l0 (l0.length:Int) 0)=some r:=by first|(rw [a5] at H;exact H)|(simp only [a5] at H ⊢;exact H));have a7:(IntKind.i64.wrap (1*2 ^ min (l0.length:Int).toNat 64))=a2:=a5;have hji3z:(l0.length:Int)≤64→(IntKind.i64.wrap (1*2 ^ (l0.length:Int).toNat))=a2:=shl_small a5;have hji3p:(IntKind.i64.wrap (1*2 ^ min l0.length 64))=a2:=a7;have hji3q:(l0.length:Int)≤64→(IntKind.i64.wrap (1*2 ^ l0.length))=a2:=hji3z;(have hji3r:(IntKind.i64.wrap (2 ^ min l0.length 64))=a2:=by have h_:=hji3p;rw [Int.one_mul] at h_;exact h_);(have hji3s:(l0.length:Int)≤64→(IntKind.i64.wrap (2 ^ l0.length))=a2:=fun hle_=>by have h_:=hji3q hle_;rw [Int.one_mul] at h_;exact h_);(have hji3u:(IntKind.i64.wrap (2 ^ min (l0.length:Int).toNat 64))=a2:=by have h_:=a7;rw [Int.one_mul] at h_;exact h_);(have hji3v:(l0.length:Int)≤64→(IntKind.i64.wrap (2 ^ (l0.length:Int).toNat))=a2:=fun hle_=>by have h_:=hji3z hle_;rw [Int.one_mul] at h_;exact h_);have hji3y:(wrap64 (1*2 ^ min (l0.length:Int).toNat 64))=a2:=(i64_w _).symm.trans a7;have hji3x:(l0.length:Int)≤64→(wrap64 (1*2 ^ (l0.length:Int).toNat))=a2:=fun h_=>(i64_w _).symm.trans (hji3z h_);have H':=zqm H;clear H
 go_enter Try.func84,Try.ntmps84
 go_wp2
 go_loopg [5,14] k (fun kq v5 b6 w'=> ∃(a6:Int) (a0:Int),v5= .int .i64 a6∧b6= .int .i64 a0∧Aside0 (impl_common.l0 kq a1 a6 l0 (l0.length:Int) a0=some r)∧Aside0 (kq≤k)∧Drawn0 w w')
 case atStart=>exact⟨(wrap64 ((a2) - 1)),(0),zq161,zq6,H',⟨Nat.le_refl _⟩,zq10⟩
 case round=>
  clear H';obtain⟨a6,a0,rfl,rfl,HA,a9,⟨m1,rfl⟩⟩:=hrel
  cases gk with
  |zero=>exact absurd HA.out (by simp [impl_common.l0])
  |succ k1=>
   have H:=HA.out;clear HA;simp only [impl_common.l0] at H
   by_cases c4:a0<(l0.length:Int)
   ·rw [if_pos c4] at H;have b4:decide (a0<(l0.length:Int))=true:=decide_eq_true c4;clear c4
    by_cases c5:0≤a0
    ·rw [if_pos c5] at H;have b7:decide (0≤a0)=true:=decide_eq_true c5;clear c5
     by_cases c6:a0<(l0.length:Int)
     ·rw [if_pos c6] at H;have b8:decide (a0<(l0.length:Int))=true:=decide_eq_true c6;clear c6;replace H:=Option.bind_eq_some_iff.mp H;obtain⟨b5,b2,H⟩:=H;(try dsimp only at H);have A7:=zqm b2;clear b2
      by_cases c8:b5=true
      ·subst c8;rw [if_pos rfl] at H;have H':=zqm H;clear H;have a3:0≤(a0:Int):=zqo;have a4:a0<(l0.length:Int):=zqo;obtain⟨b1,a8,b0⟩:=Kd.at_int b3.out a0 a3 a4
       cases a8
       replace a3:=eq_true a3;replace a4:=eq_true a4
       go_wp2_with (first|((with_reducible refine gate_callee (f:=88) rfl ?_);refine goesL_ (some 21) rfl rfl Try.func88 zqk rfl #[.int .i64 a1,.int .i64 a0] rfl zq3 ?_;(with_reducible refine(impl_has.calls a1 a0 true _ A7.out).mono ?_);rintro e w' ⟨rfl,⟨nd,rfl⟩⟩;refine⟨_,rfl,?_⟩))
       go_roundg k1
       (case measure=>have:=a9.out;omega);case rel=>exact⟨(Go.bits .and .i64 a6 (rd l0 a0)),(wrap64 (a0+1)),zq6,zq6,H',⟨by have:=a9.out;omega⟩,zq10⟩
      ·replace c8:=Bool.eq_false_iff.mpr c8;subst c8;rw [if_neg (show¬(false=true) by decide)] at H;have H':=zqm H;clear H;have a3:0≤(a0:Int):=zqo;have a4:a0<(l0.length:Int):=zqo;obtain⟨b1,a8,b0⟩:=Kd.at_int b3.out a0 a3 a4
       cases a8
       replace a3:=eq_true a3;replace a4:=eq_true a4
       go_wp2_with (first|((with_reducible refine gate_callee (f:=88) rfl ?_);refine goesL_ (some 21) rfl rfl Try.func88 zqk rfl #[.int .i64 a1,.int .i64 a0] rfl zq3 ?_;(with_reducible refine(impl_has.calls a1 a0 false _ A7.out).mono ?_);rintro e w' ⟨rfl,⟨nd,rfl⟩⟩;refine⟨_,rfl,?_⟩))
       go_roundg k1
       (case measure=>have:=a9.out;omega);case rel=>exact⟨(a6),(wrap64 (a0+1)),zq6,zq6,H',⟨by have:=a9.out;omega⟩,zq10⟩
     ·rw [if_neg c6] at H;exact absurd H (by simp)
    ·rw [if_neg c5] at H;exact absurd H (by simp)
   ·rw [if_neg c4] at H;have b4:decide (a0<(l0.length:Int))=false:=decide_eq_false c4;clear c4;obtain rfl:=Option.some.inj H
    go_wp2
    go_ret
    exact⟨zq161,zq10⟩
end
end Go.Proofs.Ytcbjpdaogicibaa.Print
end
section
namespace Go.Proofs.Ytcbjpdaogicibaa.Print
open Go.RowKit Go.Proofs.YtcbjpdaogicibaaW.PrintWords Go.Proofs.YtcbjpdaogicibaaW.PrintLast Go.Proofs.YtcbjpdaogicibaaW.PrintMore
open Oml
def agA (U : List (List Int)) (N : List Int) (a : Nat) : Nat := setB U.length fun b => bothB U N a b
def agN (U : List (List Int)) (N : List Int) (s a : Nat) : Nat := setB U.length fun b => decide (a * U.length + b < s) && bothB U N a b
def agL (U : List (List Int)) (N : List Int) (s : Nat) : List Int := (List.range U.length).map fun (a : Nat) => ((agN U N s a : Nat) : Int)
def agF (U : List (List Int)) (N : List Int) : List Int := (List.range U.length).map fun (a : Nat) => ((agA U N a : Nat) : Int)
theorem agF_length (U : List (List Int)) (N : List Int) : (agF U N).length = U.length := by simp [agF]
theorem agL_at (U : List (List Int)) (N : List Int) (s a : Nat) (h : a < U.length) : at1 (agL U N s) a = ((agN U N s a : Nat) : Int) := by simp [agL, at1, h]
theorem agF_at (U : List (List Int)) (N : List Int) (a : Nat) (h : a < U.length) : at1 (agF U N) a = ((agA U N a : Nat) : Int) := by simp [agF, at1, h]
theorem agL_zero (U : List (List Int)) (N : List Int) : agL U N 0 = List.replicate U.length 0 := by
 refine List.ext_getElem (by simp [agL]) fun i h1 h2 => ?_
 simp [agL, agN, setB_none]
theorem pair_lt {n a b : Nat} (ha : a < n) (hb : b < n) : a * n + b < n * n := by
 have : (a + 1) * n ≤ n * n := Nat.mul_le_mul_right _ ha
 rw [Nat.succ_mul] at this; omega
theorem agL_all (U : List (List Int)) (N : List Int) : agL U N (U.length * U.length) = agF U N := by
 unfold agL agF
 refine List.map_congr_left fun a ha=>?_
 congr 1
 unfold agN agA
 refine setB_congr fun b hb=>?_
 rw [decide_eq_true (pair_lt (by simpa using ha) hb),Bool.true_and]
theorem pair_inj {n a b c d : Nat} (hb : b < n) (hd : d < n) (h : a * n + b = c * n + d) : a = c ∧ b = d := by
 have h1:(a*n+b) / n=a:=by rw [Nat.add_comm,Nat.mul_comm,Nat.add_mul_div_left _ _ (by omega),Nat.div_eq_of_lt hb];omega
 have h2:(c*n+d) / n=c:=by rw [Nat.add_comm,Nat.mul_comm,Nat.add_mul_div_left _ _ (by omega),Nat.div_eq_of_lt hd];omega
 have h3:a=c:=by rw [← h1,h,h2]
 subst h3
 exact⟨rfl,by omega⟩
theorem agN_step (U : List (List Int)) (N : List Int) {a b c : Nat} (hb : b < U.length) : agN U N (a * U.length + b + 1) c = if c = a ∧ bothB U N a b = true then agN U N (a * U.length + b) c ||| 2 ^ b else agN U N (a * U.length + b) c := by
 unfold agN
 split
 ·rename_i h
  obtain⟨rfl,h⟩:=h
  rw [setB_one hb,setB_or]
  refine setB_congr fun d hd=>?_
  by_cases e:d=b
  ·subst e;simp [h]
  ·rw [show (d==b)=false by simpa using e,Bool.or_false]
   congr 1
   rw [decide_eq_decide];omega
 ·rename_i h
  refine setB_congr fun d hd=>?_
  by_cases e:c*U.length+d=a*U.length+b
  ·obtain⟨rfl,rfl⟩:=pair_inj hd hb e
   have:bothB U N c d=false:=by
    cases h2:bothB U N c d with
    |false=>rfl
    |true=>exact absurd ⟨rfl,h2⟩ h
   rw [this];simp
  ·congr 1
   rw [decide_eq_decide];omega
theorem agL_step (U : List (List Int)) (N : List Int) {a b : Nat} (ha : a < U.length) (hb : b < U.length) :
 agL U N (a*U.length+b+1)=if bothB U N a b=true then(agL U N (a*U.length+b)).set a (((agN U N (a*U.length+b) a|||2 ^ b:Nat)):Int) else agL U N (a*U.length+b):=by
 cases hB:bothB U N a b with
 |false=>
  rw [if_neg (by simp)]
  refine List.ext_getElem (by simp [agL]) fun i h1 h2=>?_
  simp [agL,agN_step U N hb,hB]
 |true=>
  rw [if_pos rfl]
  refine List.ext_getElem (by simp [agL]) fun i h1 h2=>?_
  by_cases e:i=a
  ·subst e;simp [agL,agN_step U N hb,hB]
  ·simp [agL,agN_step U N hb,List.getElem_set,e,show¬(a=i) from fun h=>e h.symm]
def comS (U : List (List Int)) (N : List Int) (s : Nat) : Nat := setB U.length fun b => allN U.length fun a => !(s.testBit a) || bothB U N a b
def comN (U : List (List Int)) (N : List Int) (s i : Nat) : Nat := setB U.length fun b => allN i fun a => !(s.testBit a) || bothB U N a b
theorem allN_succ (n : Nat) (p : Nat → Bool) : allN (n + 1) p = (allN n p && p n) := by simp [allN, List.range_succ]
theorem comN_succ (U : List (List Int)) (N : List Int) (s i : Nat) : comN U N s (i + 1) = if s.testBit i = true then comN U N s i &&& agA U N i else comN U N s i := by
 unfold comN agA
 cases hb:s.testBit i with
 |true=>rw [if_pos rfl,setB_and];exact setB_congr fun b _=>by rw [allN_succ,hb];simp
 |false=>rw [if_neg (by simp)];exact setB_congr fun b _=>by rw [allN_succ,hb];simp
theorem comN_small {U : List (List Int)} (N : List Int) (hn : U.length ≤ 12) (s i : Nat) : comN U N s i < 1099511627776 := setB_small (by omega) _
theorem agA_small {U : List (List Int)} (N : List Int) (hn : U.length ≤ 12) (i : Nat) : agA U N i < 1099511627776 := setB_small (by omega) _
theorem com_start {U : List (List Int)} (N : List Int) (hn : U.length ≤ 12) (s : Nat) : wrap64 (((2 ^ U.length : Nat) : Int) - 1) = ((comN U N s 0 : Nat) : Int) := by
 have h1:=two_pow_le (show U.length≤40 by omega)
 have h1':=Nat.one_le_two_pow (n:=U.length)
 have h3:comN U N s 0=2 ^ U.length - 1:=by rw [setB_all];exact setB_congr fun i _=>rfl
 rw [h3]
 generalize 2 ^ U.length=x at h1 h1' ⊢
 unfold wrap64;omega
theorem impl_common.ev {U : List (List Int)} (N : List Int) (hn : U.length ≤ 12) {s : Nat} (hs : s < 4611686018427387904) : Ev (fun k => impl_common.f k (agF U N) (s : Int)) ((comS U N s : Nat) : Int) := by
 unfold impl_common.f
 rw [agF_length,shl_nat (by omega)]
 rw [com_start N hn s]
 refine Ev.loop (g:=fun k x i=>impl_common.l0 k (s:Int) x (agF U N) (U.length:Int) i) U.length (fun i x=>x=((comN U N s i:Nat):Int)) (by omega) (fun x h=>?_) (fun i x hi h=>?_) _ rfl
 ·subst h
  refine Ev.succ ?_
  simp only [impl_common.l0]
  repeat(with_reducible first|refine Ev.ip ?_|refine Ev.iq ?_)
  exact Ev.now _
 ·subst h
  refine⟨_,rfl,fun K=>Ev.succ ?_⟩
  simp only [impl_common.l0,agF_length,rd_nat,agF_at U N i hi]
  repeat(with_reducible first|refine Ev.ip ?_|refine Ev.iq ?_)
  refine Ev.pbind (has_nat s hs (by omega)) ?_
  rw [comN_succ] at K
  cases hb:s.testBit i with
  |true=>
   rw [hb,if_pos rfl] at K
   repeat(with_reducible first|refine Ev.ip ?_|refine Ev.iq ?_)
   rw [band_nat (comN U N s i) (agA U N i) (by have:=comN_small N hn s i;omega) (by have:=agA_small N hn i;omega)]
   exact K
  |false=>
   rw [hb,if_neg (by simp)] at K
   repeat(with_reducible first|refine Ev.ip ?_|refine Ev.iq ?_)
   exact K
theorem com_calls {U : List (List Int)} (N : List Int) (hn : U.length ≤ 12) (s : Nat) (hs : s < 4611686018427387904) (A : Option Addr) (c : Nat) (w : World) (hr : Kd.C (Kd.int .i64) w A U.length (agF U N)) (hc : U.length ≤ c) :
 Calls Try.prog 84 #[.slice A U.length c,.int .i64 (s:Int)] w fun e w'=>e= .returned (.int .i64 ((comS U N s:Nat):Int))∧Drawn0 w w':=by
 obtain⟨K,hK⟩:=(impl_common.ev N hn hs).rounds
 have:=impl_common.calls K A c (agF U N) (s:Int) _ w (by rw [agF_length];exact hr) (by rw [agF_length];exact hc) hK
 rwa [agF_length] at this
structure AgJ (w : World) (gG g gO gr c : Nat) (U : List (List Int)) (N : List Int) (s : Nat) (W : World) : Prop where
 hb:Below w.heap.size w W
 hG:W.heap[gG]? =some (.cells #[.pointer (some ⟨g,0,none⟩)] 67 (0,0))
 hO:W.heap[gO]? =some (.cells #[.slice (some ⟨gr,0,none⟩) U.length c] 24 (0,0))
 hR:Kd.R (Kd.int .i64) 3 W w.heap.size (fun k=>k=gr) (.slice (some ⟨gr,0,none⟩) U.length c) (agL U N s)
 hg:w.heap.size≤gG
 ho:w.heap.size≤gO
theorem AgJ.below {w : World} {gG g gO gr c : Nat} {U : List (List Int)} {N : List Int} {s : Nat} {W W1 : World} (h : AgJ w gG g gO gr c U N s W) (hb : Below W.heap.size W W1) : AgJ w gG g gO gr c U N s W1 :=
 ⟨below_step h.hb hb,blk_below h.hG hb,blk_below h.hO hb,Kd.R_below h.hR hb,h.hg,h.ho⟩
theorem AgJ.drewN {w : World} {gG g gO gr c : Nat} {U : List (List Int)} {N : List Int} {s : Nat} {W : World} (h : AgJ w gG g gO gr c U N s W) (n : Nat) : AgJ w gG g gO gr c U N s (W.drewN n) := h.below (pw_below_drewN (Below.refl _ _) n)
def alg_agreeing_1.T2 : Bool × List (List Nat × List Nat) := (true, [([], []), ([], []), ([0, 1], [0, 1]), ([2], [2]), ([], []), ([4], [4]), ([3, 5], [3, 5]), ([0, 1, 0, 1, 2, 3, 4, 5, 6], [0, 1]), ([7, 6, 0, 1, 2, 3, 4, 5, 6], [6, 7])])
def alg_agreeing_1.B2 : List Nat := [0, 0, 3, 7, 0, 16, 63, 127, 255]
theorem alg_agreeing_1.tab2 : rtab .any (opsOf Try.f137 2) = alg_agreeing_1.T2 := by kernel_rfl
theorem alg_agreeing_1.bits2 : waitsOk alg_agreeing_1.T2.2 alg_agreeing_1.B2 = true := by kernel_rfl
set_option maxHeartbeats 1000000 in
set_option maxRecDepth 100000 in
theorem agr_c1 (g : Nat) (U : List (List Int)) (N : List Int) (v : Adr) (w1 w : World) (L : Logic U N) (hV : View w1 g U N v) (gG gO gr c a b : Nat) (ha : a < U.length) (hb : b < U.length) (hJ : AgJ w1 gG g gO gr c U N (a * U.length + b) w) :
 Calls Try.prog 137 #[.int .i64 a,.int .i64 b,.pointer (some ⟨gG,0,none⟩),.pointer (some ⟨gO,0,none⟩)] w fun e w'=>e= .returned (.bool true)∧AgJ w1 gG g gO gr c U N (a*U.length+b+1) w':=by
 have HV:=zqm hV
 have HLg:=zqm L
 have HSM:=zqm L.small
 have HA:=zqm ha
 have HB:=zqm hb
 have HJ:=zqm hJ
 have HIA:=zqm (show In U (a:Int) from ⟨by omega,by omega⟩)
 have HIB:=zqm (show In U (b:Int) from ⟨by omega,by omega⟩)
 have HST:=zqm (agL_step U N ha hb)
 have x0:w.cell? ⟨gG,0,none⟩=some (.pointer (some ⟨g,0,none⟩)):=(blk_cell hJ.hG 0).trans rfl
 cases hB:bothB U N a b with
 |false=>
  have HBB:=zqm hB
  have HEQ:=zqm (show agL U N (a*U.length+b+1)=agL U N (a*U.length+b) by rw [HST.out,if_neg (by rw [hB];simp)])
  clear hV L ha hb hJ hB HST
  go_enter Try.func137,Try.ntmps137
  go_wp2_with (go_at_call 138;(with_reducible refine(alg_both.reads g U N v a b _ HLg.out ?s1 HIA.out HIB.out).mono ?_);(case s1=>exact HV.out.below HJ.out.hb);rintro e w' ⟨he,⟨⟨nd,rfl⟩⟩⟩;rw [HBB.out] at he;subst he;have HJ2:=zqm (HJ.out.drewN nd);clear HJ)
  go_ret
  have h:=HJ2.out
  exact⟨rfl,h.hb,h.hG,h.hO,by rw [HEQ.out];exact h.hR,h.hg,h.ho⟩
 |true=>
  have HBB:=zqm hB
  obtain⟨sv,hsv⟩: ∃sv:Int,sv=((agN U N (a*U.length+b) a:Nat):Int):=⟨_,rfl⟩
  obtain⟨tv,htv⟩: ∃tv:Int,tv=((agN U N (a*U.length+b) a|||2 ^ b:Nat):Int):=⟨_,rfl⟩
  obtain⟨pv,hpv⟩: ∃pv:Int,wrap64 (2 ^ min b 64)=pv:=⟨_,rfl⟩
  have e2_:Go.bits .or .i64 sv pv=tv:=by
   have h1:=setB_small (show U.length≤40 by have:=L.small;omega) (fun d=>decide (a*U.length+d<a*U.length+b) && bothB U N a d)
   have h2:=two_pow_le (show b≤40 by have:=L.small;omega)
   rw [hsv,htv,← hpv,Nat.min_eq_left (show b≤64 by have:=L.small;omega),← i64_w,wshl_nat (by have:=L.small;omega)]
   exact bor_nat _ _ (by unfold agN;omega) (by omega)
  have e1_:=hpv
  have HSET:=zqm (show agL U N (a*U.length+b+1)=(agL U N (a*U.length+b)).set a tv by rw [HST.out,if_pos hB,htv])
  have HCELL:=zqm (show∀W,AgJ w1 gG g gO gr c U N (a*U.length+b) W→W.cell? ⟨gr,a,none⟩=some (.int .i64 sv) from fun W h=>by
   have h2:=(Kd.R_celln 0 h.hR (a:Int) (by omega) (by omega)).1
   rw [Int.toNat_natCast] at h2
   rw [h2,hsv,← agL_at U N _ a ha]
   rfl)
  have HFREE:=zqm (show∀W,AgJ w1 gG g gO gr c U N (a*U.length+b) W→W.frozen? ⟨gr,a,none⟩=false from fun W h=>by
   have h2:=(Kd.R_celln 0 h.hR (a:Int) (by omega) (by omega)).2
   rwa [Int.toNat_natCast] at h2)
  have HNE1:=zqm (show∀W,AgJ w1 gG g gO gr c U N (a*U.length+b) W→some gG≠some gr from fun W h=>Kd.R_ne h.hR h.hG (by decide))
  have HNE2:=zqm (show∀W,AgJ w1 gG g gO gr c U N (a*U.length+b) W→some gO≠some gr from fun W h=>Kd.R_ne h.hR h.hO (by decide))
  have p1:(a<U.length)=True:=eq_true ha
  have p2:(0≤(a:Int))=True:=eq_true (by omega)
  have p3:((a:Int)<(U.length:Int))=True:=eq_true (by omega)
  clear hV L ha hb hJ hB HST hsv htv hpv
  go_enter Try.func137,Try.ntmps137
  go_wp2_with (go_at_call 138;(with_reducible refine(alg_both.reads g U N v a b _ HLg.out ?s1 HIA.out HIB.out).mono ?_);(case s1=>exact HV.out.below HJ.out.hb);rintro e w' ⟨he,⟨⟨nd,rfl⟩⟩⟩;rw [HBB.out] at he;subst he;have HJ2:=zqm (HJ.out.drewN nd);clear HJ x0)
  refine start_ (n:=9) (S:=(fun w'=>w'.cell? ⟨gO,0,none⟩=some (.slice (some ⟨gr,0,none⟩) U.length c)∧w'.cell? ⟨gr,a,none⟩=some (.int .i64 sv))) (ds:= [8]) (zqb 9 0) zqk rfl rfl ⟨(blk_cell (HJ2.out.below (below_drew1 (Below.refl _ _))).hO 0).trans rfl,HCELL.out _ (HJ2.out.below (below_drew1 (Below.refl _ _)))⟩ (fun hHeld=>?_)
  refine with_tabW alg_agreeing_1.tab2 alg_agreeing_1.bits2 (fun HT_ HW_=>?_)
  have HJ3:=zqm (HJ2.out.below (below_drew1 (Below.refl _ _)))
  clear HJ2
  generalize (World.drewN w nd).drew=wd at HJ3 hHeld ⊢
  refine zqw 0 11 (zqb 9 1) HT_ HW_ hHeld ?_
  refine zqp 1 12 (zqb 9 3) HT_ ?_
  refine zqp 2 13 (zqb 9 7) HT_ ?_
  refine zqw 3 14 (zqb 9 15) HT_ HW_ hHeld ?_
  refine zqp 4 15 (zqb 9 31) HT_ ?_
  refine zqp 5 16 (zqb 9 63) HT_ ?_
  refine zqp 6 17 (zqb 9 127) HT_ ?_
  refine zqp 7 18 (zqb 9 255) HT_ ?_
  have hs_:=HCELL.out _ HJ3.out
  have hf_:=HFREE.out _ HJ3.out
  refine last_ (i:=8) (N:=none) (zqb 9 511) rfl rfl (one_of HT_.out zqk) (by decide) (fun K hK=>?_)
  refine skip_ (w1:=wd.setCell ⟨gr,a,none⟩ (.int .i64 tv)) (by rfl) rfl ?_ ?_
  ·go_simp
  refine hK.out _ _ ?_
  clear hK K
  have HP:=Kd.R_putg HJ3.out.hR (a:Int) tv
  rw [Int.toNat_natCast] at HP
  have HJ7:=zqm (show AgJ w1 gG g gO gr c U N (a*U.length+b+1) (wd.setCell ⟨gr,a,none⟩ (.int .i64 tv)) from ⟨below_set HJ3.out.hb (Kd.R_base HJ3.out.hR gr rfl),blk_grown HJ3.out.hG HP.2 (HNE1.out _ HJ3.out),blk_grown HJ3.out.hO HP.2 (HNE2.out _ HJ3.out),by rw [HSET.out];exact HP.1,HJ3.out.hg,HJ3.out.ho⟩)
  generalize wd.setCell ⟨gr,a,none⟩ (.int .i64 tv)=w7 at HJ7 ⊢
  clear hs_ hf_ HJ3 HP
  refine done_ (done_of HT_.out zqk) ?_
  go_wp2
  go_ret
  exact⟨rfl,by repeat(first|exact HJ7.out|apply AgJ.drewN)⟩
set_option maxHeartbeats 1000000 in
set_option maxRecDepth 100000 in
theorem agreeing_calls (g : Nat) (U : List (List Int)) (N : List Int) (v : Adr) (w : World) (L : Logic U N) (hV : View w g U N v) :
 Calls Try.prog 83 #[.pointer (some ⟨g,0,none⟩)] w fun e w'=> ∃A c,e= .returned (.slice A U.length c)∧Kd.R (Kd.int .i64) 3 w' w.heap.size (fun _=>True) (.slice A U.length c) (agF U N)∧Below w.heap.size w w':=by
 have hu70:=Try.underlying74
 have HV:=zqm hV
 have HLg:=zqm L
 have HSM:=zqm L.small
 have b0_:decide (0≤(U.length:Int))=true:=decide_eq_true (by omega)
 clear hV L
 go_enter Try.func83,Try.ntmps83
 go_wp2_with (first|((with_reducible refine gate_dst (N:=1) rfl ?_);refine box_event ?hg (N:=1) ?hd (cs:= #[.pointer (some ⟨g,0,none⟩)]) (t:=67) ?hr ?_;(case hd=>rfl);(case hg=>rfl);(case hr=> exact zq22);intro gG hg_ w1 hbox hb;have HX:=zqm hbox;have HGG:=zqm hg_;have HB1:=zqm hb;have x0:w1.cell? ⟨gG,0,none⟩=some (.pointer (some ⟨g,0,none⟩)):=(blk_cell hbox 0).trans rfl;have hf0:=(HV.out.below hb).f0;clear hbox hb hg_)|((with_reducible refine gate_dst (N:=9) rfl ?_);refine Kd.R_make (Kd.int .i64) _ 3 rfl (N:=9) rfl 24 _ _ rfl (U.length:Int) rfl rfl Try.underlying24 (.int .i64 0) 8 infoInt rfl (by decide) (by omega) 0 (ok:=fun _=>True) (okp:=fun _=>True) rfl (fun _ hk=>hk) trivial (by omega) (by rw [Int.toNat_natCast];have:=HSM.out;omega) (Below.refl _ _) (Nat.le_refl _) ?_;intro vr w2 ho hb hg_ hat_;rw [Int.toNat_natCast] at ho;obtain⟨b_,e_,hl_⟩:=hat_;have hs_:=Kd.R_slice ho;rw [List.length_replicate] at hs_;obtain⟨Ar,cr,rfl⟩:=hs_;obtain⟨gr,hAr⟩: ∃gr,Ar=some ⟨gr,0,none⟩:=(by obtain⟨gr,cap,e2,_⟩:=Kd.R_form ho (by rw [List.length_replicate];exact HLg.out.pos);injection e2 with e3;exact⟨gr,e3⟩);subst hAr;have HO2:=zqm (Kd.R_lower (Kd.R_mono (Kd.R_tight rfl ho) (fun k hk=>(Option.some.inj hk:k=gr))) (below_size HB1.out));have HB2:=zqm (below_step HB1.out hb);have HX2:=zqm (blk_below HX.out hb);have x0':(w2.alloc (.cells #[.slice (some ⟨gr,0,none⟩) U.length cr] 24)).cell? ⟨gG,0,none⟩=some (.pointer (some ⟨g,0,none⟩)):=(blk_cell (blk_alloc HX2.out _) 0).trans rfl;clear ho hb hg_ x0 hf0 e_ hl_)|(go_at_call 71;(with_reducible refine(every_calls g U N v _ HSM.out 137 _ #[.pointer (some ⟨gG,0,none⟩),.pointer (some ⟨w2.heap.size,0,none⟩)] Try.func137 zqk rfl (fun _ _=>true) (AgJ w gG g w2.heap.size gr cr U N) ?tV ?tD ?t0 ?tS).mono ?_);(case tV=>exact fun i W h=>HV.out.below h.hb);(case tD=>exact fun i W n h=>h.drewN n);(case t0=>exact⟨below_alloc HB2.out _,blk_alloc HX2.out _,(MapKept.heap_alloc w2 _).1,(by rw [agL_zero];exact Kd.R_alloc HO2.out _),(by rw [HGG.out];exact Nat.le_refl _),below_size HB2.out⟩);(case tS=>exact fun a b ha hb W h=>agr_c1 g U N v w W HLg.out HV.out gG w2.heap.size gr cr a b ha hb h);rintro e w3 ⟨rfl,i,hj,hi⟩;have hi2:=hi (allN_iff.2 fun _ _=>allN_iff.2 fun _ _=>rfl);subst hi2;have HJ:=zqm hj;have y0:w3.cell? ⟨w2.heap.size,0,none⟩=some (.slice (some ⟨gr,0,none⟩) U.length cr):=(blk_cell hj.hO 0).trans rfl;clear hj hi x0'))
 go_ret
 have h:=HJ.out
 have hR:=h.hR
 rw [agL_all] at hR
 exact⟨_,_,rfl,Kd.R_mono hR (fun _ _=>trivial),h.hb⟩
section
section
variable {U : List (List Int)} (O : Order U)
include O
theorem meet_l1 {a b c : Nat} (ha : a < U.length) (hb : b < U.length) (hc : c < U.length) (R : Int) :
 ∀i,i≤U.length→ ∀fl:Bool,((fl && allFrom U.length (fun d=>!(leB U d a && leB U d b)||leB U d c) i)=false→Ev (fun k=>impl_meet.l0 k U a b U.length ((c+1:Nat):Int)) R)→
  Ev (fun k=>impl_meet.l1 k U a b c fl U.length c U.length i) (if(fl && allFrom U.length (fun d=>!(leB U d a && leB U d b)||leB U d c) i)=true then(c:Int) else R):=by
 have hs:=O.small
 refine fun i hi=>?_
 obtain⟨d,hd⟩: ∃d,U.length=i+d:=⟨U.length - i,by omega⟩
 induction d generalizing i with
 |zero=>
  intro fl hR
  rw [allFrom_ge (by omega),Bool.and_true] at hR ⊢
  cases fl with
  |true=>
   refine Ev.step (f:=fun _=>some (c:Int)) (fun k=>?_) (Ev.now _)
   simp only [impl_meet.l1]
   rw [if_neg (by omega)];rfl
  |false=>
   refine Ev.step (f:=fun k=>impl_meet.l0 k U a b U.length ((c+1:Nat):Int)) (fun k=>?_) (by simpa using hR rfl)
   simp only [impl_meet.l1]
   rw [if_neg (by omega),if_neg (by simp),wrap_nat (by omega)]
 |succ d ih=>
  intro fl hR
  rw [allFrom_lt (by omega)] at hR ⊢
  have hrow:((U.getD i []).length:Int)=U.length:=by rw [O.row i (by omega)]
  have va:=O.val (a:=i) (b:=a) (by omega) ha
  have vb:=O.val (a:=i) (b:=b) (by omega) hb
  have vc:=O.val (a:=i) (b:=c) (by omega) hc
  refine Ev.step (f:=fun k=>impl_meet.l1 k U a b c (fl && (!(leB U i a && leB U i b)||leB U i c)) U.length c U.length ((i+1:Nat):Int)) (fun k=>?_) ?_
  ·simp only [impl_meet.l1,rdL_nat,rd_nat,rd_row,hrow,va,vb,vc,wrap_nat (show i<4611686018427387904 by omega)]
   rw [if_pos (by omega)]
   cases fl
   ·rfl
   ·rw [if_pos rfl,if_pos (by omega),if_pos (by omega),if_pos (by omega),if_pos (by omega)]
    cases leB U i a
    ·rfl
    ·rw [if_neg (by simp),if_pos (by omega),if_pos (by omega)]
     cases leB U i b
     ·rfl
     ·rw [if_neg (by simp),if_pos (by omega),if_pos (by omega)]
      cases leB U i c <;> rfl
  ·refine Ev.eq (ih (i+1) (by omega) (by omega) (fl && (!(leB U i a && leB U i b)||leB U i c)) ?_) ?_
   ·intro h;exact hR (by rw [← Bool.and_assoc];exact h)
   ·rw [Bool.and_assoc]
theorem impl_meet.ev {a b : Nat} (ha : a < U.length) (hb : b < U.length) : Ev (fun k => impl_meet.f k U a b) (mI U a b) := by
 have hs:=O.small
 have key: ∀i,i≤U.length→Ev (fun k=>impl_meet.l0 k U a b U.length (i:Int)) (optI (fstFrom U.length (meetP U a b) i)):=by
  refine Ev.down U.length ?_ fun i hi ih=>?_
  ·rw [fstFrom_ge (Nat.le_refl _)]
   refine Ev.step (f:=fun _=>some (-1)) (fun k=>?_) (Ev.now _)
   simp only [impl_meet.l0]
   rw [if_neg (by omega)]
  ·have hrow:((U.getD i []).length:Int)=U.length:=by rw [O.row i hi]
   have va:=O.val (a:=i) (b:=a) hi ha
   have vb:=O.val (a:=i) (b:=b) hi hb
   rw [fstFrom_lt hi]
   refine Ev.step (f:=fun k=>impl_meet.j1 k U a b i U.length i (!(leB U i a && leB U i b))) (fun k=>?_) ?_
   ·simp only [impl_meet.l0,rdL_nat,rd_nat,rd_row,hrow,va,vb]
    rw [if_pos (by omega),if_pos (by omega),if_pos (by omega),if_pos (by omega),if_pos (by omega)]
    cases leB U i a
    ·rfl
    ·rw [if_neg (by simp),if_pos (by omega),if_pos (by omega)]
     cases leB U i b <;> rfl
   ·cases hab:leB U i a && leB U i b with
    |false=>
     refine Ev.step (f:=fun k=>impl_meet.l0 k U a b U.length ((i+1:Nat):Int)) (fun k=>?_) (Ev.eq ih ?_)
     ·simp only [impl_meet.j1,Bool.not_false,if_true]
      rw [wrap_nat (by omega)]
     ·have:meetP U a b i=false:=by unfold meetP;rw [← Bool.and_assoc,hab];rfl
      rw [this];rfl
    |true=>
     refine Ev.step (f:=fun k=>impl_meet.l1 k U a b i true U.length i U.length ((0:Nat):Int)) (fun k=>?_) (Ev.eq (meet_l1 O ha hb hi _ 0 (by omega) true (fun _=>ih)) ?_)
     ·simp only [impl_meet.j1,Bool.not_true];rfl
     ·have:meetP U a b i=allN U.length (fun d=>!(leB U d a && leB U d b)||leB U d i):=by unfold meetP;rw [← Bool.and_assoc,hab];rfl
      rw [this,Bool.true_and,allFrom_zero]
      split <;> rfl
 have:=key 0 (by omega)
 rw [fstFrom_zero] at this
 exact this
end
end
def rowOk (U : List (List Int)) (i : Nat) : Bool :=
 ((U.getD i []).length==U.length) && (leB U i i && allN U.length fun j=>(at2 U i j==0||at2 U i j==1) && ((U.getD j []).length==U.length && !(leB U i j && (!(i==j) && leB U j i))))
def transOk (U : List (List Int)) : Bool := allN U.length fun a => allN U.length fun b => allN U.length fun c => !(leB U a b && leB U b c) || leB U a c
theorem orderB_eq (U : List (List Int)) : orderB U = (decide (1 ≤ U.length) && (decide (U.length ≤ 12) && (allN U.length (rowOk U) && transOk U))) := by
 rw [Bool.eq_iff_iff,orderB_iff]
 unfold rowOk transOk
 simp only [Bool.and_eq_true,decide_eq_true_eq,allN_iff,Bool.or_eq_true,beq_iff_eq,Bool.not_eq_true',Bool.and_eq_false_iff]
 constructor
 ·intro O
  refine⟨O.pos,O.small,fun i hi=>⟨O.row i hi,O.refl i hi,fun j hj=>⟨O.bit i j hi hj,O.row j hj,?_⟩⟩,fun a ha b hb c hc=>?_⟩
  ·by_cases e:i=j
   ·right;left;simp [e]
   ·cases k1:leB U i j <;> cases k2:leB U j i <;> simp
    exact O.anti i j hi hj k1 k2
  ·cases k1:leB U a b <;> cases k2:leB U b c <;> simp
   exact O.trans a b c ha hb hc k1 k2
 ·rintro ⟨h1,h2,h3,h4⟩
  refine⟨h1,h2,fun a ha=>(h3 a ha).1,fun a b ha hb=>((h3 a ha).2.2 b hb).1,fun a ha=>(h3 a ha).2.1,fun a b ha hb k1 k2=>?_,fun a b c ha hb hc k1 k2=>?_⟩
  ·rcases ((h3 a ha).2.2 b hb).2.2 with e|e|e
   ·rw [k1] at e;exact absurd e (by simp)
   ·simpa using e
   ·rw [k2] at e;exact absurd e (by simp)
  ·rcases h4 a ha b hb c hc with (e|e)|e
   ·rw [k1] at e;exact absurd e (by simp)
   ·rw [k2] at e;exact absurd e (by simp)
   ·exact e
theorem impl_OrderOk.ev (U : List (List Int)) : Ev (fun k => impl_OrderOk.f k U) (orderB U) := by
 rw [orderB_eq]
 by_cases h1:1≤U.length
 ·by_cases h2:U.length≤12
  ·simp only [h1,h2,decide_true,Bool.true_and]
   unfold impl_OrderOk.f
   repeat(with_reducible first|refine Ev.ip ?_|refine Ev.iq ?_)
   rw [show decide ((U.length:Int)>12)=false from decide_eq_false (by omega)]
   refine Ev.succ ?_
   simp only [impl_OrderOk.j0]
   repeat(with_reducible first|refine Ev.ip ?_|refine Ev.iq ?_)
   refine Ev.eq (Ev.all (n:=U.length) (g:=fun k i=>impl_OrderOk.l0 k U U.length U U.length i) (rowOk U) (go:=transOk U) (stop:=false) (by omega) (fun hr=>?_) fun i hi hj R hR=>?_) (by cases allN U.length (rowOk U) <;> rfl)
   ·refine Ev.succ ?_
    simp only [impl_OrderOk.l0]
    repeat(with_reducible first|refine Ev.ip ?_|refine Ev.iq ?_)
    refine Ev.eq (Ev.all (n:=U.length) (g:=fun k i=>impl_OrderOk.l2 k U U.length U.length i) (fun a=>allN U.length fun b=>allN U.length fun c=>!(leB U a b && leB U b c)||leB U a c) (go:=true) (stop:=false) (by omega) (fun _=>?_) fun a ha _ R hR=>?_) (by unfold transOk;cases allN U.length _ <;> rfl)
    ·refine Ev.succ ?_
     simp only [impl_OrderOk.l2]
     repeat(with_reducible first|refine Ev.ip ?_|refine Ev.iq ?_)
     exact Ev.now _
    ·refine Ev.succ ?_
     simp only [impl_OrderOk.l2]
     repeat(with_reducible first|refine Ev.ip ?_|refine Ev.iq ?_)
     refine Ev.all (n:=U.length) (g:=fun k i=>impl_OrderOk.l3 k U U.length a U.length a U.length i) _ (by omega) (fun h=>?_) fun b hb _ R2 hR2=>?_
     ·refine Ev.succ ?_
      simp only [impl_OrderOk.l3]
      repeat(with_reducible first|refine Ev.ip ?_|refine Ev.iq ?_)
      exact hR (allN_iff.2 h)
     ·refine Ev.succ ?_
      simp only [impl_OrderOk.l3]
      repeat(with_reducible first|refine Ev.ip ?_|refine Ev.iq ?_)
      refine Ev.all (n:=U.length) (g:=fun k i=>impl_OrderOk.l4 k U U.length a b U.length a U.length b U.length i) _ (by omega) (fun h=>?_) fun c hc _ R3 hR3=>?_
      ·refine Ev.succ ?_
       simp only [impl_OrderOk.l4]
       repeat(with_reducible first|refine Ev.ip ?_|refine Ev.iq ?_)
       exact hR2 (allN_iff.2 h)
      ·refine Ev.succ ?_
       have ra:((U.getD a []).length:Int)=U.length:=by have:=hr a ha;unfold rowOk at this;simp only [Bool.and_eq_true,beq_iff_eq] at this;omega
       have rb:((U.getD b []).length:Int)=U.length:=by have:=hr b hb;unfold rowOk at this;simp only [Bool.and_eq_true,beq_iff_eq] at this;omega
       simp only [impl_OrderOk.l4,rdL_nat,rd_nat,rd_row,ra,rb]
       repeat(with_reducible first|refine Ev.ip ?_|refine Ev.iq ?_)
       by_cases e1:at2 U a b=1
       ·have f1:leB U a b=true:=by simp [leB,e1]
        by_cases e2:at2 U b c=1
        ·have f2:leB U b c=true:=by simp [leB,e2]
         by_cases e3:at2 U a c=1
         ·have f3:leB U a c=true:=by simp [leB,e3]
          repeat(with_reducible first|refine Ev.ip ?_|refine Ev.iq ?_)
          refine Ev.eq (hR3 (by simp [f3])) (by simp [f3])
         ·have f3:leB U a c=false:=by simp [leB,e3]
          repeat(with_reducible first|refine Ev.ip ?_|refine Ev.iq ?_)
          refine Ev.eq (Ev.now _) (by simp [f1,f2,f3])
        ·have f2:leB U b c=false:=by simp [leB,e2]
         repeat(with_reducible first|refine Ev.ip ?_|refine Ev.iq ?_)
         refine Ev.eq (hR3 (by simp [f2])) (by simp [f2])
       ·have f1:leB U a b=false:=by simp [leB,e1]
        repeat(with_reducible first|refine Ev.ip ?_|refine Ev.iq ?_)
        refine Ev.eq (hR3 (by simp [f1])) (by simp [f1])
   ·refine Ev.succ ?_
    simp only [impl_OrderOk.l0,rdL_nat,rd_nat,rd_row]
    repeat(with_reducible first|refine Ev.ip ?_|refine Ev.iq ?_)
    by_cases e1:(U.getD i []).length=U.length
    ·repeat(with_reducible first|refine Ev.ip ?_|refine Ev.iq ?_)
     by_cases e2:at2 U i i=1
     ·have f2:leB U i i=true:=by simp [leB,e2]
      rw [show (at2 U i i !=1)=false by simp [e2]]
      refine Ev.succ ?_
      simp only [impl_OrderOk.j2,rdL_nat,rd_nat,rd_row]
      repeat(with_reducible first|refine Ev.ip ?_|refine Ev.iq ?_)
      rw [e1]
      refine Ev.eq (Ev.all (n:=U.length) (g:=fun k j=>impl_OrderOk.l1 k U U.length i U U.length i (U.getD i []) U.length j) (fun j=>(at2 U i j==0||at2 U i j==1) && ((U.getD j []).length==U.length && !(leB U i j && (!(i==j) && leB U j i)))) (go:=R) (stop:=false) (by omega) (fun h=>?_) fun j hj _ R2 hR2=>?_) (by unfold rowOk;simp [-List.getD_eq_getElem?_getD,e1,f2])
      ·refine Ev.succ ?_
       simp only [impl_OrderOk.l1]
       repeat(with_reducible first|refine Ev.ip ?_|refine Ev.iq ?_)
       exact hR (by unfold rowOk;simp only [e1,f2,BEq.rfl,Bool.true_and];exact allN_iff.2 h)
      ·refine Ev.succ ?_
       simp only [impl_OrderOk.l1,rd_nat,rd_row]
       repeat(with_reducible first|refine Ev.ip ?_|refine Ev.iq ?_)
       have j4: ∀R3:Bool,(((U.getD j []).length=U.length→(leB U i j=true→i≠j→leB U j i=false)→Ev (fun k=>impl_OrderOk.l1 k U U.length i U U.length i (U.getD i []) U.length (wrap64 ((j:Int)+1))) R3))→
        Ev (fun k=>impl_OrderOk.j4 k U U.length i j (at2 U i j) U U.length i (U.getD i []) U.length j false) (if((U.getD j []).length==U.length && !(leB U i j && (!(i==j) && leB U j i)))=true then R3 else false):=by
        intro R3 hR3
        refine Ev.succ ?_
        simp only [impl_OrderOk.j4,rdL_nat,rd_nat,rd_row]
        repeat(with_reducible first|refine Ev.ip ?_|refine Ev.iq ?_)
        by_cases l1:(U.getD j []).length=U.length
        ·repeat(with_reducible first|refine Ev.ip ?_|refine Ev.iq ?_)
         rw [l1]
         by_cases x1:at2 U i j=1
         ·have y1:leB U i j=true:=by simp [leB,x1]
          repeat(with_reducible first|refine Ev.ip ?_|refine Ev.iq ?_)
          by_cases x2:i=j
          ·repeat(with_reducible first|refine Ev.ip ?_|refine Ev.iq ?_)
           exact Ev.eq (hR3 l1 (fun _ h=>absurd x2 h)) (by simp [x2])
          ·repeat(with_reducible first|refine Ev.ip ?_|refine Ev.iq ?_)
           by_cases x3:at2 U j i=1
           ·have y3:leB U j i=true:=by simp [leB,x3]
            repeat(with_reducible first|refine Ev.ip ?_|refine Ev.iq ?_)
            exact Ev.eq (Ev.now _) (by simp [x2,y1,y3])
           ·have y3:leB U j i=false:=by simp [leB,x3]
            repeat(with_reducible first|refine Ev.ip ?_|refine Ev.iq ?_)
            exact Ev.eq (hR3 l1 (fun _ _=>y3)) (by simp [y3])
         ·have y1:leB U i j=false:=by simp [leB,x1]
          repeat(with_reducible first|refine Ev.ip ?_|refine Ev.iq ?_)
          exact Ev.eq (hR3 l1 (fun h=>by rw [y1] at h;exact absurd h (by simp))) (by simp [y1])
        ·repeat(with_reducible first|refine Ev.ip ?_|refine Ev.iq ?_)
         exact Ev.eq (Ev.now _) (by simp [-List.getD_eq_getElem?_getD,l1])
       have hgo:at2 U i j=0∨at2 U i j=1→Ev (fun k=>impl_OrderOk.j4 k U U.length i j (at2 U i j) U U.length i (U.getD i []) U.length j false) (if((at2 U i j==0||at2 U i j==1) && ((U.getD j []).length==U.length && !(leB U i j && (!(i==j) && leB U j i))))=true then R2 else false):=by
        intro hb
        have hb1:(at2 U i j==0||at2 U i j==1)=true:=by rcases hb with h|h <;> simp [h]
        rw [hb1,Bool.true_and]
        refine j4 R2 fun l1 h=>hR2 ?_
        rw [hb1,Bool.true_and]
        simp only [l1,BEq.rfl,Bool.true_and,Bool.not_eq_true']
        cases y1:leB U i j
        ·rfl
        ·by_cases x2:i=j
         ·simp [x2]
         ·simp [h y1 x2]
       by_cases x0:at2 U i j=0
       ·repeat(with_reducible first|refine Ev.ip ?_|refine Ev.iq ?_)
        exact hgo (.inl x0)
       ·repeat(with_reducible first|refine Ev.ip ?_|refine Ev.iq ?_)
        by_cases x1:at2 U i j=1
        ·rw [show (at2 U i j !=1)=false by simp [x1]]
         exact hgo (.inr x1)
        ·rw [show (at2 U i j !=1)=true by simp [x1]]
         refine Ev.succ ?_
         simp only [impl_OrderOk.j4]
         repeat(with_reducible first|refine Ev.ip ?_|refine Ev.iq ?_)
         exact Ev.eq (Ev.now _) (by simp [x0,x1])
     ·have f2:leB U i i=false:=by simp [leB,e2]
      rw [show (at2 U i i !=1)=true by simp [e2]]
      refine Ev.succ ?_
      simp only [impl_OrderOk.j2]
      repeat(with_reducible first|refine Ev.ip ?_|refine Ev.iq ?_)
      exact Ev.eq (Ev.now _) (by unfold rowOk;simp [f2])
    ·repeat(with_reducible first|refine Ev.ip ?_|refine Ev.iq ?_)
     refine Ev.succ ?_
     simp only [impl_OrderOk.j2]
     repeat(with_reducible first|refine Ev.ip ?_|refine Ev.iq ?_)
     exact Ev.eq (Ev.now _) (by unfold rowOk;simp [-List.getD_eq_getElem?_getD,e1])
  ·simp only [h1,h2,decide_true,decide_false,Bool.true_and,Bool.false_and]
   unfold impl_OrderOk.f
   repeat(with_reducible first|refine Ev.ip ?_|refine Ev.iq ?_)
   rw [show decide ((U.length:Int)>12)=true from decide_eq_true (by omega)]
   refine Ev.succ ?_
   simp only [impl_OrderOk.j0]
   repeat(with_reducible first|refine Ev.ip ?_|refine Ev.iq ?_)
   exact Ev.now _
 ·simp only [h1,decide_false,Bool.false_and]
  unfold impl_OrderOk.f
  repeat(with_reducible first|refine Ev.ip ?_|refine Ev.iq ?_)
  refine Ev.succ ?_
  simp only [impl_OrderOk.j0]
  repeat(with_reducible first|refine Ev.ip ?_|refine Ev.iq ?_)
  exact Ev.now _
theorem turnL_len (U : List (List Int)) : (turnL U).length = U.length := by simp [turnL]
theorem turnL_at (U : List (List Int)) {a b : Nat} (ha : a < U.length) (hb : b < U.length) : at2 (turnL U) a b = at2 U b a := by simp [at2, turnL, ha, hb]
theorem turnL_le (U : List (List Int)) {a b : Nat} (ha : a < U.length) (hb : b < U.length) : leB (turnL U) a b = leB U b a := by unfold leB; rw [turnL_at U ha hb]
theorem _root_.Oml.Order.turn {U : List (List Int)} (O : Order U) : Order (turnL U) where
 pos:=by rw [turnL_len];exact O.pos
 small:=by rw [turnL_len];exact O.small
 row a ha:=by rw [turnL_len] at*;simp [turnL,ha]
 bit a b ha hb:=by rw [turnL_len] at*;rw [turnL_at U ha hb];exact O.bit b a hb ha
 refl a ha:=by rw [turnL_len] at*;rw [turnL_le U ha ha];exact O.refl a ha
 anti a b ha hb h k:=by rw [turnL_len] at*;rw [turnL_le U ha hb] at h;rw [turnL_le U hb ha] at k;exact O.anti a b ha hb k h
 trans a b c ha hb hc h k:=by rw [turnL_len] at*;rw [turnL_le U ha hb] at h;rw [turnL_le U hb hc] at k;rw [turnL_le U ha hc];exact O.trans c b a hc hb ha k h
theorem allN_congr {n : Nat} {p q : Nat → Bool} (h : ∀ i, i < n → p i = q i) : allN n p = allN n q := by
 rw [Bool.eq_iff_iff,allN_iff,allN_iff]
 exact⟨fun k i hi=>h i hi ▸ k i hi,fun k i hi=>(h i hi).symm ▸ k i hi⟩
theorem findN_congr {n : Nat} {p q : Nat → Bool} (h : ∀ i, i < n → p i = q i) : findN n p = findN n q := by
 cases e:findN n p with
 |some i=>exact(findN_of (findN_some e).1 (by rw [← h i (findN_some e).1];exact(findN_some e).2) fun j hj=>by rw [← h j (by have:=(findN_some e).1;omega)];exact findN_first e j hj).symm
 |none=>exact(findN_none.2 fun i hi=>by rw [← h i hi];exact findN_none.1 e i hi).symm
theorem meet_turn (U : List (List Int)) {a b : Nat} (ha : a < U.length) (hb : b < U.length) : mI (turnL U) a b = jI U a b := by
 unfold mI jI meetO joinO
 rw [turnL_len]
 congr 1
 refine findN_congr fun c hc=>?_
 unfold meetP joinP
 rw [turnL_le U hc ha,turnL_le U hc hb,turnL_len]
 congr 2
 refine allN_congr fun d hd=>?_
 rw [turnL_le U hd ha,turnL_le U hd hb,turnL_le U hd hc]
theorem impl_meet.ev_turn {U : List (List Int)} (O : Order U) {a b : Nat} (ha : a < U.length) (hb : b < U.length) : Ev (fun k => impl_meet.f k (turnL U) a b) (jI U a b) := by
 rw [← meet_turn U ha hb]
 exact impl_meet.ev O.turn (by rw [turnL_len];exact ha) (by rw [turnL_len];exact hb)
theorem getD_set {α : Type} (l : List α) (i j : Nat) (x d : α) (hi : i < l.length) : (l.set i x).getD j d = if j = i then x else l.getD j d := by
 by_cases e:j=i
 ·subst e;simp [hi]
 ·simp [List.getElem?_set,e,show¬(i=j) by omega]
theorem impl_turned.ev {U : List (List Int)} (O : Order U) : Ev (fun k => impl_turned.f k U) (turnL U) := by
 have hs:=O.small
 unfold impl_turned.f
 repeat(with_reducible first|refine Ev.ip ?_|refine Ev.iq ?_)
 rw [Int.toNat_natCast]
 repeat(with_reducible first|refine Ev.ip ?_|refine Ev.iq ?_)
 refine Ev.loop (g:=fun k s i=>impl_turned.l0 k U s U.length i) U.length (fun i s=>s.length=U.length∧ ∀a,a<i→s.getD a []=(List.range U.length).map fun b=>at2 U b a) (by omega) (fun s h=>?_) (fun i s hi h=>?_) _ ⟨by simp,fun a h=>absurd h (Nat.not_lt_zero _)⟩
 ·refine Ev.succ ?_
  simp only [impl_turned.l0]
  repeat(with_reducible first|refine Ev.ip ?_|refine Ev.iq ?_)
  refine Ev.eq (Ev.now s) (List.ext_getElem (by rw [h.1,turnL_len]) fun a h1 h2=>?_)
  have:=h.2 a (by omega)
  simpa [turnL,h1] using this
 ·obtain⟨h1,h2⟩:=h
  refine⟨s.set i ((List.range U.length).map fun b=>at2 U b i),⟨by simp [h1],fun a ha=>?_⟩,fun K=>Ev.succ ?_⟩
  ·rw [getD_set _ _ _ _ _ (by omega)]
   by_cases e:a=i
   ·rw [if_pos e,e]
   ·rw [if_neg e];exact h2 a (by omega)
  ·simp only [impl_turned.l0,Int.toNat_natCast]
   repeat(with_reducible first|refine Ev.ip ?_|refine Ev.iq ?_)
   refine Ev.loop (g:=fun k s j=>impl_turned.l1 k U s i U.length i U.length j) U.length (fun j t=>t.length=U.length∧(t.getD i []).length=U.length∧t.set i []=s.set i []∧ ∀b,b<j→at1 (t.getD i []) b=at2 U b i) (by omega) (fun t h=>?_) (fun j t hj h=>?_) _ ⟨by simp [h1],by rw [getD_set _ _ _ _ _ (by omega)];simp,by simp,fun b h=>absurd h (Nat.not_lt_zero _)⟩
   ·refine Ev.succ ?_
    simp only [impl_turned.l1]
    repeat(with_reducible first|refine Ev.ip ?_|refine Ev.iq ?_)
    have e:t=s.set i ((List.range U.length).map fun b=>at2 U b i):=by
     obtain⟨t1,t2,t3,t4⟩:=h
     have er:t.getD i []=(List.range U.length).map fun b=>at2 U b i:=by
      refine List.ext_getElem (by rw [t2];simp) fun b k1 k2=>?_
      have:=t4 b (by omega)
      simp only [at1] at this
      rw [List.getD_eq_getElem?_getD,List.getElem?_eq_getElem k1] at this
      simpa using this
     refine List.ext_getElem (by simp [t1,h1]) fun a k1 k2=>?_
     by_cases ea:a=i
     ·subst ea
      have:t.getD a []=t[a]:=by simp [k1]
      rw [← this,er];simp
     ·have:=congrArg (fun l=>l.getD a []) t3
      rw [getD_set _ _ _ _ _ (by omega),getD_set _ _ _ _ _ (by omega),if_neg ea,if_neg ea] at this
      have k3:a<s.length:=by omega
      simpa [k1,k3,List.getElem_set,show¬(i=a) by omega] using this
    rw [e]
    exact K
   ·obtain⟨t1,t2,t3,t4⟩:=h
    have hrow:=O.row j hj
    refine⟨t.set i ((t.getD i []).set j (at2 U j i)),⟨by simp [t1],?_,?_,fun b hb=>?_⟩,fun K=>Ev.succ ?_⟩
    ·rw [getD_set _ _ _ _ _ (by omega),if_pos rfl];simpa using t2
    ·rw [← t3];simp
    ·rw [getD_set _ _ _ _ _ (by omega),if_pos rfl]
     unfold at1
     rw [getD_set _ _ _ _ _ (by omega)]
     by_cases eb:b=j
     ·rw [if_pos eb,eb]
     ·rw [if_neg eb];exact t4 b (by omega)
    ·simp only [impl_turned.l1,rdL_nat,rd_nat,rd_row,hrow,t1,t2,Int.toNat_natCast]
     repeat(with_reducible first|refine Ev.ip ?_|refine Ev.iq ?_)
     exact K
theorem optI_neg (o : Option Nat) : (optI o < 0) ↔ o.isSome = false := by cases o <;> simp [optI] <;> omega
theorem impl_LatticeOk.ev (U : List (List Int)) : Ev (fun k => impl_LatticeOk.f k U) (latticeB U) := by
 unfold impl_LatticeOk.f latticeB
 refine Ev.bind (impl_OrderOk.ev U) ?_
 cases ho:orderB U with
 |false=>
  repeat(with_reducible first|refine Ev.ip ?_|refine Ev.iq ?_)
  exact Ev.now _
 |true=>
  have O:=orderB_iff.1 ho
  have hs:=O.small
  repeat(with_reducible first|refine Ev.ip ?_|refine Ev.iq ?_)
  refine Ev.bind (impl_turned.ev O) ?_
  refine Ev.eq (Ev.all (n:=U.length) (g:=fun k i=>impl_LatticeOk.l0 k U (turnL U) U.length i) (fun a=>allN U.length fun b=>(meetO U a b).isSome && (joinO U a b).isSome) (go:=true) (stop:=false) (by omega) (fun _=>?_) fun a ha _ R hR=>?_) (by rw [Bool.true_and];cases allN U.length _ <;> rfl)
  ·refine Ev.succ ?_
   simp only [impl_LatticeOk.l0]
   repeat(with_reducible first|refine Ev.ip ?_|refine Ev.iq ?_)
   exact Ev.now _
  ·refine Ev.succ ?_
   simp only [impl_LatticeOk.l0]
   repeat(with_reducible first|refine Ev.ip ?_|refine Ev.iq ?_)
   refine Ev.all (n:=U.length) (g:=fun k i=>impl_LatticeOk.l1 k U (turnL U) a U.length a U.length i) _ (by omega) (fun h=>?_) fun b hb _ R2 hR2=>?_
   ·refine Ev.succ ?_
    simp only [impl_LatticeOk.l1]
    repeat(with_reducible first|refine Ev.ip ?_|refine Ev.iq ?_)
    exact hR (allN_iff.2 h)
   ·refine Ev.succ ?_
    simp only [impl_LatticeOk.l1]
    repeat(with_reducible first|refine Ev.ip ?_|refine Ev.iq ?_)
    refine Ev.bind (impl_meet.ev O ha hb) ?_
    unfold mI
    cases em:meetO U a b with
    |none=>
     refine Ev.ite_pos (by simp [optI]) ?_
     exact Ev.eq (Ev.now _) (by simp)
    |some m=>
     refine Ev.ite_neg (by have:=optI_neg (some 0);simp [optI]) ?_
     refine Ev.bind (impl_meet.ev_turn O ha hb) ?_
     unfold jI
     cases ej:joinO U a b with
     |none=>
      refine Ev.ite_pos (by simp [optI]) ?_
      exact Ev.eq (Ev.now _) (by simp)
     |some j=>
      refine Ev.ite_neg (by have:=optI_neg (some 0);simp [optI]) ?_
      exact Ev.eq (hR2 (by simp [em,ej])) (by simp)
theorem impl_LeastOf.ev (U : List (List Int)) : Ev (fun k => impl_LeastOf.f k U) (if orderB U = true then (optI (leastO U), (leastO U).isSome) else (-1, false)) := by
 unfold impl_LeastOf.f
 refine Ev.bind (impl_OrderOk.ev U) ?_
 cases ho:orderB U with
 |false=>
  repeat(with_reducible first|refine Ev.ip ?_|refine Ev.iq ?_)
  exact Ev.now _
 |true=>
  have O:=orderB_iff.1 ho
  have hs:=O.small
  repeat(with_reducible first|refine Ev.ip ?_|refine Ev.iq ?_)
  refine Ev.eq (Ev.find (n:=U.length) (g:=fun k i=>impl_LeastOf.l0 k U U.length i) (fun a=>allN U.length fun b=>leB U a b) (none':=(-1,false)) (some':=fun i=>((i:Int),true)) (by omega) (fun _=>?_) fun a ha _ R hR=>?_) (by unfold leastO;cases findN U.length _ <;> rfl)
  ·refine Ev.succ ?_
   simp only [impl_LeastOf.l0]
   repeat(with_reducible first|refine Ev.ip ?_|refine Ev.iq ?_)
   exact Ev.now _
  ·refine Ev.succ ?_
   simp only [impl_LeastOf.l0,rdL_nat,O.row a ha]
   repeat(with_reducible first|refine Ev.ip ?_|refine Ev.iq ?_)
   have key: ∀d i,i+d=U.length→ ∀fl:Bool,(fl && allFrom U.length (fun b=>leB U a b) i)=allN U.length (fun b=>leB U a b)→Ev (fun k=>impl_LeastOf.l1 k a fl U U.length a (U.getD a []) U.length i) (if allN U.length (fun b=>leB U a b)=true then((a:Int),true) else R):=by
    intro d
    induction d with
    |zero=>
     intro i hi fl hfl
     refine Ev.succ ?_
     simp only [impl_LeastOf.l1]
     rw [allFrom_ge (by omega),Bool.and_true] at hfl
     rw [hfl]
     repeat(with_reducible first|refine Ev.ip ?_|refine Ev.iq ?_)
     cases ha':allN U.length (fun b=>leB U a b) with
     |true=>
      repeat(with_reducible first|refine Ev.ip ?_|refine Ev.iq ?_)
      exact Ev.now _
     |false=>
      repeat(with_reducible first|refine Ev.ip ?_|refine Ev.iq ?_)
      exact hR ha'
    |succ d ih=>
     intro i hi fl hfl
     rw [allFrom_lt (by omega)] at hfl
     refine Ev.succ ?_
     have rl:=O.row a ha
     simp only [impl_LeastOf.l1,rd_nat,rd_row,wrap_nat (show i<4611686018427387904 by omega)]
     repeat(with_reducible first|refine Ev.ip ?_|refine Ev.iq ?_)
     cases fl with
     |true=>
      repeat(with_reducible first|refine Ev.ip ?_|refine Ev.iq ?_)
      exact ih (i+1) (by omega) _ hfl
     |false=>
      repeat(with_reducible first|refine Ev.ip ?_|refine Ev.iq ?_)
      exact ih (i+1) (by omega) _ (by rw [← hfl];simp)
   exact key U.length 0 (by omega) true (by rw [allFrom_zero,Bool.true_and])
theorem told_facts (U : List (List Int)) : ∃ k, ToldFacts k U := by
 cases hl:latticeB U with
 |false=>
  obtain⟨k,hk⟩:=(impl_LatticeOk.ev U).rounds
  exact⟨k,by rw [hk,hl],fun h=>by rw [hl] at h;exact absurd h (by simp),fun h=>by rw [hl] at h;exact absurd h (by simp),fun h=>by rw [hl] at h;exact absurd h (by simp),fun h=>by rw [hl] at h;exact absurd h (by simp)⟩
 |true=>
  have O:=latticeB_order hl
  obtain⟨k1,h1⟩:=impl_LatticeOk.ev U
  obtain⟨k2,h2⟩:=impl_LeastOf.ev U
  have hm: ∃K,∀a b:Nat,a<U.length→b<U.length→ ∀k,K≤k→impl_meet.f k U a b=some (mI U a b):=Ev.all2 U.length fun a b ha hb=>impl_meet.ev O ha hb
  have hj: ∃K,∀a b:Nat,a<U.length→b<U.length→ ∀k,K≤k→impl_meet.f k (turnL U) a b=some (jI U a b):=Ev.all2 U.length fun a b ha hb=>impl_meet.ev_turn O ha hb
  obtain⟨k3,h3⟩:=hm
  obtain⟨k4,h4⟩:=hj
  obtain⟨k5,h5⟩:=impl_turned.ev O
  refine⟨k1+k2+k3+k4+k5,?_,fun _=>h5 _ (by omega),fun _ a b ha hb=>h3 a b ha hb _ (by omega),fun _ a b ha hb=>h4 a b ha hb _ (by omega),fun _=>?_⟩
  ·exact h1 _ (by omega)
  ·have:=h2 (k1+k2+k3+k4+k5) (by omega)
   rw [if_pos (orderB_iff.2 O)] at this
   exact this
theorem com_calls' {U : List (List Int)} (N : List Int) (hn : U.length ≤ 12) (s : Int) (hz : ((s.toNat : Nat) : Int) = s) (hs : s.toNat < 4611686018427387904) (A : Option Addr) (c : Nat) (w : World) (hr : Kd.C (Kd.int .i64) w A U.length (agF U N)) (hc : U.length ≤ c) :
 Calls Try.prog 84 #[.slice A U.length c,.int .i64 s] w fun e w'=>e= .returned (.int .i64 ((comS U N s.toNat:Nat):Int))∧Drawn0 w w':=by
 have:=com_calls N hn s.toNat hs A c w hr hc
 rwa [hz] at this
def impl_AgreeOk.f (l0_0 : List (List Int)) (l0_1 : List Int) (a1 : Int) : Option (Bool) := some (if logicB l0_0 l0_1 = true then (setOk l0_0 a1 && (Go.bits .andNot .i64 a1 ((comS l0_0 l0_1 a1.toNat : Nat) : Int) == 0)) else false)
set_option maxHeartbeats 4000000 in
set_option maxRecDepth 100000 in
theorem impl_AgreeOk.calls (A0_0 : Option Addr) (c0_0 : Nat) (l0_0 : List (List Int)) (A0_1 : Option Addr) (c0_1 : Nat) (l0_1 : List Int) (a1 : Int) (r : Bool) (w : World) (hr0_0 : Kd.C (Kd.slice 3 (Kd.int .i64)) w A0_0 l0_0.length l0_0) (hc0_0 : l0_0.length ≤ c0_0) (hr0_1 : Kd.C (Kd.int .i64) w A0_1 l0_1.length l0_1) (hc0_1 : l0_1.length ≤ c0_1) (h : impl_AgreeOk.f l0_0 l0_1 a1 = some r) :
 Calls Try.prog 28 #[.agg #[.slice A0_0 l0_0.length c0_0,.slice A0_1 l0_1.length c0_1],.int .i64 a1] w fun e w'=>e= .returned (.bool r)∧Below w.heap.size w w':=by
 obtain⟨k,hF⟩:=told_facts l0_0
 have hu30:=Try.underlying26
 have hu70:=Try.underlying74
 have HF:=zqm hF
 have HR0:=zqm hr0_0
 have HC0:=zqm hc0_0
 have HR1:=zqm hr0_1
 have HC1:=zqm hc0_1
 simp only [impl_AgreeOk.f,Option.some.injEq] at h
 clear hr0_0 hc0_0 hr0_1 hc0_1 hF
 cases hL:logicB l0_0 l0_1 with
 |false=>
  rw [hL] at h
  have hr_:false=r:=by simpa using h
  subst hr_
  have HLB:=zqm hL
  clear h hL
  go_enter Try.func28,Try.ntmps28
  go_wp2_with (first|((with_reducible refine gate_dst (N:=2) rfl ?_);refine box_event ?hg (N:=2) ?hd (cs:= #[.slice A0_0 l0_0.length c0_0,.slice A0_1 l0_1.length c0_1]) (t:=26) ?hr ?_;(case hd=>rfl);(case hg=>rfl);(case hr=> exact zq22);intro gb hg_ w1 hbox hb;have HB:=zqm hb;have hx0:w1.cell? ⟨gb,0,none⟩=some (.slice A0_0 l0_0.length c0_0):=(blk_cell hbox 0).trans rfl;have hx1:w1.cell? ⟨gb,1,none⟩=some (.slice A0_1 l0_1.length c0_1):=(blk_cell hbox 1).trans rfl;have HX:=zqm hbox;clear hbox hb hg_)|(go_at_call 70;(with_reducible refine(told_n k _ _ l0_0 _ _ l0_1 _ ?s1 ?s2 ?s3 ?s4 HF.out HLB.out).mono ?_);(case s1=> exact zq135);(case s2=>exact HC0.out);(case s3=> exact zq160);(case s4=>exact HC1.out);rintro e w2 ⟨rfl,hb⟩;have HB2:=zqm (below_step HB.out hb);clear hb hx0 hx1 HX HB)|(go_at_call 92;(with_reducible refine(isset_nil a1 _).mono ?_);rintro e w3 ⟨rfl,hb⟩;have HB3:=zqm (below_step HB2.out hb);clear hb))
  go_ret
  exact⟨rfl,zq180⟩
 |true=>
  have HLB:=zqm hL
  have HLg:=zqm (logicB_iff.1 hL)
  have HSM:=zqm (logicB_iff.1 hL).small
  cases hin:setOk l0_0 a1 with
  |false=>
   rw [hL,hin] at h
   have hr_:false=r:=by simpa using h
   subst hr_
   have HIN:=zqm hin
   clear h hL hin
   go_enter Try.func28,Try.ntmps28
   go_wp2_with (first|((with_reducible refine gate_dst (N:=2) rfl ?_);refine box_event ?hg (N:=2) ?hd (cs:= #[.slice A0_0 l0_0.length c0_0,.slice A0_1 l0_1.length c0_1]) (t:=26) ?hr ?_;(case hd=>rfl);(case hg=>rfl);(case hr=> exact zq22);intro gb hg_ w1 hbox hb;have HB:=zqm hb;have hx0:w1.cell? ⟨gb,0,none⟩=some (.slice A0_0 l0_0.length c0_0):=(blk_cell hbox 0).trans rfl;have hx1:w1.cell? ⟨gb,1,none⟩=some (.slice A0_1 l0_1.length c0_1):=(blk_cell hbox 1).trans rfl;have HX:=zqm hbox;clear hbox hb hg_)|(go_at_call 70;(with_reducible refine(told_y k _ _ l0_0 _ _ l0_1 _ ?s1 ?s2 ?s3 ?s4 HF.out HLB.out).mono ?_);(case s1=> exact zq135);(case s2=>exact HC0.out);(case s3=> exact zq160);(case s4=>exact HC1.out);rintro e w2 ⟨g,v,rfl,hv,hge,hb⟩;have HB2:=zqm (below_step HB.out hb);have HV:=zqm hv;clear hv hge hb hx0 hx1 HX HB)|(go_at_call 92;(with_reducible refine(isset_calls g l0_0 l0_1 v _ HLg.out HV.out a1).mono ?_);rintro e w3 ⟨he,hb⟩;rw [HIN.out] at he;subst he;have HB3:=zqm (below_step HB2.out hb);have HV3:=zqm (View.below HV.out hb);clear hb))
   go_ret
   exact⟨rfl,zq180⟩
  |true=>
   rw [hL,hin] at h
   have hr_:(Go.bits .andNot .i64 a1 ((comS l0_0 l0_1 a1.toNat:Nat):Int)==0)=r:=by simpa using h
   have HIN:=zqm hin
   have HNB:=zqm (show a1.toNat<4611686018427387904 by
    unfold setOk at hin
    simp only [Bool.and_eq_true,decide_eq_true_eq] at hin
    have h1:=two_pow_le (show l0_0.length≤40 by have:=HSM.out;omega)
    generalize 2 ^ l0_0.length=y at h1 hin
    omega)
   have hnn:((a1.toNat:Nat):Int)=a1:=by
    unfold setOk at hin
    simp only [Bool.and_eq_true,decide_eq_true_eq] at hin
    omega
   obtain⟨cs,hcs⟩: ∃cs:Int,((comS l0_0 l0_1 a1.toNat:Nat):Int)=cs:=⟨_,rfl⟩
   rw [hcs] at hr_
   have HCS:=zqm hcs
   have HNN:=zqm hnn
   clear h hL hin hcs hnn
   subst hr_
   go_enter Try.func28,Try.ntmps28
   go_wp2_with (first|((with_reducible refine gate_dst (N:=2) rfl ?_);refine box_event ?hg (N:=2) ?hd (cs:= #[.slice A0_0 l0_0.length c0_0,.slice A0_1 l0_1.length c0_1]) (t:=26) ?hr ?_;(case hd=>rfl);(case hg=>rfl);(case hr=> exact zq22);intro gb hg_ w1 hbox hb;have HB:=zqm hb;have hx0:w1.cell? ⟨gb,0,none⟩=some (.slice A0_0 l0_0.length c0_0):=(blk_cell hbox 0).trans rfl;have hx1:w1.cell? ⟨gb,1,none⟩=some (.slice A0_1 l0_1.length c0_1):=(blk_cell hbox 1).trans rfl;have HX:=zqm hbox;clear hbox hb hg_)|(go_at_call 70;(with_reducible refine(told_y k _ _ l0_0 _ _ l0_1 _ ?s1 ?s2 ?s3 ?s4 HF.out HLB.out).mono ?_);(case s1=> exact zq135);(case s2=>exact HC0.out);(case s3=> exact zq160);(case s4=>exact HC1.out);rintro e w2 ⟨g,v,rfl,hv,hge,hb⟩;have HB2:=zqm (below_step HB.out hb);have HV:=zqm hv;clear hv hge hb hx0 hx1 HX HB)|(go_at_call 92;(with_reducible refine(isset_calls g l0_0 l0_1 v _ HLg.out HV.out a1).mono ?_);rintro e w3 ⟨he,hb⟩;rw [HIN.out] at he;subst he;have HB3:=zqm (below_step HB2.out hb);have HV3:=zqm (View.below HV.out hb);clear hb)|(go_at_call 83;(with_reducible refine(agreeing_calls g l0_0 l0_1 v _ HLg.out HV3.out).mono ?_);rintro e w4 ⟨Aa,ca,rfl,ho,hb⟩;have HC4:=zqm (Kd.R_reads ho);have HB4:=zqm (below_step HB3.out hb);clear ho hb)|(go_at_call 84;(with_reducible refine(com_calls' l0_1 HSM.out a1 HNN.out HNB.out Aa _ _ ?sC ?sD).mono ?_);(case sC=>obtain⟨A_,c_,e_,_,hc_⟩:=HC4.out;injection e_ with e1_ e2_ e3_;rw [e1_];simpa [agF_length] using hc_);(case sD=>obtain⟨A_,c_,e_,hl_,hc_⟩:=HC4.out;injection e_ with e1_ e2_ e3_;rw [e3_];simpa [agF_length] using hl_);rintro e w5 ⟨he,⟨⟨nd,rfl⟩⟩⟩;rw [HCS.out] at he;subst he))
   go_ret
   exact⟨rfl,by repeat(first|exact HB4.out|apply pw_below_drewN|apply below_drew1)⟩
def blkP (U : List (List Int)) (N : List Int) (s : Nat) : Bool := decide (1 ≤ s) && (comS U N s == s)
def blkN (U : List (List Int)) (N : List Int) : List Nat := (List.range (2 ^ U.length)).filter (blkP U N)
def blkL (U : List (List Int)) (N : List Int) : List Int := filI (2 ^ U.length) (blkP U N)
theorem blkL_eq (U : List (List Int)) (N : List Int) : blkL U N = (blkN U N).map fun (s : Nat) => (s : Int) := rfl
theorem filI_one (U : List (List Int)) (N : List Int) : filI 1 (blkP U N) = [] := by
 rw [filI_succ, filI_zero, if_neg (by simp [blkP])]
def impl_BlocksOf.f (l0_0 : List (List Int)) (l0_1 : List Int) : Option (List Int) := some (if logicB l0_0 l0_1 = true then blkL l0_0 l0_1 else [])
set_option maxHeartbeats 4000000 in
set_option maxRecDepth 100000 in
theorem impl_BlocksOf.calls (A0_0 : Option Addr) (c0_0 : Nat) (l0_0 : List (List Int)) (A0_1 : Option Addr) (c0_1 : Nat) (l0_1 : List Int) (r : List Int) (w : World) (hr0_0 : Kd.C (Kd.slice 3 (Kd.int .i64)) w A0_0 l0_0.length l0_0) (hc0_0 : l0_0.length ≤ c0_0) (hr0_1 : Kd.C (Kd.int .i64) w A0_1 l0_1.length l0_1) (hc0_1 : l0_1.length ≤ c0_1) (h : impl_BlocksOf.f l0_0 l0_1 = some r) :
 Calls Try.prog 20 #[.agg #[.slice A0_0 l0_0.length c0_0,.slice A0_1 l0_1.length c0_1]] w fun e w'=> ∃v0_:Value,e= .returned (v0_)∧Kd.R (Kd.int .i64) 3 w' w.heap.size (fun _=>True) v0_ r∧Below w.heap.size w w':=by
 obtain⟨k,hF⟩:=told_facts l0_0
 have hu30:=Try.underlying26
 have hu70:=Try.underlying74
 have HF:=zqm hF
 have HR0:=zqm hr0_0
 have HC0:=zqm hc0_0
 have HR1:=zqm hr0_1
 have HC1:=zqm hc0_1
 simp only [impl_BlocksOf.f,Option.some.injEq] at h
 clear hr0_0 hc0_0 hr0_1 hc0_1 hF
 cases hL:logicB l0_0 l0_1 with
 |false=>
  rw [hL] at h
  have hr_: []=r:=by simpa using h
  subst hr_
  have HLB:=zqm hL
  clear h hL
  go_enter Try.func20,Try.ntmps20
  go_wp2_with (first|((with_reducible refine gate_dst (N:=1) rfl ?_);refine box_event ?hg (N:=1) ?hd (cs:= #[.slice A0_0 l0_0.length c0_0,.slice A0_1 l0_1.length c0_1]) (t:=26) ?hr ?_;(case hd=>rfl);(case hg=>rfl);(case hr=> exact zq22);intro gb hg_ w1 hbox hb;have HB:=zqm hb;have hx0:w1.cell? ⟨gb,0,none⟩=some (.slice A0_0 l0_0.length c0_0):=(blk_cell hbox 0).trans rfl;have hx1:w1.cell? ⟨gb,1,none⟩=some (.slice A0_1 l0_1.length c0_1):=(blk_cell hbox 1).trans rfl;have HX:=zqm hbox;clear hbox hb hg_)|(go_at_call 70;(with_reducible refine(told_n k _ _ l0_0 _ _ l0_1 _ ?s1 ?s2 ?s3 ?s4 HF.out HLB.out).mono ?_);(case s1=> exact zq135);(case s2=>exact HC0.out);(case s3=> exact zq160);(case s4=>exact HC1.out);rintro e w2 ⟨rfl,hb⟩;have HB2:=zqm (below_step HB.out hb);clear hb hx0 hx1 HX HB))
  go_ret
  exact⟨_,rfl,Kd.R_nil _ _ _ _ _,by repeat(first|exact HB2.out|apply below_alloc|apply pw_below_drewN|apply below_drew1)⟩
 |true=>
  rw [hL] at h
  have hr_:blkL l0_0 l0_1=r:=by simpa using h
  subst hr_
  have HLB:=zqm hL
  have HLg:=zqm (logicB_iff.1 hL)
  have HSM:=zqm (logicB_iff.1 hL).small
  obtain⟨M,hM⟩: ∃M:Nat,M=2 ^ l0_0.length:=⟨_,rfl⟩
  obtain⟨mv,hmv⟩: ∃mv:Int,mv=(M:Int):=⟨_,rfl⟩
  have hM1:1≤M:=by rw [hM];exact Nat.one_le_two_pow
  have hM2:M≤4096:=by rw [hM];exact Nat.pow_le_pow_right (by omega) (show l0_0.length≤12 from HSM.out)
  have e1_:wrap64 (2 ^ min l0_0.length 64)=mv:=by rw [Nat.min_eq_left (show l0_0.length≤64 by have:=HSM.out;omega),← i64_w,wshl_nat (by have:=HSM.out;omega),hmv,hM]
  have e2_:IntKind.i64.wrap (2 ^ min l0_0.length 64)=mv:=by rw [i64_w];exact e1_
  have HM:=zqm hM
  have HMV:=zqm hmv
  have HM1:=zqm hM1
  have HM2:=zqm hM2
  clear h hL hM hmv hM1 hM2
  go_enter Try.func20,Try.ntmps20
  go_wp2_with (first|((with_reducible refine gate_dst (N:=1) rfl ?_);refine box_event ?hg (N:=1) ?hd (cs:= #[.slice A0_0 l0_0.length c0_0,.slice A0_1 l0_1.length c0_1]) (t:=26) ?hr ?_;(case hd=>rfl);(case hg=>rfl);(case hr=> exact zq22);intro gb hg_ w1 hbox hb;have HB:=zqm hb;have hx0:w1.cell? ⟨gb,0,none⟩=some (.slice A0_0 l0_0.length c0_0):=(blk_cell hbox 0).trans rfl;have hx1:w1.cell? ⟨gb,1,none⟩=some (.slice A0_1 l0_1.length c0_1):=(blk_cell hbox 1).trans rfl;have HX:=zqm hbox;clear hbox hb hg_)|(go_at_call 70;(with_reducible refine(told_y k _ _ l0_0 _ _ l0_1 _ ?s1 ?s2 ?s3 ?s4 HF.out HLB.out).mono ?_);(case s1=> exact zq135);(case s2=>exact HC0.out);(case s3=> exact zq160);(case s4=>exact HC1.out);rintro e w2 ⟨g,v,rfl,hv,hge,hb⟩;have HB2:=zqm (below_step HB.out hb);have HV:=zqm hv;clear hv hge hb hx0 hx1 HX HB)|((with_reducible refine gate_dst (N:=11) rfl ?_);refine Kd.R_lit (Kd.int .i64) _ 3 ?hg (N:=11) ?hd (xs:=([]:List Int)) (inner:= []) (ok:=fun _=>True) (okp:=fun _=>True) ?hr ?hp (fun _ hk=>hk) trivial (Below.refl _ _) (Nat.le_refl _) (by simp) ?_;(case hd=>rfl);(case hg=>rfl);(case hr=> exact zq22);(case hp=>exact(Reps.none _ _));intro v0 w3 ho hb hg_ hnew_;clear hg_ hnew_;have HO3:=zqm (Kd.R_mono (Kd.R_bound ho) (fun k hk=>hk.2.2.1));have HB3:=zqm hb;have HV3:=zqm (HV.out.below hb);clear ho hb)|(go_at_call 83;(with_reducible refine(agreeing_calls g l0_0 l0_1 v _ HLg.out HV3.out).mono ?_);rintro e w4 ⟨Aa,ca,rfl,ho,hb⟩;have HA4:=zqm (Kd.R_lower (Kd.R_mono (Kd.R_bound ho) (fun k hk=>(⟨hk.2.1,hk.2.2.1⟩:w3.heap.size≤k∧k<w4.heap.size))) (below_size HB3.out));have HO4:=zqm (Kd.R_mono (Kd.R_below HO3.out hb) (fun k hk=>(Or.inl hk:k<w3.heap.size∨w4.heap.size≤k)));have HB4:=zqm (below_step HB3.out hb);have HV4:=zqm (HV3.out.below hb);have hf0:=HV4.out.f0;clear ho hb HO3 HV3 HB3))
  go_loopg [6,4] M (fun kq v6 v4 W=> ∃s:Nat,v6= .int .i64 s∧Aside0 (s+kq=M+1)∧Aside0 (1≤s)∧Aside0 (s≤M)∧Aside0 (Kd.R (Kd.int .i64) 3 W w2.heap.size (fun k=>k<w3.heap.size∨w4.heap.size≤k) v4 (filI s (blkP l0_0 l0_1)))∧Aside0 (Kd.R (Kd.int .i64) 3 W w2.heap.size (fun k=>w3.heap.size≤k∧k<w4.heap.size) (.slice Aa l0_0.length ca) (agF l0_0 l0_1))∧Aside0 (Below w2.heap.size w2 W)∧Aside0 (w4.heap.size≤W.heap.size))
  case atStart=>exact⟨1,by first|rfl|simp,⟨by have:=HM1.out;omega⟩,⟨by omega⟩,⟨HM1.out⟩,⟨by rw [filI_one];exact HO4.out⟩,HA4,HB4,⟨Nat.le_refl _⟩⟩
  case round=>
   clear hf0
   obtain⟨s,rfl,HK,HK1,HK2,HOr,HAr,HBr,HEr⟩:=hrel
   have hf0:=(HV.out.below HBr.out).f0
   cases gk with
   |zero=>exact absurd HK.out (by have:=HK2.out;omega)
   |succ kn=>
   by_cases hlt:s<M
   ·have hlt':decide ((s:Int)<mv)=true:=decide_eq_true (by rw [HMV.out];omega)
    have HLT:=zqm hlt
    have HC:=zqm (show Kd.C (Kd.int .i64) wr Aa l0_0.length (agF l0_0 l0_1)∧l0_0.length≤ca by have h:=Kd.R_reads' HAr.out;rw [agF_length] at h;exact⟨h.2.2,h.2.1⟩)
    clear hlt
    by_cases hc:comS l0_0 l0_1 s=s
    ·have HCS:=zqm (show ((comS l0_0 l0_1 s:Nat):Int)=(s:Int) by rw [hc])
     have HP:=zqm (show blkP l0_0 l0_1 s=true by unfold blkP;rw [hc,decide_eq_true HK1.out];simp)
     clear hc
     go_wp2_with (first|(go_at_call 84;(with_reducible refine(com_calls l0_1 HSM.out s zq178 Aa ca _ HC.out.1 HC.out.2).mono ?_);rintro e w' ⟨he,⟨⟨nd,rfl⟩⟩⟩;rw [HCS.out] at he;subst he;have HO5:=zqm (Kd.R_drewN HOr.out nd);have HA5:=zqm (Kd.R_drewN HAr.out nd);have HB5:=zqm (pw_below_drewN HBr.out nd);clear HOr HAr HBr HC hf0)|((with_reducible refine gate_builtin (b:= .append) (xs:= #[.tmp 29,.tmp 31]) rfl ?_);at_builtin;refine Kd.R_append (Kd.int .i64) (w0:=w2) w2.heap.size rfl (.tmp 29) (.tmp 31) 24 3 (.int .i64 0) 8 rfl Try.underlying24 infoInt rfl (by decide) (by omega) u4 (filI s (blkP l0_0 l0_1)) (s:Int) [.int .i64 s] (fun k=>k<w3.heap.size∨w4.heap.size≤k) (fun _=>False) rfl rfl ?aP (fun _ hk=>hk.elim) ?aF ?aO ?aB ?aS ?aL ?_;(case aP=>exact rfl);(case aB=>exact HB5.out);(case aF=>exact(fun k hk=>Or.inr (Nat.le_trans HEr.out hk)));(case aO=>exact HO5.out);(case aS=>exact(below_size HB5.out));(case aL=>have:=filI_length s (blkP l0_0 l0_1);have:=HLT.out;have:=HM2.out;omega);intro v4n w21 ho hb hg hat;have HB6:=zqm hb;have HO6:=zqm ho;have HA6:=zqm (Kd.R_grown HA5.out hg (fun k hk he=>by have h2:=HO5.out.1 k he.symm;have:=hk.1;have:=hk.2;omega));have HE6:=zqm (show w4.heap.size≤w21.heap.size from Nat.le_trans HEr.out hg.size);clear ho hb hg hat HO5 HA5 HB5 HEr))
     go_roundg kn
     case measure=>omega
     case rel=>exact⟨s+1,zq153,⟨by have:=HK.out;omega⟩,⟨by omega⟩,⟨by have:=HLT.out;omega⟩,⟨by rw [filI_succ,if_pos HP.out];exact HO6.out⟩,HA6,HB6,HE6⟩
    ·obtain⟨cv,hcv⟩: ∃cv:Int,((comS l0_0 l0_1 s:Nat):Int)=cv:=⟨_,rfl⟩
     have hne:(cv==(s:Int))=false:=by rw [beq_eq_false_iff_ne,← hcv];omega
     have HCS:=zqm hcv
     have HP:=zqm (show blkP l0_0 l0_1 s=false by unfold blkP;rw [show (comS l0_0 l0_1 s==s)=false by simpa using hc,Bool.and_false])
     clear hc hcv
     go_wp2_with (go_at_call 84;(with_reducible refine(com_calls l0_1 HSM.out s zq178 Aa ca _ HC.out.1 HC.out.2).mono ?_);rintro e w' ⟨he,⟨⟨nd,rfl⟩⟩⟩;rw [HCS.out] at he;subst he;have HO5:=zqm (Kd.R_drewN HOr.out nd);have HA5:=zqm (Kd.R_drewN HAr.out nd);have HB5:=zqm (pw_below_drewN HBr.out nd);clear HOr HAr HBr HC hf0)
     go_roundg kn
     case measure=>omega
     case rel=>exact⟨s+1,zq153,⟨by have:=HK.out;omega⟩,⟨by omega⟩,⟨by have:=HLT.out;omega⟩,⟨by rw [filI_succ,if_neg (by rw [HP.out];simp)];exact HO5.out⟩,HA5,HB5,HEr⟩
   ·have hlt':decide ((s:Int)<mv)=false:=decide_eq_false (by rw [HMV.out];omega)
    obtain rfl:s=M:=by have:=HK2.out;omega
    clear hlt
    go_wp2_with fail
    go_ret
    exact⟨_,rfl,Kd.R_lower (Kd.R_mono (by have h:=HOr.out;rw [HM.out] at h;exact h) (fun _ _=>trivial)) (below_size HB2.out),below_step HB2.out (by repeat(first|exact HBr.out|apply pw_below_drewN|apply below_drew1))⟩
end Go.Proofs.Ytcbjpdaogicibaa.Print
end
section
namespace Go.Proofs.Ytcbjpdaogicibaa.Print
open Go.RowKit Go.Proofs.YtcbjpdaogicibaaW.PrintWords Go.Proofs.YtcbjpdaogicibaaW.PrintLast Go.Proofs.YtcbjpdaogicibaaW.PrintMore
section
attribute [local go_sem] max2_int min2_int max_two min_two max_three min_three max_four min_four
mutual
def laws_FnAgreeOk.j0 : Nat → Int → Bool → Bool → List (List Int) → List Int → Option (Bool)
 | 0, _, _, _, _, _ => none
 | k + 1, x4, x5, x39, x728000, x728001 => if x39 = true then (if x5 = true then (some false) else ((laws_alive.f k).bind fun t731 => (some t731))) else ((impl_BlocksOf.f x728000 x728001).bind fun t732 => (laws_FnAgreeOk.l0 k x4 x5 t732 false 0))
def laws_FnAgreeOk.l0 : Nat → Int → Bool → List Int → Bool → Int → Option (Bool)
 | 0, _, _, _, _, _ => none
 | k + 1, x4, x5, x6, x7, x8 => if x8 < (x6.length : Int) then (if x7 = true then (laws_FnAgreeOk.l0 k x4 x5 x6 true (wrap64 (x8 + 1))) else (if 0 ≤ x8 then (laws_FnAgreeOk.l0 k x4 x5 x6 ((Go.bits .and .i64 (rd x6 x8) x4) == x4) (wrap64 (x8 + 1))) else (none))) else (if (x5 == x7) = true then ((laws_alive.f k).bind fun t736 => (some t736)) else (some false))
end
def laws_FnAgreeOk.f (k : Nat) (l0 : List Int) : Option (Bool) := if (l0.length : Int) > 1048576 then (some true) else ((spec_DrawAgreeOk.f k l0).bind fun bt720 => ((impl_AgreeOk.f bt720.1 bt720.2.1 bt720.2.2).bind fun t728 => ((spec_AgreeOk.f k bt720.1 bt720.2.1 bt720.2.2).bind fun t729 => (if (t728 != t729) = true then (some false) else ((spec_LogicOk.f k bt720.1 bt720.2.1).bind fun t730 => (if t730 = true then (if bt720.2.2 < 1 then (laws_FnAgreeOk.j0 k bt720.2.2 t728 true bt720.1 bt720.2.1) else (laws_FnAgreeOk.j0 k bt720.2.2 t728 (decide (bt720.2.2 ≥ (shl .i64 1 (bt720.2.1.length : Int)))) bt720.1 bt720.2.1)) else (laws_FnAgreeOk.j0 k bt720.2.2 t728 true bt720.1 bt720.2.1)))))))
set_option maxHeartbeats 8000000 in
set_option maxRecDepth 100000 in
theorem laws_FnAgreeOk.calls (k : Nat) (A0 : Option Addr) (c0 : Nat) (l0 : List Int) (r : Bool) (w : World) (hr0 : Kd.C (Kd.int .u8) w A0 l0.length l0) (hc0 : l0.length ≤ c0) (h : laws_FnAgreeOk.f k l0 = some r) :
  Calls Try.prog 5 #[.slice A0 l0.length c0] w fun e w' => e = .returned (.bool r) ∧ Below w.heap.size w w' := by
 have hu26:=Try.underlying26;have l2:=zqm hr0;have l1:=zqm hc0;clear hr0 hc0;have HB:=zqm (Below.refl w.heap.size w);have H:(if(l0.length:Int)>1048576 then(some true) else((spec_DrawAgreeOk.f k l0).bind fun b2=>((impl_AgreeOk.f b2.1 b2.2.1 b2.2.2).bind fun b1=>((spec_AgreeOk.f k b2.1 b2.2.1 b2.2.2).bind fun b6=>(if(b1 !=b6)=true then(some false) else((spec_LogicOk.f k b2.1 b2.2.1).bind fun i5=>(if i5=true then(if b2.2.2<1 then(laws_FnAgreeOk.j0 k b2.2.2 b1 true b2.1 b2.2.1) else(laws_FnAgreeOk.j0 k b2.2.2 b1 (decide (b2.2.2≥(shl .i64 1 (b2.2.1.length:Int)))) b2.1 b2.2.1)) else(laws_FnAgreeOk.j0 k b2.2.2 b1 true b2.1 b2.2.1))))))))=some r:=h;clear h
 by_cases c2:(l0.length:Int)>1048576
 ·rw [if_pos c2] at H;have h7:decide (1048576<(l0.length:Int))=true:=decide_eq_true c2;have h8:decide (1048576<l0.length)=true:=decide_eq_true (by omega);clear c2;obtain rfl:=Option.some.inj H
  go_enter Try.func5,Try.ntmps5
  go_wp2
  go_ret
  exact⟨zq16,zq2⟩
 ·rw [if_neg c2] at H;have h7:decide (1048576<(l0.length:Int))=false:=decide_eq_false c2;have h8:decide (1048576<l0.length)=false:=decide_eq_false (by omega);clear c2;replace H:=Option.bind_eq_some_iff.mp H;obtain⟨⟨a3,a1,b3⟩,k7,H⟩:=H;(try dsimp only at H);have A3:=zqm k7;clear k7;replace H:=Option.bind_eq_some_iff.mp H;obtain⟨b1,k8,H⟩:=H;(try dsimp only at H);have A4:=zqm k8;clear k8;replace H:=Option.bind_eq_some_iff.mp H;obtain⟨b6,k9,H⟩:=H;(try dsimp only at H);have A5:=zqm k9;clear k9
  by_cases c6:(b1 !=b6)=true
  ·rw [if_pos c6] at H;have h9:(b1 !=b6)=true:=c6;(try(have i0:decide (b1=b6)=false:=by simpa using c6));(try(have i1:(b1==b6)=false:=by simpa using c6));(try(have o7: ¬(b1=b6):=by simpa using c6));clear c6;obtain rfl:=Option.some.inj H
   go_enter Try.func5,Try.ntmps5
   go_wp2_with (first|((with_reducible refine gate_callee (f:=27) rfl ?_);refine goesL_ (some 14) rfl rfl Try.func27 zqk rfl #[.slice A0 l0.length c0] rfl zq3 ?_;(with_reducible refine(spec_DrawAgreeOk.calls k _ _ l0 a3 a1 b3 _ ?side1 ?side2 A3.out).mono ?_);(case side1=> exact zq125);(case side2=>exact l1.out);rintro e w7 ⟨m8,m9,rfl,d2,h4,hb⟩;refine⟨_,rfl,?_⟩;have a4:=zqm (Kd.S_lower d2 (below_size zq2));have a5:=zqm (Kd.Q_lower h4 (below_size zq2));replace HB:=zqm (below_step zq2 hb);clear hb d2 h4)|((with_reducible refine gate_dst (N:=3) rfl ?_);(try(refine gate_guard (by rfl) ?_;dsimp only));refine box_event ?hg (N:=3) ?hd (cs:= #[.slice none 0 0,.slice none 0 0]) (t:=26) ?hr ?_;(case hd=>rfl);(case hg=>rfl);(case hr=> exact zq22);intro a2 hg w8 hbox hb;replace a4:=zqm (Kd.S_below (zqfS a4.out) hb);replace a5:=zqm (Kd.Q_below (zqfQ a5.out) hb);have h5:=zqm (below_step zq2 hb);have a0:=zqm (hbox);have k0:=zqm ((by rw [hg];exact(below_size zq2):w.heap.size≤a2));have b0:=zqm ((by rw [hg];exact(below_size zq2):w.heap.size≤a2));clear HB;have HB:=h5;clear h5 hb hbox hg;obtain⟨d1,c8,n8⟩:=Kd.S_slice a4.out;subst n8;have d8:w8.cell? ⟨a2,0,none⟩=some (.slice none 0 0):=(blk_cell a0.out 0).trans rfl;have d9:w8.cell? ⟨a2,1,none⟩=some (.slice none 0 0):=(blk_cell a0.out 1).trans rfl;have f4:=blk_frozen a0.out 0;have f5:=blk_frozen a0.out 1;obtain⟨b9,b8,l9,_⟩:=Kd.Q_slice a5.out;subst l9)|((with_reducible refine gate_callee (f:=28) rfl ?_);refine goesL_ (some 19) rfl rfl Try.func28 zqk rfl #[.agg #[.slice d1 a3.length c8,.slice b9 a1.length b8],.int .i64 b3] rfl zq3 ?_;(with_reducible refine(impl_AgreeOk.calls _ _ a3 _ _ a1 b3 b1 _ ?side1 ?side2 ?side3 ?side4 A4.out).mono ?_);(case side1=>refine(Kd.S_reads' (e:=24) (base:=w.heap.size) (ok:=fun k_=>some k_≠(.slice b9 a1.length b8:Value).ownBlock) (n:=a3.length) (c:=c8) ?_).2.2;exact zq87);(case side2=> exact zq140);(case side3=>refine(Kd.Q_reads' (e:=3) (base:=w.heap.size) (ok:=fun k_=>True) (n:=a1.length) (c:=b8) ?_).2.2;exact zq85);(case side4=> exact zq139);rintro e l4 ⟨rfl,hb⟩;refine⟨_,rfl,?_⟩;replace a4:=zqm (Kd.S_below zq87 hb);replace a5:=zqm (Kd.Q_below zq85 hb);replace a0:=zqm (blk_below (g:=a2) (o:= .cells #[.slice d1 a3.length c8,.slice b9 a1.length b8] 26 (0,0)) (by refine zqe ?_;refine blk_put (cs:= #[.slice d1 a3.length c8,.slice none 0 0]) ?_ 1 _ rfl;refine zqe ?_;refine blk_put (cs:= #[.slice none 0 0,.slice none 0 0]) ?_ 0 _ rfl;refine zqe ?_;exact a0.out) hb);replace HB:=zqm (below_step zq14 hb);clear hb;have e0:l4.cell? ⟨a2,0,none⟩=some (.slice d1 a3.length c8):=(blk_cell a0.out 0).trans rfl;have e1:l4.cell? ⟨a2,1,none⟩=some (.slice b9 a1.length b8):=(blk_cell a0.out 1).trans rfl;have f6:=blk_frozen a0.out 0;have f7:=blk_frozen a0.out 1)|((with_reducible refine gate_callee (f:=29) rfl ?_);refine goesL_ (some 23) rfl rfl Try.func29 zqk rfl #[.agg #[.slice d1 a3.length c8,.slice b9 a1.length b8],.int .i64 b3] rfl zq3 ?_;(with_reducible refine(spec_AgreeOk.calls k _ _ a3 _ _ a1 b3 b6 _ ?side1 ?side2 ?side3 ?side4 A5.out).mono ?_);(case side1=> exact zq45);(case side2=> exact zq140);(case side3=> exact zq44);(case side4=> exact zq139);rintro e p4 ⟨rfl,hb⟩;refine⟨_,rfl,?_⟩;replace a4:=zqm (Kd.S_below (zqfS a4.out) hb);replace a5:=zqm (Kd.Q_below (zqfQ a5.out) hb);replace a0:=zqm (blk_below (g:=a2) (o:= .cells #[.slice d1 a3.length c8,.slice b9 a1.length b8] 26 (0,0)) (zqe a0.out) hb);replace HB:=zqm (below_step zq14 hb);clear hb))
   go_ret
   exact⟨zq16,zq14⟩
  ·rw [if_neg c6] at H;(have h9:(b1 !=b6)=false:=by simpa using c6);(try(have i0:decide (b1=b6)=true:=by simpa using c6));(try(have i1:(b1==b6)=true:=by simpa using c6));clear c6;have h6:=zqm H;clear H
   go_enter Try.func5,Try.ntmps5
   go_upto_region 7 with (first|((with_reducible refine gate_callee (f:=27) rfl ?_);refine goesL_ (some 14) rfl rfl Try.func27 zqk rfl #[.slice A0 l0.length c0] rfl zq3 ?_;(with_reducible refine(spec_DrawAgreeOk.calls k _ _ l0 a3 a1 b3 _ ?side1 ?side2 A3.out).mono ?_);(case side1=> exact zq125);(case side2=>exact l1.out);rintro e p5 ⟨m8,m9,rfl,d2,h4,hb⟩;refine⟨_,rfl,?_⟩;have a4:=zqm (Kd.S_lower d2 (below_size zq2));have a5:=zqm (Kd.Q_lower h4 (below_size zq2));replace HB:=zqm (below_step zq2 hb);clear hb d2 h4)|((with_reducible refine gate_dst (N:=3) rfl ?_);(try(refine gate_guard (by rfl) ?_;dsimp only));refine box_event ?hg (N:=3) ?hd (cs:= #[.slice none 0 0,.slice none 0 0]) (t:=26) ?hr ?_;(case hd=>rfl);(case hg=>rfl);(case hr=> exact zq22);intro a2 hg l5 hbox hb;replace a4:=zqm (Kd.S_below (zqfS a4.out) hb);replace a5:=zqm (Kd.Q_below (zqfQ a5.out) hb);have h5:=zqm (below_step zq2 hb);have a0:=zqm (hbox);have k0:=zqm ((by rw [hg];exact(below_size zq2):w.heap.size≤a2));have b0:=zqm ((by rw [hg];exact(below_size zq2):w.heap.size≤a2));clear HB;have HB:=h5;clear h5 hb hbox hg;obtain⟨a9,a8,m0⟩:=Kd.S_slice a4.out;subst m0;have e2:l5.cell? ⟨a2,0,none⟩=some (.slice none 0 0):=(blk_cell a0.out 0).trans rfl;have e3:l5.cell? ⟨a2,1,none⟩=some (.slice none 0 0):=(blk_cell a0.out 1).trans rfl;have f8:=blk_frozen a0.out 0;have f9:=blk_frozen a0.out 1;obtain⟨a7,a6,m1,_⟩:=Kd.Q_slice a5.out;subst m1)|((with_reducible refine gate_callee (f:=28) rfl ?_);refine goesL_ (some 19) rfl rfl Try.func28 zqk rfl #[.agg #[.slice a9 a3.length a8,.slice a7 a1.length a6],.int .i64 b3] rfl zq3 ?_;(with_reducible refine(impl_AgreeOk.calls _ _ a3 _ _ a1 b3 b1 _ ?side1 ?side2 ?side3 ?side4 A4.out).mono ?_);(case side1=>refine(Kd.S_reads' (e:=24) (base:=w.heap.size) (ok:=fun k_=>some k_≠(.slice a7 a1.length a6:Value).ownBlock) (n:=a3.length) (c:=a8) ?_).2.2;exact zq86);(case side2=> exact zq140);(case side3=>refine(Kd.Q_reads' (e:=3) (base:=w.heap.size) (ok:=fun k_=>True) (n:=a1.length) (c:=a6) ?_).2.2;exact zq84);(case side4=> exact zq139);rintro e l6 ⟨rfl,hb⟩;refine⟨_,rfl,?_⟩;replace a4:=zqm (Kd.S_below zq86 hb);replace a5:=zqm (Kd.Q_below zq84 hb);replace a0:=zqm (blk_below (g:=a2) (o:= .cells #[.slice a9 a3.length a8,.slice a7 a1.length a6] 26 (0,0)) (by refine zqe ?_;refine blk_put (cs:= #[.slice a9 a3.length a8,.slice none 0 0]) ?_ 1 _ rfl;refine zqe ?_;refine blk_put (cs:= #[.slice none 0 0,.slice none 0 0]) ?_ 0 _ rfl;refine zqe ?_;exact a0.out) hb);replace HB:=zqm (below_step zq14 hb);clear hb;have e4:l6.cell? ⟨a2,0,none⟩=some (.slice a9 a3.length a8):=(blk_cell a0.out 0).trans rfl;have e5:l6.cell? ⟨a2,1,none⟩=some (.slice a7 a1.length a6):=(blk_cell a0.out 1).trans rfl;have g0:=blk_frozen a0.out 0;have g1:=blk_frozen a0.out 1)|((with_reducible refine gate_callee (f:=29) rfl ?_);refine goesL_ (some 23) rfl rfl Try.func29 zqk rfl #[.agg #[.slice a9 a3.length a8,.slice a7 a1.length a6],.int .i64 b3] rfl zq3 ?_;(with_reducible refine(spec_AgreeOk.calls k _ _ a3 _ _ a1 b3 b6 _ ?side1 ?side2 ?side3 ?side4 A5.out).mono ?_);(case side1=> exact zq45);(case side2=> exact zq140);(case side3=> exact zq44);(case side4=> exact zq139);rintro e h0 ⟨rfl,hb⟩;refine⟨_,rfl,?_⟩;replace a4:=zqm (Kd.S_below (zqfS a4.out) hb);replace a5:=zqm (Kd.Q_below (zqfQ a5.out) hb);replace a0:=zqm (blk_below (g:=a2) (o:= .cells #[.slice a9 a3.length a8,.slice a7 a1.length a6] 26 (0,0)) (zqe a0.out) hb);replace HB:=zqm (below_step zq14 hb);clear hb))
   (try simp only [Act.put,List.setIfInBounds_toArray,List.set_cons_zero,List.set_cons_succ])
   go_cut [39] (fun n9 wc=> ∃(kq:Nat) (d3:Bool),n9= .bool d3∧Aside0 (laws_FnAgreeOk.j0 kq b3 b1 d3 a3 a1=some r)∧Aside0 (kq≤k)∧Aside0 (Kd.S (Kd.slice 3 (Kd.int .i64)) 24 wc w.heap.size (fun k_=>some k_≠((.slice a7 a1.length a6):Value).ownBlock) (.slice a9 a3.length a8) a3)∧Aside0 (Kd.Q (Kd.int .i64) 3 wc w.heap.size (fun _=>True) (.slice a7 a1.length a6) a1)∧Aside0 (wc.heap[a2]? =some (.cells #[(.slice a9 a3.length a8),(.slice a7 a1.length a6)] 26 (0,0)))∧Aside0 (Below w.heap.size w wc))
   case first=>
    have H:=h6.out;clear h6;replace H:=Option.bind_eq_some_iff.mp H;obtain⟨i5,j6,H⟩:=H;(try dsimp only at H);have i7:=zqm j6;clear j6
    by_cases d6:i5=true
    ·subst d6;rw [if_pos rfl] at H
     by_cases d4:b3<1
     ·rw [if_pos d4] at H;have c4:decide (b3<1)=true:=decide_eq_true d4;clear d4;(first|rw [c4]|(simp only [i64_w,i32_w];rw [c4])|skip);have H':=zqm H;clear H;have e6:h0.cell? ⟨a2,0,none⟩=some (.slice a9 a3.length a8):=(blk_cell a0.out 0).trans rfl;have e7:h0.cell? ⟨a2,1,none⟩=some (.slice a7 a1.length a6):=(blk_cell a0.out 1).trans rfl;have g2:=blk_frozen a0.out 0;have g3:=blk_frozen a0.out 1
      go_wp2_with (first|((with_reducible refine gate_callee (f:=17) rfl ?_);refine goesL_ (some 26) rfl rfl Try.func17 zqk rfl #[.agg #[.slice a9 a3.length a8,.slice a7 a1.length a6]] rfl zq3 ?_;(with_reducible refine(spec_LogicOk.calls k _ _ a3 _ _ a1 true _ ?side1 ?side2 ?side3 ?side4 i7.out).mono ?_);(case side1=> exact zq45);(case side2=> exact zq140);(case side3=> exact zq44);(case side4=> exact zq139);rintro e p7 ⟨rfl,hb⟩;refine⟨_,rfl,?_⟩;replace a4:=zqm (Kd.S_below (zqfS a4.out) hb);replace a5:=zqm (Kd.Q_below (zqfQ a5.out) hb);replace a0:=zqm (blk_below (g:=a2) (o:= .cells #[.slice a9 a3.length a8,.slice a7 a1.length a6] 26 (0,0)) (zqe a0.out) hb);replace HB:=zqm (below_step zq14 hb);clear hb))
      go_meet
      case rel=>exact⟨_,(true),zq6,H',⟨zq62⟩,⟨zqfS a4.out⟩,⟨zqfQ a5.out⟩,⟨zqe a0.out⟩,⟨zq14⟩⟩
     ·rw [if_neg d4] at H;have c4:decide (b3<1)=false:=decide_eq_false d4;clear d4;(first|rw [c4]|(simp only [i64_w,i32_w];rw [c4])|skip);obtain⟨b5,d0⟩: ∃j_:Int,(shl .i64 1 (a1.length:Int))=j_:=⟨_,rfl⟩;(replace H:(laws_FnAgreeOk.j0 k b3 b1 (decide (b3≥(b5))) a3 a1)=some r:=by first|(rw [d0] at H;exact H)|(simp only [d0] at H ⊢;exact H));(try rw [d0] at i7);have d5:(IntKind.i64.wrap (1*2 ^ min (a1.length:Int).toNat 64))=b5:=d0;have hji29z:(a1.length:Int)≤64→(IntKind.i64.wrap (1*2 ^ (a1.length:Int).toNat))=b5:=shl_small d0;have hji29p:(IntKind.i64.wrap (1*2 ^ min a1.length 64))=b5:=d5;have hji29q:(a1.length:Int)≤64→(IntKind.i64.wrap (1*2 ^ a1.length))=b5:=hji29z;(have hji29r:(IntKind.i64.wrap (2 ^ min a1.length 64))=b5:=by have h_:=hji29p;rw [Int.one_mul] at h_;exact h_);(have hji29s:(a1.length:Int)≤64→(IntKind.i64.wrap (2 ^ a1.length))=b5:=fun hle_=>by have h_:=hji29q hle_;rw [Int.one_mul] at h_;exact h_);(have hji29u:(IntKind.i64.wrap (2 ^ min (a1.length:Int).toNat 64))=b5:=by have h_:=d5;rw [Int.one_mul] at h_;exact h_);(have hji29v:(a1.length:Int)≤64→(IntKind.i64.wrap (2 ^ (a1.length:Int).toNat))=b5:=fun hle_=>by have h_:=hji29z hle_;rw [Int.one_mul] at h_;exact h_);have hji29y:(wrap64 (1*2 ^ min (a1.length:Int).toNat 64))=b5:=(i64_w _).symm.trans d5;have hji29x:(a1.length:Int)≤64→(wrap64 (1*2 ^ (a1.length:Int).toNat))=b5:=fun h_=>(i64_w _).symm.trans (hji29z h_);have H':=zqm H;clear H;have e8:h0.cell? ⟨a2,0,none⟩=some (.slice a9 a3.length a8):=(blk_cell a0.out 0).trans rfl;have e9:h0.cell? ⟨a2,1,none⟩=some (.slice a7 a1.length a6):=(blk_cell a0.out 1).trans rfl;have g4:=blk_frozen a0.out 0;have g5:=blk_frozen a0.out 1
      go_wp2_with (first|((with_reducible refine gate_callee (f:=17) rfl ?_);refine goesL_ (some 26) rfl rfl Try.func17 zqk rfl #[.agg #[.slice a9 a3.length a8,.slice a7 a1.length a6]] rfl zq3 ?_;(with_reducible refine(spec_LogicOk.calls k _ _ a3 _ _ a1 true _ ?side1 ?side2 ?side3 ?side4 i7.out).mono ?_);(case side1=> exact zq45);(case side2=> exact zq140);(case side3=> exact zq44);(case side4=> exact zq139);rintro e l7 ⟨rfl,hb⟩;refine⟨_,rfl,?_⟩;replace a4:=zqm (Kd.S_below (zqfS a4.out) hb);replace a5:=zqm (Kd.Q_below (zqfQ a5.out) hb);replace a0:=zqm (blk_below (g:=a2) (o:= .cells #[.slice a9 a3.length a8,.slice a7 a1.length a6] 26 (0,0)) (zqe a0.out) hb);replace HB:=zqm (below_step zq14 hb);clear hb;have f0:l7.cell? ⟨a2,0,none⟩=some (.slice a9 a3.length a8):=(blk_cell a0.out 0).trans rfl;have f1:l7.cell? ⟨a2,1,none⟩=some (.slice a7 a1.length a6):=(blk_cell a0.out 1).trans rfl;have g6:=blk_frozen a0.out 0;have g7:=blk_frozen a0.out 1))
      go_meet
      case rel=>exact⟨_,(decide (b3≥(b5))),(by first|rfl|(simp;done)|(simp only [← d0] <;> (first|rfl|simp))|(simp [*];done)),H',⟨zq62⟩,⟨zqfS a4.out⟩,⟨zqfQ a5.out⟩,⟨zqe a0.out⟩,⟨zq14⟩⟩
    ·replace d6:=Bool.eq_false_iff.mpr d6;subst d6;rw [if_neg (show¬(false=true) by decide)] at H;have H':=zqm H;clear H;have f2:h0.cell? ⟨a2,0,none⟩=some (.slice a9 a3.length a8):=(blk_cell a0.out 0).trans rfl;have f3:h0.cell? ⟨a2,1,none⟩=some (.slice a7 a1.length a6):=(blk_cell a0.out 1).trans rfl;have g8:=blk_frozen a0.out 0;have g9:=blk_frozen a0.out 1
     go_wp2_with (first|((with_reducible refine gate_callee (f:=17) rfl ?_);refine goesL_ (some 26) rfl rfl Try.func17 zqk rfl #[.agg #[.slice a9 a3.length a8,.slice a7 a1.length a6]] rfl zq3 ?_;(with_reducible refine(spec_LogicOk.calls k _ _ a3 _ _ a1 false _ ?side1 ?side2 ?side3 ?side4 i7.out).mono ?_);(case side1=> exact zq45);(case side2=> exact zq140);(case side3=> exact zq44);(case side4=> exact zq139);rintro e p8 ⟨rfl,hb⟩;refine⟨_,rfl,?_⟩;replace a4:=zqm (Kd.S_below (zqfS a4.out) hb);replace a5:=zqm (Kd.Q_below (zqfQ a5.out) hb);replace a0:=zqm (blk_below (g:=a2) (o:= .cells #[.slice a9 a3.length a8,.slice a7 a1.length a6] 26 (0,0)) (zqe a0.out) hb);replace HB:=zqm (below_step zq14 hb);clear hb))
     go_meet
     case rel=>exact⟨_,(true),zq6,H',⟨zq62⟩,⟨zqfS a4.out⟩,⟨zqfQ a5.out⟩,⟨zqe a0.out⟩,⟨zq14⟩⟩
   case rest=>
    clear h6;(try clear c1);(try clear c2);(try clear h7);(try clear h8);(try clear p2);(try clear c5);(try clear c6);(try clear h9);(try clear i0);(try clear i1);(try clear p6);(try clear n4);(try clear d6);(try clear d4);(try clear c4);(try clear n5);(try clear n6);(try clear n7);(try clear d8);(try clear d9);(try clear e0);(try clear e1);(try clear e2);(try clear e3);(try clear e4);(try clear e5);(try clear e6);(try clear e7);(try clear e8);(try clear e9);(try clear f0);(try clear f1);(try clear f2);(try clear f3);(try clear f4);(try clear f5);(try clear f6);(try clear f7);(try clear f8);(try clear f9);(try clear g0);(try clear g1);(try clear g2);(try clear g3);(try clear g4);(try clear g5);(try clear g6);(try clear g7);(try clear g8);(try clear g9);obtain⟨kq,d3,rfl,HA,h1,HO_728000,HO_728001,a0,HB⟩:=hcut
    cases kq with
    |zero=>exact absurd HA.out (by simp [laws_FnAgreeOk.j0])
    |succ i2=>
     have H:=HA.out;clear HA;simp only [laws_FnAgreeOk.j0] at H
     by_cases h2:d3=true
     ·subst h2;rw [if_pos rfl] at H
      by_cases h3:b1=true
      ·subst h3;rw [if_pos rfl] at H;obtain rfl:=Option.some.inj H
       go_wp2
       go_ret
       exact⟨zq16,zq14⟩
      ·replace h3:=Bool.eq_false_iff.mpr h3;subst h3;rw [if_neg (show¬(false=true) by decide)] at H;replace H:=Option.bind_eq_some_iff.mp H;obtain⟨m6,j7,H⟩:=H;(try dsimp only at H);have n1:=zqm j7;clear j7;obtain rfl:=Option.some.inj H
       go_wp2_with (first|(go_at_call 18;(with_reducible refine(laws_alive.calls i2 m6 _ n1.out).mono ?_);rintro e p9 ⟨rfl,hb⟩;replace HO_728000:=zqm (Kd.S_below (zqfS HO_728000.out) hb);replace HO_728001:=zqm (Kd.Q_below (zqfQ HO_728001.out) hb);replace a0:=zqm (blk_below (g:=a2) (o:= .cells #[.slice a9 a3.length a8,.slice a7 a1.length a6] 26 (0,0)) (zqe a0.out) hb);replace HB:=zqm (below_step zq14 hb);clear hb))
       go_ret
       exact⟨zq16,zq14⟩
     ·replace h2:=Bool.eq_false_iff.mpr h2;subst h2;rw [if_neg (show¬(false=true) by decide)] at H;replace H:=Option.bind_eq_some_iff.mp H;obtain⟨c9,j8,H⟩:=H;(try dsimp only at H);have n2:=zqm j8;clear j8;have H':=zqm H;clear H;have j2:wc.cell? ⟨a2,0,none⟩=some (.slice a9 a3.length a8):=(blk_cell a0.out 0).trans rfl;have j3:wc.cell? ⟨a2,1,none⟩=some (.slice a7 a1.length a6):=(blk_cell a0.out 1).trans rfl;have j4:=blk_frozen a0.out 0;have j5:=blk_frozen a0.out 1
      go_wp2_with (first|((with_reducible refine gate_callee (f:=20) rfl ?_);refine goesL_ (some 46) rfl rfl Try.func20 zqk rfl #[.agg #[.slice a9 a3.length a8,.slice a7 a1.length a6]] rfl zq3 ?_;(with_reducible refine(impl_BlocksOf.calls _ _ a3 _ _ a1 c9 _ ?side1 ?side2 ?side3 ?side4 n2.out).mono ?_);(case side1=>repeat(first|exact(Kd.S_reads' HO_728000.out).2.2|(with_reducible refine Kd.C_alloc ?_ _)|(with_reducible refine Kd.C_drewN ?_ _)|(with_reducible refine Kd.C_drew ?_)));(case side2=>exact(Kd.S_reads' HO_728000.out).2.1);(case side3=>repeat(first|exact(Kd.Q_reads' HO_728001.out).2.2|(with_reducible refine Kd.C_alloc ?_ _)|(with_reducible refine Kd.C_drewN ?_ _)|(with_reducible refine Kd.C_drew ?_)));(case side4=>exact(Kd.Q_reads' HO_728001.out).2.1);rintro e q0 ⟨i6,rfl,d2,hb⟩;refine⟨_,rfl,?_⟩;replace HO_728000:=zqm (Kd.S_elder' (zqfS HO_728000.out) (Kd.R_base d2) hb);have l3:=zqm (Kd.Q_elder' (zqfQ HO_728001.out) (Kd.R_base d2) hb);have k1:=zqm (Kd.R_lower (Kd.R_new' d2 (Kd.Q_lt (zqfQ HO_728001.out))) (below_size zq14));replace a0:=zqm (blk_below (g:=a2) (o:= .cells #[.slice a9 a3.length a8,.slice a7 a1.length a6] 26 (0,0)) (zqe a0.out) hb);replace HB:=zqm (below_step zq14 hb);clear HO_728001;have HO_728001:=l3;clear l3 hb d2))
      go_loopg [7,8] i2 (fun kq v7 v8 w'=> ∃(b7:Bool) (b4:Int),v7= .bool b7∧v8= .int .i64 b4∧Aside0 (laws_FnAgreeOk.l0 kq b3 b1 c9 b7 b4=some r)∧Aside0 (kq≤i2)∧Aside0 (Kd.R (Kd.int .i64) 3 w' w.heap.size (fun k_=>some k_≠((.slice a7 a1.length a6):Value).ownBlock) i6 c9)∧Aside0 (Kd.S (Kd.slice 3 (Kd.int .i64)) 24 w' w.heap.size (fun k_=>some k_≠(i6:Value).ownBlock∧some k_≠((.slice a7 a1.length a6):Value).ownBlock) (.slice a9 a3.length a8) a3)∧Aside0 (Kd.Q (Kd.int .i64) 3 w' w.heap.size (fun k_=>some k_≠(i6:Value).ownBlock) (.slice a7 a1.length a6) a1)∧Aside0 (w'.heap[a2]? =some (.cells #[(.slice a9 a3.length a8),(.slice a7 a1.length a6)] 26 (0,0)))∧Aside0 (Below w.heap.size w w'))
      case atStart=>exact⟨(false),(0),zq6,zq6,H',⟨Nat.le_refl _⟩,⟨by refine zqfR ?_;exact Kd.R_mono k1.out (fun _ hk=>hk.2)⟩,⟨by refine zqfS ?_;exact Kd.S_mono HO_728000.out (fun _ hk=>⟨hk.2,hk.1⟩)⟩,⟨by refine zqfQ ?_;exact Kd.Q_mono HO_728001.out (fun _ hk=>hk.2)⟩,⟨zqe a0.out⟩,⟨zq14⟩⟩
      case round=>
       clear H';(try clear c1);(try clear c2);(try clear h7);(try clear h8);(try clear p2);(try clear c3);(try clear c5);(try clear c6);(try clear h9);(try clear i0);(try clear i1);(try clear p6);(try clear n4);(try clear p3);(try clear d6);(try clear d4);(try clear c4);(try clear n5);(try clear n6);(try clear n7);(try clear h2);(try clear h3);(try clear d8);(try clear d9);(try clear e0);(try clear e1);(try clear e2);(try clear e3);(try clear e4);(try clear e5);(try clear e6);(try clear e7);(try clear e8);(try clear e9);(try clear f0);(try clear f1);(try clear f2);(try clear f3);(try clear j2);(try clear j3);(try clear f4);(try clear f5);(try clear f6);(try clear f7);(try clear f8);(try clear f9);(try clear g0);(try clear g1);(try clear g2);(try clear g3);(try clear g4);(try clear g5);(try clear g6);(try clear g7);(try clear g8);(try clear g9);(try clear j4);(try clear j5);(try clear p2);(try clear p6);obtain⟨b7,b4,rfl,rfl,HA,i8,HO_6,HO_728000,HO_728001,a0,HB⟩:=hrel
       cases gk with
       |zero=>exact absurd HA.out (by simp [laws_FnAgreeOk.l0])
       |succ k2=>
        have H:=HA.out;clear HA;simp only [laws_FnAgreeOk.l0] at H
        by_cases d7:b4<(c9.length:Int)
        ·rw [if_pos d7] at H;have k3:decide (b4<(c9.length:Int))=true:=decide_eq_true d7;clear d7
         by_cases i9:b7=true
         ·subst i9;rw [if_pos rfl] at H;have H':=zqm H;clear H;obtain⟨o3,o8,m2⟩:=Kd.R_slice HO_6.out;subst m2
          go_wp2
          go_roundg k2
          (case measure=> exact zq183);case rel=>exact⟨(true),(wrap64 (b4+1)),zq6,zq6,H',⟨zq183⟩,⟨zqfR HO_6.out⟩,⟨zqfS HO_728000.out⟩,⟨zqfQ HO_728001.out⟩,⟨zqe a0.out⟩,⟨zq14⟩⟩
         ·replace i9:=Bool.eq_false_iff.mpr i9;subst i9;rw [if_neg (show¬(false=true) by decide)] at H
          by_cases j1:0≤b4
          ·rw [if_pos j1] at H;have o1:decide (0≤b4)=true:=decide_eq_true j1;clear j1;have H':=zqm H;clear H;obtain⟨o4,o9,m3⟩:=Kd.R_slice HO_6.out;subst m3;have i3:0≤(b4:Int):=zqo;have i4:b4<(c9.length:Int):=zqo;obtain⟨o0,l8,n0⟩:=Kd.at_int (Kd.R_reads' HO_6.out).2.2 b4 i3 i4
           cases l8
           replace i3:=eq_true i3;replace i4:=eq_true i4
           go_wp2
           go_roundg k2
           (case measure=> exact zq183);case rel=>exact⟨(((Go.bits .and .i64 (rd c9 b4) b3)==b3)),(wrap64 (b4+1)),zq6,zq6,H',⟨zq183⟩,⟨zqfR HO_6.out⟩,⟨zqfS HO_728000.out⟩,⟨zqfQ HO_728001.out⟩,⟨zqe a0.out⟩,⟨zq14⟩⟩
          ·rw [if_neg j1] at H;exact absurd H (by simp)
        ·rw [if_neg d7] at H;have k3:decide (b4<(c9.length:Int))=false:=decide_eq_false d7;clear d7
         by_cases c7:(b1==b7)=true
         ·rw [if_pos c7] at H;have k4:(b1==b7)=true:=c7;(try(have k5:decide (b1=b7)=true:=by simpa using c7));(try(have k6:(b1==b7)=true:=by simpa using c7));clear c7;replace H:=Option.bind_eq_some_iff.mp H;obtain⟨m7,j9,H⟩:=H;(try dsimp only at H);have n3:=zqm j9;clear j9;obtain rfl:=Option.some.inj H;obtain⟨o5,p0,m4⟩:=Kd.R_slice HO_6.out;subst m4
          go_wp2_with (first|(go_at_call 18;(with_reducible refine(laws_alive.calls k2 m7 _ n3.out).mono ?_);rintro e q1 ⟨rfl,hb⟩;replace HO_6:=zqm (Kd.R_below (zqfR HO_6.out) hb);replace HO_728000:=zqm (Kd.S_below (zqfS HO_728000.out) hb);replace HO_728001:=zqm (Kd.Q_below (zqfQ HO_728001.out) hb);replace a0:=zqm (blk_below (g:=a2) (o:= .cells #[.slice a9 a3.length a8,.slice a7 a1.length a6] 26 (0,0)) (zqe a0.out) hb);replace HB:=zqm (below_step zq14 hb);clear hb))
          go_ret
          exact⟨zq16,zq14⟩
         ·rw [if_neg c7] at H;(have k4:(b1==b7)=false:=by simpa using c7);(try(have k5:decide (b1=b7)=false:=by simpa using c7));(try(have k6:(b1==b7)=false:=by simpa using c7));(try(have o2: ¬(b1=b7):=by simpa using c7));clear c7;obtain rfl:=Option.some.inj H;obtain⟨o6,p1,m5⟩:=Kd.R_slice HO_6.out;subst m5
          go_wp2
          go_ret
          exact⟨zq16,zq14⟩
def laws_FnAgreeOk.Pure : Prop := ∀ (l0 : List Int), l0.length ≤ maxLen → l0.length * 1 ≤ 140737488351232 → (∀ x ∈ l0, (Lit.int .u8 x).wf = true) → ∃ k, laws_FnAgreeOk.f k l0 = some true
theorem laws_FnAgreeOk.walk (P : laws_FnAgreeOk.Pure) (a0 : Option Addr) (len0 cap0 : Nat) (z0 : List Int) (w : World) (w0 : (a0 = none ∧ len0 = 0 ∧ cap0 = 0 ∧ z0 = []) ∨ ∃ x, a0 = some x ∧ len0 ≤ cap0 ∧ cap0 ≤ maxLen ∧ z0.length = cap0 ∧ (∀ i, i < z0.length → w.cell? (x.add i) = some (.int .u8 (z0.getD i 0))) ∧ ∀ n ∈ z0, (Lit.int .u8 n).wf = true) (y0 : len0 * 1 ≤ 140737488351232) :
  Calls Try.prog 5 #[.slice a0 len0 cap0] w fun e w' => e = .returned (.bool true) ∧ Below w.heap.size w w' := by
 obtain ⟨l0, rfl, hr0, hm0, hw0, hc0⟩ := ReadsInt.ofRowC w0
 obtain ⟨k, h⟩ := P l0 hm0 y0 hw0
 refine (laws_FnAgreeOk.calls k _ _ l0 true w (Kd.C_of_reads (d := (0 : Int)) (h1 := fun _ => rfl) hr0) hc0 h).mono ?_
 rintro e w' ⟨rfl, hd⟩
 exact ⟨rfl, hd⟩
end
end Go.Proofs.Ytcbjpdaogicibaa.Print
end
section
namespace Go.Proofs.Ytcbjpdaogicibaa.Print
open Go.RowKit Go.Proofs.YtcbjpdaogicibaaW.PrintWords Go.Proofs.YtcbjpdaogicibaaW.PrintLast Go.Proofs.YtcbjpdaogicibaaW.PrintMore
open Oml
section
def Best (n : Nat) (lb : Nat → Bool) (le : Nat → Nat → Bool) (i : Nat) (x : Int) : Prop :=
 (x= -1∧ ∀j,j<i→lb j=false)∨ ∃c:Nat,x=c∧c<i∧lb c=true∧ ∀j,j<i→lb j=true→(∀d,d<n→lb d=true→le d j=true)→j=c
theorem Best.zero {n : Nat} {lb : Nat → Bool} {le : Nat → Nat → Bool} : Best n lb le 0 (-1) := .inl ⟨rfl, fun _ h => absurd h (Nat.not_lt_zero _)⟩
theorem Best.skip {n i : Nat} {lb : Nat → Bool} {le : Nat → Nat → Bool} {x : Int} (h : Best n lb le i x) (hi : lb i = false) : Best n lb le (i + 1) x := by
 rcases h with ⟨h1,h2⟩|⟨c,h1,h2,h3,h4⟩
 ·refine .inl ⟨h1,fun j hj=>?_⟩
  rcases Nat.lt_or_ge j i with h|h
  ·exact h2 j h
  ·obtain rfl:j=i:=by omega
   exact hi
 ·refine .inr ⟨c,h1,by omega,h3,fun j hj k1 k2=>?_⟩
  rcases Nat.lt_or_ge j i with h|h
  ·exact h4 j h k1 k2
  ·obtain rfl:j=i:=by omega
   rw [hi] at k1;exact absurd k1 (by simp)
theorem Best.first {n i : Nat} {lb : Nat → Bool} {le : Nat → Nat → Bool} (h : Best n lb le i (-1)) (hi : lb i = true) : Best n lb le (i + 1) (i : Int) := by
 rcases h with ⟨h1,h2⟩|⟨c,h1,h2,h3,h4⟩
 ·refine .inr ⟨i,rfl,by omega,hi,fun j hj k1 _=>?_⟩
  rcases Nat.lt_or_ge j i with h|h
  ·rw [h2 j h] at k1;exact absurd k1 (by simp)
  ·omega
 ·omega
theorem Best.up {n i c : Nat} {lb : Nat → Bool} {le : Nat → Nat → Bool} (ha : ∀ a b, a < n → b < n → le a b = true → le b a = true → a = b) (hn : i < n) (h : Best n lb le i (c : Int)) (hi : lb i = true) (hc : le c i = true) : Best n lb le (i + 1) (i : Int) := by
 rcases h with ⟨h1,h2⟩|⟨c',h1,h2,h3,h4⟩
 ·omega
 ·obtain rfl:c=c':=by omega
  refine .inr ⟨i,rfl,by omega,hi,fun j hj k1 k2=>?_⟩
  rcases Nat.lt_or_ge j i with h|h
  ·obtain rfl:=h4 j h k1 k2
   exact ha j i (by omega) hn hc (k2 i hn hi)
  ·omega
theorem Best.stay {n i c : Nat} {lb : Nat → Bool} {le : Nat → Nat → Bool} (hn : i < n) (h : Best n lb le i (c : Int)) (hc : le c i = false) : Best n lb le (i + 1) (c : Int) := by
 rcases h with ⟨h1,h2⟩|⟨c',h1,h2,h3,h4⟩
 ·omega
 ·obtain rfl:c=c':=by omega
  refine .inr ⟨c,rfl,by omega,h3,fun j hj k1 k2=>?_⟩
  rcases Nat.lt_or_ge j i with h|h
  ·exact h4 j h k1 k2
  ·obtain rfl:j=i:=by omega
   have:=k2 c (by omega) h3
   rw [hc] at this;exact absurd this (by simp)
section
variable {U : List (List Int)} (O : Order U)
include O
theorem spec_l1Meet.ev {a b : Nat} (ha : a < U.length) (hb : b < U.length) : Ev (fun k => spec_l1Meet.f k U a b) (mI U a b) := by
 have hs:=O.small
 unfold spec_l1Meet.f
 refine Ev.loop (g:=fun k s i=>spec_l1Meet.l0 k U a b s i) U.length (Best U.length (fun i=>leB U i a && leB U i b) (leB U)) (by omega) (fun s h=>?_) (fun i s hi h=>?_) (-1) Best.zero
 ·refine Ev.succ ?_
  simp only [spec_l1Meet.l0]
  repeat(with_reducible first|refine Ev.ip ?_|refine Ev.iq ?_)
  rcases h with ⟨rfl,h⟩|⟨c,rfl,hc,h1,h2⟩
  ·have e:meetO U a b=none:=findN_none.2 fun i hi=>by
    have:(leB U i a && leB U i b)=false:=h i hi
    unfold meetP;rw [← Bool.and_assoc,this];rfl
   unfold mI
   rw [e]
   refine Ev.eq (Ev.all (n:=U.length) (g:=fun k i=>spec_l1Meet.l1 k U a b (-1) i) (fun _=>true) (go:= -1) (stop:= -1) (by omega) (fun _=>?_) fun i hi _ R hR=>?_) (by split <;> rfl)
   ·refine Ev.succ ?_
    simp only [spec_l1Meet.l1]
    repeat(with_reducible first|refine Ev.ip ?_|refine Ev.iq ?_)
    exact Ev.now _
   ·refine Ev.succ ?_
    have hrow:=O.row i hi
    have va:=O.val hi ha
    have vb:=O.val hi hb
    have hab:(leB U i a && leB U i b)=false:=h i hi
    simp only [spec_l1Meet.l1,rdL_nat,rd_nat,rd_row,hrow,va,vb]
    repeat(with_reducible first|refine Ev.ip ?_|refine Ev.iq ?_)
    cases xa:leB U i a with
    |false=>
     repeat(with_reducible first|refine Ev.ip ?_|refine Ev.iq ?_)
     exact hR rfl
    |true=>
     cases xb:leB U i b with
     |false=>
      repeat(with_reducible first|refine Ev.ip ?_|refine Ev.iq ?_)
      exact hR rfl
     |true=>rw [xa,xb] at hab;exact absurd hab (by simp)
  ·replace h1:(leB U c a && leB U c b)=true:=h1
   refine Ev.eq (Ev.all (n:=U.length) (g:=fun k i=>spec_l1Meet.l1 k U a b c i) (fun d=>!(leB U d a && leB U d b)||leB U d c) (go:=(c:Int)) (stop:= -1) (by omega) (fun _=>?_) fun i hi _ R hR=>?_) ?_
   ·refine Ev.succ ?_
    simp only [spec_l1Meet.l1]
    repeat(with_reducible first|refine Ev.ip ?_|refine Ev.iq ?_)
    exact Ev.now _
   ·refine Ev.succ ?_
    have hrow:=O.row i hi
    have va:=O.val hi ha
    have vb:=O.val hi hb
    have vc:=O.val hi hc
    simp only [spec_l1Meet.l1,rdL_nat,rd_nat,rd_row,hrow,va,vb,vc]
    repeat(with_reducible first|refine Ev.ip ?_|refine Ev.iq ?_)
    cases xa:leB U i a with
    |false=>
     repeat(with_reducible first|refine Ev.ip ?_|refine Ev.iq ?_)
     exact hR (by simp [xa])
    |true=>
     repeat(with_reducible first|refine Ev.ip ?_|refine Ev.iq ?_)
     cases xb:leB U i b with
     |false=>
      repeat(with_reducible first|refine Ev.ip ?_|refine Ev.iq ?_)
      exact hR (by simp [xa,xb])
     |true=>
      repeat(with_reducible first|refine Ev.ip ?_|refine Ev.iq ?_)
      cases xc:leB U i c with
      |false=>
       repeat(with_reducible first|refine Ev.ip ?_|refine Ev.iq ?_)
       exact Ev.now _
      |true=>
       repeat(with_reducible first|refine Ev.ip ?_|refine Ev.iq ?_)
       exact hR (by simp [xc])
   ·unfold mI
    have hP:meetP U a b c=allN U.length fun d=>!(leB U d a && leB U d b)||leB U d c:=by unfold meetP;rw [← Bool.and_assoc,h1];rfl
    rw [← hP]
    cases hp:meetP U a b c with
    |true=>rw [O.meet_eq hc hp];rfl
    |false=>
     cases e:meetO U a b with
     |none=>rfl
     |some m=>
      obtain⟨k1,k2⟩:=findN_some e
      obtain⟨q1,q2,q3⟩:=meetP_iff.1 k2
      have:=h2 m k1 (by simp [q1,q2]) fun d hd kd=>by
       rw [Bool.and_eq_true] at kd
       exact q3 d hd kd.1 kd.2
      rw [← this,k2] at hp
      exact absurd hp (by simp)
 ·have hrow:=O.row i hi
  have va:=O.val hi ha
  have vb:=O.val hi hb
  cases xa:leB U i a with
  |false=>
   refine⟨s,h.skip (by simp [xa]),fun K=>Ev.succ ?_⟩
   rw [xa] at va
   simp only [spec_l1Meet.l0,rdL_nat,rd_nat,rd_row,hrow,va,vb]
   repeat(with_reducible first|refine Ev.ip ?_|refine Ev.iq ?_)
   exact K
  |true=>
   cases xb:leB U i b with
   |false=>
    refine⟨s,h.skip (by simp [xb]),fun K=>Ev.succ ?_⟩
    rw [xa] at va;rw [xb] at vb
    simp only [spec_l1Meet.l0,rdL_nat,rd_nat,rd_row,hrow,va,vb]
    repeat(with_reducible first|refine Ev.ip ?_|refine Ev.iq ?_)
    exact K
   |true=>
    rw [xa] at va;rw [xb] at vb
    by_cases hneg:s= -1
    ·subst hneg
     refine⟨(i:Int),h.first (by simp [xa,xb]),fun K=>Ev.succ ?_⟩
     simp only [spec_l1Meet.l0,rdL_nat,rd_nat,rd_row,hrow,va,vb]
     repeat(with_reducible first|refine Ev.ip ?_|refine Ev.iq ?_)
     exact K
    ·obtain⟨c,rfl,hc⟩: ∃c:Nat,s=c∧c<i:=by
      rcases h with ⟨h1,_⟩|⟨c,h1,h2,_⟩
      ·exact absurd h1 hneg
      ·exact⟨c,h1,h2⟩
     have vc:=O.val (show c<U.length by omega) hi
     have hrowc:=O.row c (by omega)
     cases xc:leB U c i with
     |true=>
      refine⟨(i:Int),h.up O.anti hi (by simp [xa,xb]) xc,fun K=>Ev.succ ?_⟩
      rw [xc] at vc
      simp only [spec_l1Meet.l0,rdL_nat,rd_nat,rd_row,hrow,hrowc,va,vb,vc]
      repeat(with_reducible first|refine Ev.ip ?_|refine Ev.iq ?_)
      exact K
     |false=>
      refine⟨(c:Int),h.stay hi xc,fun K=>Ev.succ ?_⟩
      rw [xc] at vc
      simp only [spec_l1Meet.l0,rdL_nat,rd_nat,rd_row,hrow,hrowc,va,vb,vc]
      repeat(with_reducible first|refine Ev.ip ?_|refine Ev.iq ?_)
      exact K
theorem spec_l1Join.ev {a b : Nat} (ha : a < U.length) (hb : b < U.length) : Ev (fun k => spec_l1Join.f k U a b) (jI U a b) := by
 have hs:=O.small
 have hra:=O.row a ha
 have hrb:=O.row b hb
 unfold spec_l1Join.f
 refine Ev.loop (g:=fun k s i=>spec_l1Join.l0 k U a b s i) U.length (Best U.length (fun i=>leB U a i && leB U b i) (fun x y=>leB U y x)) (by omega) (fun s h=>?_) (fun i s hi h=>?_) (-1) Best.zero
 ·refine Ev.succ ?_
  simp only [spec_l1Join.l0]
  repeat(with_reducible first|refine Ev.ip ?_|refine Ev.iq ?_)
  rcases h with ⟨rfl,h⟩|⟨c,rfl,hc,h1,h2⟩
  ·have e:joinO U a b=none:=findN_none.2 fun i hi=>by
    have:(leB U a i && leB U b i)=false:=h i hi
    unfold joinP;rw [← Bool.and_assoc,this];rfl
   unfold jI
   rw [e]
   refine Ev.eq (Ev.all (n:=U.length) (g:=fun k i=>spec_l1Join.l1 k U a b (-1) i) (fun _=>true) (go:= -1) (stop:= -1) (by omega) (fun _=>?_) fun i hi _ R hR=>?_) (by split <;> rfl)
   ·refine Ev.succ ?_
    simp only [spec_l1Join.l1]
    repeat(with_reducible first|refine Ev.ip ?_|refine Ev.iq ?_)
    exact Ev.now _
   ·refine Ev.succ ?_
    have va:=O.val ha hi
    have vb:=O.val hb hi
    have hab:(leB U a i && leB U b i)=false:=h i hi
    simp only [spec_l1Join.l1,rdL_nat,rd_nat,rd_row,hra,hrb,va,vb]
    repeat(with_reducible first|refine Ev.ip ?_|refine Ev.iq ?_)
    cases xa:leB U a i with
    |false=>
     repeat(with_reducible first|refine Ev.ip ?_|refine Ev.iq ?_)
     exact hR rfl
    |true=>
     cases xb:leB U b i with
     |false=>
      repeat(with_reducible first|refine Ev.ip ?_|refine Ev.iq ?_)
      exact hR rfl
     |true=>rw [xa,xb] at hab;exact absurd hab (by simp)
  ·have hrc:=O.row c hc
   replace h1:(leB U a c && leB U b c)=true:=h1
   refine Ev.eq (Ev.all (n:=U.length) (g:=fun k i=>spec_l1Join.l1 k U a b c i) (fun d=>!(leB U a d && leB U b d)||leB U c d) (go:=(c:Int)) (stop:= -1) (by omega) (fun _=>?_) fun i hi _ R hR=>?_) ?_
   ·refine Ev.succ ?_
    simp only [spec_l1Join.l1]
    repeat(with_reducible first|refine Ev.ip ?_|refine Ev.iq ?_)
    exact Ev.now _
   ·refine Ev.succ ?_
    have va:=O.val ha hi
    have vb:=O.val hb hi
    have vc:=O.val hc hi
    simp only [spec_l1Join.l1,rdL_nat,rd_nat,rd_row,hra,hrb,hrc,va,vb,vc]
    repeat(with_reducible first|refine Ev.ip ?_|refine Ev.iq ?_)
    cases xa:leB U a i with
    |false=>
     repeat(with_reducible first|refine Ev.ip ?_|refine Ev.iq ?_)
     exact hR (by simp [xa])
    |true=>
     repeat(with_reducible first|refine Ev.ip ?_|refine Ev.iq ?_)
     cases xb:leB U b i with
     |false=>
      repeat(with_reducible first|refine Ev.ip ?_|refine Ev.iq ?_)
      exact hR (by simp [xa,xb])
     |true=>
      repeat(with_reducible first|refine Ev.ip ?_|refine Ev.iq ?_)
      cases xc:leB U c i with
      |false=>
       repeat(with_reducible first|refine Ev.ip ?_|refine Ev.iq ?_)
       exact Ev.now _
      |true=>
       repeat(with_reducible first|refine Ev.ip ?_|refine Ev.iq ?_)
       exact hR (by simp [xc])
   ·unfold jI
    have hP:joinP U a b c=allN U.length fun d=>!(leB U a d && leB U b d)||leB U c d:=by unfold joinP;rw [← Bool.and_assoc,h1];rfl
    rw [← hP]
    cases hp:joinP U a b c with
    |true=>rw [O.join_eq hc hp];rfl
    |false=>
     cases e:joinO U a b with
     |none=>rfl
     |some m=>
      obtain⟨k1,k2⟩:=findN_some e
      obtain⟨q1,q2,q3⟩:=joinP_iff.1 k2
      have:=h2 m k1 (by simp [q1,q2]) fun d hd kd=>by
       rw [Bool.and_eq_true] at kd
       exact q3 d hd kd.1 kd.2
      rw [← this,k2] at hp
      exact absurd hp (by simp)
 ·have hrow:=O.row i hi
  have va:=O.val ha hi
  have vb:=O.val hb hi
  cases xa:leB U a i with
  |false=>
   refine⟨s,h.skip (by simp [xa]),fun K=>Ev.succ ?_⟩
   rw [xa] at va
   simp only [spec_l1Join.l0,rdL_nat,rd_nat,rd_row,hra,hrb,va,vb]
   repeat(with_reducible first|refine Ev.ip ?_|refine Ev.iq ?_)
   exact K
  |true=>
   cases xb:leB U b i with
   |false=>
    refine⟨s,h.skip (by simp [xb]),fun K=>Ev.succ ?_⟩
    rw [xa] at va;rw [xb] at vb
    simp only [spec_l1Join.l0,rdL_nat,rd_nat,rd_row,hra,hrb,va,vb]
    repeat(with_reducible first|refine Ev.ip ?_|refine Ev.iq ?_)
    exact K
   |true=>
    rw [xa] at va;rw [xb] at vb
    by_cases hneg:s= -1
    ·subst hneg
     refine⟨(i:Int),h.first (by simp [xa,xb]),fun K=>Ev.succ ?_⟩
     simp only [spec_l1Join.l0,rdL_nat,rd_nat,rd_row,hra,hrb,va,vb]
     repeat(with_reducible first|refine Ev.ip ?_|refine Ev.iq ?_)
     exact K
    ·obtain⟨c,rfl,hc⟩: ∃c:Nat,s=c∧c<i:=by
      rcases h with ⟨h1,_⟩|⟨c,h1,h2,_⟩
      ·exact absurd h1 hneg
      ·exact⟨c,h1,h2⟩
     have vc:=O.val hi (show c<U.length by omega)
     cases xc:leB U i c with
     |true=>
      refine⟨(i:Int),h.up (fun x y hx hy e1 e2=>O.anti x y hx hy e2 e1) hi (by simp [xa,xb]) xc,fun K=>Ev.succ ?_⟩
      rw [xc] at vc
      simp only [spec_l1Join.l0,rdL_nat,rd_nat,rd_row,hrow,hra,hrb,va,vb,vc]
      repeat(with_reducible first|refine Ev.ip ?_|refine Ev.iq ?_)
      exact K
     |false=>
      refine⟨(c:Int),h.stay hi xc,fun K=>Ev.succ ?_⟩
      rw [xc] at vc
      simp only [spec_l1Join.l0,rdL_nat,rd_nat,rd_row,hrow,hra,hrb,va,vb,vc]
      repeat(with_reducible first|refine Ev.ip ?_|refine Ev.iq ?_)
      exact K
end
end
theorem l1In_eq (a b c : Int) : spec_l1In.f a b c = some (decide (b ≤ a) && decide (a ≤ c)) := by
 unfold spec_l1In.f
 by_cases h : a ≥ b
 ·rw [if_pos h]; simp [h]
 ·rw [if_neg h]; simp [h]
def rowS (U : List (List Int)) (i : Nat) : Bool := (U.getD i []).length == U.length && allN U.length fun j => at2 U i j == 0 || at2 U i j == 1
def relS (U : List (List Int)) (i : Nat) : Bool := allN U.length fun j => !(if i = j then !leB U i j else leB U i j && leB U j i) && allN U.length fun c => !(leB U i j && leB U j c) || leB U i c
theorem orderB_spec (U : List (List Int)) : orderB U = (decide (1 ≤ U.length) && (decide (U.length ≤ 12) && (allN U.length (rowS U) && allN U.length (relS U)))) := by
 rw [Bool.eq_iff_iff,orderB_iff]
 unfold rowS relS
 simp only [Bool.and_eq_true,decide_eq_true_eq,allN_iff,Bool.or_eq_true,beq_iff_eq,Bool.not_eq_true']
 constructor
 ·intro O
  refine⟨O.pos,O.small,fun i hi=>⟨O.row i hi,fun j hj=>O.bit i j hi hj⟩,fun i hi j hj=>⟨?_,fun c hc=>?_⟩⟩
  ·by_cases e:i=j
   ·rw [if_pos e,← e,O.refl i hi];rfl
   ·rw [if_neg e]
    cases k1:leB U i j
    ·rfl
    ·cases k2:leB U j i
     ·rfl
     ·exact absurd (O.anti i j hi hj k1 k2) e
  ·cases k1:leB U i j
   ·simp
   ·cases k2:leB U j c
    ·simp
    ·exact .inr (O.trans i j c hi hj hc k1 k2)
 ·rintro ⟨h1,h2,h3,h4⟩
  refine⟨h1,h2,fun a ha=>(h3 a ha).1,fun a b ha hb=>(h3 a ha).2 b hb,fun a ha=>?_,fun a b ha hb k1 k2=>?_,fun a b c ha hb hc k1 k2=>?_⟩
  ·have:=(h4 a ha a ha).1
   rw [if_pos rfl] at this
   simpa using this
  ·by_cases e:a=b
   ·exact e
   ·have:=(h4 a ha b hb).1
    rw [if_neg e,k1,k2] at this
    exact absurd this (by simp)
  ·rcases (h4 a ha b hb).2 c hc with e|e
   ·rw [k1,k2] at e;exact absurd e (by simp)
   ·exact e
theorem spec_OrderOk.ev (U : List (List Int)) : Ev (fun k => spec_OrderOk.f k U) (orderB U) := by
 rw [orderB_spec]
 unfold spec_OrderOk.f
 refine Ev.pbind (l1In_eq _ _ _) ?_
 by_cases h1:1≤U.length
 ·by_cases h2:U.length≤12
  ·rw [show (decide ((1:Int)≤U.length) && decide ((U.length:Int)≤12))=true by simp;omega]
   simp only [h1,h2,decide_true,Bool.true_and]
   repeat(with_reducible first|refine Ev.ip ?_|refine Ev.iq ?_)
   refine Ev.eq (Ev.all (n:=U.length) (g:=fun k i=>spec_OrderOk.l0 k U U.length i) (rowS U) (go:=allN U.length (relS U)) (stop:=false) (by omega) (fun hr=>?_) fun i hi _ R hR=>?_) (by cases allN U.length (rowS U) <;> rfl)
   ·have row: ∀i,i<U.length→(U.getD i []).length=U.length:=fun i hi=>by
     have:=hr i hi
     unfold rowS at this
     simp only [Bool.and_eq_true,beq_iff_eq] at this
     exact this.1
    have bit: ∀i j,i<U.length→j<U.length→at2 U i j=if leB U i j=true then 1 else 0:=fun i j hi hj=>by
     have:=hr i hi
     unfold rowS at this
     simp only [Bool.and_eq_true,beq_iff_eq,allN_iff,Bool.or_eq_true] at this
     unfold leB
     rcases this.2 j hj with e|e <;> simp [e]
    refine Ev.succ ?_
    simp only [spec_OrderOk.l0]
    repeat(with_reducible first|refine Ev.ip ?_|refine Ev.iq ?_)
    refine Ev.eq (Ev.all (n:=U.length) (g:=fun k i=>spec_OrderOk.l2 k U U.length i) (relS U) (go:=true) (stop:=false) (by omega) (fun _=>?_) fun a ha _ R hR=>?_) (by cases allN U.length _ <;> rfl)
    ·refine Ev.succ ?_
     simp only [spec_OrderOk.l2]
     repeat(with_reducible first|refine Ev.ip ?_|refine Ev.iq ?_)
     exact Ev.now _
    ·refine Ev.succ ?_
     simp only [spec_OrderOk.l2]
     repeat(with_reducible first|refine Ev.ip ?_|refine Ev.iq ?_)
     refine Ev.all (n:=U.length) (g:=fun k i=>spec_OrderOk.l3 k U U.length a i) _ (by omega) (fun h=>?_) fun b hb _ R2 hR2=>?_
     ·refine Ev.succ ?_
      simp only [spec_OrderOk.l3]
      repeat(with_reducible first|refine Ev.ip ?_|refine Ev.iq ?_)
      exact hR (allN_iff.2 h)
     ·have vab:=bit a b ha hb
      have vba:=bit b a hb ha
      have j4:Ev (fun k=>spec_OrderOk.j4 k U U.length a b (if a=b then !leB U a b else leB U a b && leB U b a)) (if(!(if a=b then !leB U a b else leB U a b && leB U b a) && allN U.length fun c=>!(leB U a b && leB U b c)||leB U a c)=true then R2 else false):=by
       refine Ev.succ ?_
       simp only [spec_OrderOk.j4]
       cases hx:(if a=b then !leB U a b else leB U a b && leB U b a) with
       |true=>
        repeat(with_reducible first|refine Ev.ip ?_|refine Ev.iq ?_)
        exact Ev.now _
       |false=>
        rw [hx,Bool.not_false,Bool.true_and] at hR2
        rw [Bool.not_false,Bool.true_and]
        repeat(with_reducible first|refine Ev.ip ?_|refine Ev.iq ?_)
        refine Ev.all (n:=U.length) (g:=fun k i=>spec_OrderOk.l4 k U U.length a b i) _ (by omega) (fun h=>?_) fun c hc _ R3 hR3=>?_
        ·refine Ev.succ ?_
         simp only [spec_OrderOk.l4]
         repeat(with_reducible first|refine Ev.ip ?_|refine Ev.iq ?_)
         exact hR2 (allN_iff.2 h)
        ·refine Ev.succ ?_
         have vbc:=bit b c hb hc
         have vac:=bit a c ha hc
         have ra:=row a ha
         have rb:=row b hb
         simp only [spec_OrderOk.l4,rdL_nat,rd_nat,rd_row,ra,rb,vab,vbc,vac]
         repeat(with_reducible first|refine Ev.ip ?_|refine Ev.iq ?_)
         cases f1:leB U a b with
         |false=>
          repeat(with_reducible first|refine Ev.ip ?_|refine Ev.iq ?_)
          exact hR3 (by simp [f1])
         |true=>
          repeat(with_reducible first|refine Ev.ip ?_|refine Ev.iq ?_)
          cases f2:leB U b c with
          |false=>
           repeat(with_reducible first|refine Ev.ip ?_|refine Ev.iq ?_)
           exact hR3 (by simp [f2])
          |true=>
           repeat(with_reducible first|refine Ev.ip ?_|refine Ev.iq ?_)
           cases f3:leB U a c with
           |false=>
            repeat(with_reducible first|refine Ev.ip ?_|refine Ev.iq ?_)
            exact Ev.now _
           |true=>
            repeat(with_reducible first|refine Ev.ip ?_|refine Ev.iq ?_)
            exact hR3 (by simp [f3])
      refine Ev.succ ?_
      have ra:=row a ha
      have rb:=row b hb
      simp only [spec_OrderOk.l3,rdL_nat,rd_nat,rd_row,ra,rb,vab,vba]
      repeat(with_reducible first|refine Ev.ip ?_|refine Ev.iq ?_)
      by_cases e:a=b
      ·rw [if_pos e] at j4 ⊢
       repeat(with_reducible first|refine Ev.ip ?_|refine Ev.iq ?_)
       cases f1:leB U a b with
       |false=>
        rw [f1] at j4
        repeat(with_reducible first|refine Ev.ip ?_|refine Ev.iq ?_)
        exact j4
       |true=>
        rw [f1] at j4
        repeat(with_reducible first|refine Ev.ip ?_|refine Ev.iq ?_)
        exact j4
      ·rw [if_neg e] at j4 ⊢
       repeat(with_reducible first|refine Ev.ip ?_|refine Ev.iq ?_)
       cases f1:leB U a b with
       |false=>
        rw [f1] at j4
        repeat(with_reducible first|refine Ev.ip ?_|refine Ev.iq ?_)
        exact j4
       |true=>
        rw [f1] at j4
        repeat(with_reducible first|refine Ev.ip ?_|refine Ev.iq ?_)
        rw [show ((if leB U b a=true then(1:Int) else 0)==1)=leB U b a by cases leB U b a <;> rfl]
        exact j4
   ·refine Ev.succ ?_
    simp only [spec_OrderOk.l0,rdL_nat]
    repeat(with_reducible first|refine Ev.ip ?_|refine Ev.iq ?_)
    by_cases e1:(U.getD i []).length=U.length
    ·repeat(with_reducible first|refine Ev.ip ?_|refine Ev.iq ?_)
     refine Ev.eq (Ev.all (n:=U.length) (g:=fun k j=>spec_OrderOk.l1 k U U.length i j) (fun j=>at2 U i j==0||at2 U i j==1) (go:=R) (stop:=false) (by omega) (fun h=>?_) fun j hj _ R2 hR2=>?_) (by unfold rowS;simp [-List.getD_eq_getElem?_getD,e1])
     ·refine Ev.succ ?_
      simp only [spec_OrderOk.l1]
      repeat(with_reducible first|refine Ev.ip ?_|refine Ev.iq ?_)
      exact hR (by unfold rowS;simp only [e1,BEq.rfl,Bool.true_and];exact allN_iff.2 h)
     ·refine Ev.succ ?_
      simp only [spec_OrderOk.l1,rdL_nat,rd_nat,rd_row,l1In_eq]
      repeat(with_reducible first|refine Ev.ip ?_|refine Ev.iq ?_)
      refine Ev.pbind rfl ?_
      have e:(decide (0≤at2 U i j) && decide (at2 U i j≤1))=(at2 U i j==0||at2 U i j==1):=by
       rw [Bool.eq_iff_iff];simp only [Bool.and_eq_true,decide_eq_true_eq,Bool.or_eq_true,beq_iff_eq];omega
      rw [e]
      cases hb:(at2 U i j==0||at2 U i j==1) with
      |true=>
       repeat(with_reducible first|refine Ev.ip ?_|refine Ev.iq ?_)
       exact hR2 hb
      |false=>
       repeat(with_reducible first|refine Ev.ip ?_|refine Ev.iq ?_)
       exact Ev.now _
    ·repeat(with_reducible first|refine Ev.ip ?_|refine Ev.iq ?_)
     exact Ev.eq (Ev.now _) (by unfold rowS;simp [-List.getD_eq_getElem?_getD,e1])
  ·rw [show (decide ((1:Int)≤U.length) && decide ((U.length:Int)≤12))=false by simp;omega]
   simp only [h1,h2,decide_true,decide_false,Bool.true_and,Bool.false_and]
   repeat(with_reducible first|refine Ev.ip ?_|refine Ev.iq ?_)
   exact Ev.now _
 ·rw [show (decide ((1:Int)≤U.length) && decide ((U.length:Int)≤12))=false by simp;omega]
  simp only [h1,decide_false,Bool.false_and]
  repeat(with_reducible first|refine Ev.ip ?_|refine Ev.iq ?_)
  exact Ev.now _
theorem meetO_comm (U : List (List Int)) (a b : Nat) : meetO U a b = meetO U b a := by
 unfold meetO
 refine findN_congr fun c _=>?_
 rw [Bool.eq_iff_iff,meetP_iff,meetP_iff]
 constructor <;> rintro ⟨h1,h2,h3⟩ <;> exact⟨h2,h1,fun d hd k1 k2=>h3 d hd k2 k1⟩
theorem joinO_comm (U : List (List Int)) (a b : Nat) : joinO U a b = joinO U b a := by
 unfold joinO
 refine findN_congr fun c _=>?_
 rw [Bool.eq_iff_iff,joinP_iff,joinP_iff]
 constructor <;> rintro ⟨h1,h2,h3⟩ <;> exact⟨h2,h1,fun d hd k1 k2=>h3 d hd k2 k1⟩
theorem lattice_half {U : List (List Int)} (O : Order U) : (allN U.length fun a => allN U.length fun b => (meetO U a b).isSome && (joinO U a b).isSome) = allN U.length fun a => allN a fun b => (meetO U a b).isSome && (joinO U a b).isSome := by
 rw [Bool.eq_iff_iff]
 simp only [allN_iff]
 constructor
 ·intro h a ha b hb
  exact h a ha b (by omega)
 ·intro h a ha b hb
  rcases Nat.lt_trichotomy b a with hlt|rfl|hlt
  ·exact h a ha b hlt
  ·rw [O.meet_eq (a:=b) (b:=b) hb (meetP_iff.2 ⟨O.refl b hb,O.refl b hb,fun d _ h _=>h⟩),O.join_eq (a:=b) (b:=b) hb (joinP_iff.2 ⟨O.refl b hb,O.refl b hb,fun d _ h _=>h⟩)]
   rfl
  ·rw [meetO_comm,joinO_comm]
   exact h b hb a hlt
theorem spec_LatticeOk.ev (U : List (List Int)) : Ev (fun k => spec_LatticeOk.f k U) (latticeB U) := by
 unfold spec_LatticeOk.f latticeB
 have ho:=spec_OrderOk.ev U
 cases hb:orderB U with
 |false=>
  rw [hb] at ho
  have fin:Ev (fun k=>spec_LatticeOk.j1 k U 0 false) false:=by
   refine Ev.succ ?_
   simp only [spec_LatticeOk.j1]
   repeat(with_reducible first|refine Ev.ip ?_|refine Ev.iq ?_)
   exact Ev.bind ho (Ev.now _)
  refine Ev.succ ?_
  simp only [spec_LatticeOk.l0]
  by_cases h0:(0:Int)<(U.length:Int)
  ·repeat(with_reducible first|refine Ev.ip ?_|refine Ev.iq ?_)
   exact Ev.bind ho fin
  ·repeat(with_reducible first|refine Ev.ip ?_|refine Ev.iq ?_)
   exact fin
 |true=>
  rw [hb] at ho
  have O:=orderB_iff.1 hb
  have hs:=O.small
  refine Ev.eq (Ev.all (n:=U.length) (g:=fun k i=>spec_LatticeOk.l0 k U i) (fun a=>allN a fun b=>(meetO U a b).isSome && (joinO U a b).isSome) (go:=true) (stop:=false) (by omega) (fun _=>?_) fun a ha _ R hR=>?_) (by rw [Bool.true_and,lattice_half O];cases allN U.length _ <;> rfl)
  ·refine Ev.succ ?_
   simp only [spec_LatticeOk.l0]
   repeat(with_reducible first|refine Ev.ip ?_|refine Ev.iq ?_)
   refine Ev.succ ?_
   simp only [spec_LatticeOk.j1]
   repeat(with_reducible first|refine Ev.ip ?_|refine Ev.iq ?_)
   exact Ev.bind ho (Ev.now _)
  ·refine Ev.succ ?_
   simp only [spec_LatticeOk.l0]
   repeat(with_reducible first|refine Ev.ip ?_|refine Ev.iq ?_)
   refine Ev.bind ho ?_
   refine Ev.succ ?_
   simp only [spec_LatticeOk.j1]
   repeat(with_reducible first|refine Ev.ip ?_|refine Ev.iq ?_)
   refine Ev.all (n:=a) (g:=fun k i=>spec_LatticeOk.l1 k U a i) _ (by omega) (fun h=>?_) fun b hb' _ R2 hR2=>?_
   ·refine Ev.succ ?_
    simp only [spec_LatticeOk.l1]
    repeat(with_reducible first|refine Ev.ip ?_|refine Ev.iq ?_)
    exact hR (allN_iff.2 h)
   ·refine Ev.succ ?_
    have hb:b<U.length:=by omega
    simp only [spec_LatticeOk.l1]
    repeat(with_reducible first|refine Ev.ip ?_|refine Ev.iq ?_)
    refine Ev.bind (spec_l1Meet.ev O ha hb) ?_
    unfold mI
    cases em:meetO U a b with
    |none=>
     refine Ev.ite_pos (by simp [optI]) ?_
     exact Ev.eq (Ev.now _) (by simp)
    |some m=>
     refine Ev.ite_neg (by have:=optI_neg (some 0);simp [optI]) ?_
     refine Ev.bind (spec_l1Join.ev O ha hb) ?_
     unfold jI
     cases ej:joinO U a b with
     |none=>
      refine Ev.ite_pos (by simp [optI]) ?_
      exact Ev.eq (Ev.now _) (by simp)
     |some j=>
      refine Ev.ite_neg (by have:=optI_neg (some 0);simp [optI]) ?_
      exact Ev.eq (hR2 (by simp [em,ej])) (by simp)
theorem spec_LeastOf.ev (U : List (List Int)) : Ev (fun k => spec_LeastOf.f k U) (if orderB U = true then (optI (leastO U), (leastO U).isSome) else (-1, false)) := by
 unfold spec_LeastOf.f
 have ho:=spec_OrderOk.ev U
 cases hb:orderB U with
 |false=>
  rw [hb] at ho
  have fin:Ev (fun k=>spec_LeastOf.j1 k U 0 false) (-1,false):=by
   refine Ev.succ ?_
   simp only [spec_LeastOf.j1]
   repeat(with_reducible first|refine Ev.ip ?_|refine Ev.iq ?_)
   exact Ev.now _
  repeat(with_reducible first|refine Ev.ip ?_|refine Ev.iq ?_)
  refine Ev.succ ?_
  simp only [spec_LeastOf.l0]
  by_cases h0:(0:Int)<(U.length:Int)
  ·repeat(with_reducible first|refine Ev.ip ?_|refine Ev.iq ?_)
   exact Ev.eq (Ev.bind ho fin) (by simp)
  ·repeat(with_reducible first|refine Ev.ip ?_|refine Ev.iq ?_)
   exact Ev.eq fin (by simp)
 |true=>
  rw [hb] at ho
  have O:=orderB_iff.1 hb
  have hs:=O.small
  refine Ev.eq (Ev.find (n:=U.length) (g:=fun k i=>spec_LeastOf.l0 k U i) (fun a=>allN U.length fun b=>leB U a b) (none':=(-1,false)) (some':=fun i=>((i:Int),true)) (by omega) (fun _=>?_) fun a ha _ R hR=>?_) (by rw [if_pos rfl];unfold leastO;cases findN U.length _ <;> rfl)
  ·refine Ev.succ ?_
   simp only [spec_LeastOf.l0]
   repeat(with_reducible first|refine Ev.ip ?_|refine Ev.iq ?_)
   refine Ev.succ ?_
   simp only [spec_LeastOf.j1]
   repeat(with_reducible first|refine Ev.ip ?_|refine Ev.iq ?_)
   exact Ev.now _
  ·refine Ev.succ ?_
   simp only [spec_LeastOf.l0]
   repeat(with_reducible first|refine Ev.ip ?_|refine Ev.iq ?_)
   refine Ev.bind ho ?_
   refine Ev.succ ?_
   simp only [spec_LeastOf.j1]
   repeat(with_reducible first|refine Ev.ip ?_|refine Ev.iq ?_)
   have key: ∀d i,i+d=U.length→ ∀fl:Bool,(fl && allFrom U.length (fun b=>leB U a b) i)=allN U.length (fun b=>leB U a b)→Ev (fun k=>spec_LeastOf.l1 k U a fl i) (if allN U.length (fun b=>leB U a b)=true then((a:Int),true) else R):=by
    intro d
    induction d with
    |zero=>
     intro i hi fl hfl
     refine Ev.succ ?_
     simp only [spec_LeastOf.l1]
     rw [allFrom_ge (by omega),Bool.and_true] at hfl
     rw [hfl]
     repeat(with_reducible first|refine Ev.ip ?_|refine Ev.iq ?_)
     cases ha':allN U.length (fun b=>leB U a b) with
     |true=>
      repeat(with_reducible first|refine Ev.ip ?_|refine Ev.iq ?_)
      exact Ev.now _
     |false=>
      repeat(with_reducible first|refine Ev.ip ?_|refine Ev.iq ?_)
      exact hR ha'
    |succ d ih=>
     intro i hi fl hfl
     rw [allFrom_lt (by omega)] at hfl
     refine Ev.succ ?_
     have rl:=O.row a ha
     simp only [spec_LeastOf.l1,rdL_nat,rd_nat,rd_row,wrap_nat (show i<4611686018427387904 by omega),rl]
     repeat(with_reducible first|refine Ev.ip ?_|refine Ev.iq ?_)
     cases fl with
     |true=>
      repeat(with_reducible first|refine Ev.ip ?_|refine Ev.iq ?_)
      exact ih (i+1) (by omega) _ hfl
     |false=>
      repeat(with_reducible first|refine Ev.ip ?_|refine Ev.iq ?_)
      exact ih (i+1) (by omega) _ (by rw [← hfl];simp)
   exact key U.length 0 (by omega) true (by rw [allFrom_zero,Bool.true_and])
def negS (U : List (List Int)) (N : List Int) (a : Nat) : Bool :=
 at1 N (at1 N a).toNat==(a:Int) && (mI U a (at1 N a).toNat==optI (leastO U) && allN U.length fun b=>!leB U a b||leB U (at1 N b).toNat (at1 N a).toNat)
theorem logicB_spec (U : List (List Int)) (N : List Int) : logicB U N = (latticeB U && (N.length == U.length && (allN U.length (fun a => decide (0 ≤ at1 N a) && decide (at1 N a < U.length)) && allN U.length (negS U N)))) := by
 unfold logicB negS mI
 have e: ∀x y:Option Nat,(optI x==optI y)=(x==y):=by
  intro x y
  rw [Bool.eq_iff_iff,beq_iff_eq,beq_iff_eq]
  exact⟨optI_inj,fun h=>by rw [h]⟩
 simp only [e]
theorem spec_LogicOk.ev (U : List (List Int)) (N : List Int) : Ev (fun k => spec_LogicOk.f k U N) (logicB U N) := by
 rw [logicB_spec]
 unfold spec_LogicOk.f
 refine Ev.bind (spec_LatticeOk.ev U) ?_
 have jf:Ev (fun k=>spec_LogicOk.j0 k U.length true U N) false:=by
  refine Ev.succ ?_
  simp only [spec_LogicOk.j0]
  repeat(with_reducible first|refine Ev.ip ?_|refine Ev.iq ?_)
  exact Ev.now _
 cases hl:latticeB U with
 |false=>
  repeat(with_reducible first|refine Ev.ip ?_|refine Ev.iq ?_)
  exact Ev.eq jf (by simp)
 |true=>
  have O:=latticeB_order hl
  have hs:=O.small
  repeat(with_reducible first|refine Ev.ip ?_|refine Ev.iq ?_)
  by_cases hn:N.length=U.length
  ·rw [show ((N.length:Int) !=(U.length:Int))=false by rw [hn];simp,show (N.length==U.length)=true by simp [hn]]
   simp only [Bool.true_and]
   refine Ev.succ ?_
   simp only [spec_LogicOk.j0]
   repeat(with_reducible first|refine Ev.ip ?_|refine Ev.iq ?_)
   refine Ev.eq (Ev.all (n:=U.length) (g:=fun k i=>spec_LogicOk.l0 k U.length i U N) (fun a=>decide (0≤at1 N a) && decide (at1 N a<U.length)) (go:=allN U.length (negS U N)) (stop:=false) (by omega) (fun hr=>?_) fun i hi _ R hR=>?_) (by cases allN U.length fun a=>decide (0≤at1 N a) && decide (at1 N a<U.length) <;> rfl)
   ·have ran: ∀a,a<U.length→ ∃m:Nat,at1 N a=m∧m<U.length:=fun a ha=>by
     have:=hr a ha
     simp only [Bool.and_eq_true,decide_eq_true_eq] at this
     exact⟨(at1 N a).toNat,by omega,by omega⟩
    refine Ev.succ ?_
    simp only [spec_LogicOk.l0]
    repeat(with_reducible first|refine Ev.ip ?_|refine Ev.iq ?_)
    refine Ev.bind (spec_LeastOf.ev U) ?_
    rw [if_pos (orderB_iff.2 O)]
    refine Ev.eq (Ev.all (n:=U.length) (g:=fun k i=>spec_LogicOk.l1 k U.length (optI (leastO U)) i U N) (negS U N) (go:=true) (stop:=false) (by omega) (fun _=>?_) fun a ha _ R hR=>?_) (by cases allN U.length (negS U N) <;> rfl)
    ·refine Ev.succ ?_
     simp only [spec_LogicOk.l1]
     repeat(with_reducible first|refine Ev.ip ?_|refine Ev.iq ?_)
     exact Ev.now _
    ·obtain⟨m,hm,hmn⟩:=ran a ha
     have fal:Ev (fun k=>spec_LogicOk.j3 k U.length (optI (leastO U)) a true U N) false:=by
      refine Ev.succ ?_
      simp only [spec_LogicOk.j3]
      repeat(with_reducible first|refine Ev.ip ?_|refine Ev.iq ?_)
      exact Ev.now _
     refine Ev.succ ?_
     simp only [spec_LogicOk.l1,rd_nat,hm]
     have hneg:negS U N a=(at1 N m==(a:Int) && (mI U a m==optI (leastO U) && allN U.length fun b=>!leB U a b||leB U (at1 N b).toNat m)):=by unfold negS;rw [hm,Int.toNat_natCast]
     repeat(with_reducible first|refine Ev.ip ?_|refine Ev.iq ?_)
     by_cases e1:at1 N m=a
     ·repeat(with_reducible first|refine Ev.ip ?_|refine Ev.iq ?_)
      refine Ev.bind (spec_l1Meet.ev O ha hmn) ?_
      by_cases e2:mI U a m=optI (leastO U)
      ·rw [show (mI U a m !=optI (leastO U))=false by simp [e2]]
       refine Ev.succ ?_
       simp only [spec_LogicOk.j3]
       repeat(with_reducible first|refine Ev.ip ?_|refine Ev.iq ?_)
       have hneg2:negS U N a=allN U.length fun b=>!leB U a b||leB U (at1 N b).toNat m:=by rw [hneg,show (at1 N m==(a:Int))=true by simp [e1],show (mI U a m==optI (leastO U))=true by simp [e2],Bool.true_and,Bool.true_and]
       rw [hneg2]
       refine Ev.all (n:=U.length) (g:=fun k i=>spec_LogicOk.l2 k U.length (optI (leastO U)) a i U N) _ (by omega) (fun h=>?_) fun b hb _ R3 hR3=>?_
       ·refine Ev.succ ?_
        simp only [spec_LogicOk.l2]
        repeat(with_reducible first|refine Ev.ip ?_|refine Ev.iq ?_)
        exact hR (by rw [hneg2];exact allN_iff.2 h)
       ·obtain⟨q,hq,hqn⟩:=ran b hb
        have vab:=O.val ha hb
        have vqm:=O.val hqn hmn
        have ra:=O.row a ha
        have rq:=O.row q hqn
        refine Ev.succ ?_
        simp only [spec_LogicOk.l2,rdL_nat,rd_nat,rd_row,hq,hm,ra,rq,vab,vqm,Int.toNat_natCast]
        rw [hq,Int.toNat_natCast] at hR3
        repeat(with_reducible first|refine Ev.ip ?_|refine Ev.iq ?_)
        cases f1:leB U a b with
        |false=>
         repeat(with_reducible first|refine Ev.ip ?_|refine Ev.iq ?_)
         exact hR3 (by simp [f1])
        |true=>
         repeat(with_reducible first|refine Ev.ip ?_|refine Ev.iq ?_)
         cases f2:leB U q m with
         |false=>
          repeat(with_reducible first|refine Ev.ip ?_|refine Ev.iq ?_)
          exact Ev.now _
         |true=>
          repeat(with_reducible first|refine Ev.ip ?_|refine Ev.iq ?_)
          exact hR3 (by simp [f2])
      ·rw [show (mI U a m !=optI (leastO U))=true by simp [e2]]
       exact Ev.eq fal (by rw [hneg];simp [e2])
     ·repeat(with_reducible first|refine Ev.ip ?_|refine Ev.iq ?_)
      exact Ev.eq fal (by rw [hneg];simp [e1])
   ·refine Ev.succ ?_
    simp only [spec_LogicOk.l0,rd_nat,l1In_eq]
    repeat(with_reducible first|refine Ev.ip ?_|refine Ev.iq ?_)
    refine Ev.pbind rfl ?_
    have e:(decide (0≤at1 N i) && decide (at1 N i≤wrap64 ((U.length:Int) - 1)))=(decide (0≤at1 N i) && decide (at1 N i<U.length)):=by
     rw [wrap_small (by omega) (by omega)]
     congr 1
     rw [decide_eq_decide];omega
    rw [e]
    cases hb:(decide (0≤at1 N i) && decide (at1 N i<U.length)) with
    |true=>
     repeat(with_reducible first|refine Ev.ip ?_|refine Ev.iq ?_)
     exact hR hb
    |false=>
     repeat(with_reducible first|refine Ev.ip ?_|refine Ev.iq ?_)
     exact Ev.now _
  ·rw [show ((N.length:Int) !=(U.length:Int))=true by rw [bne_iff_ne];omega,show (N.length==U.length)=false by simp [hn]]
   exact Ev.eq jf (by simp)
section
theorem rd_in {U : List (List Int)} {N : List Int} (_L : Logic U N) {a : Int} (ha : In U a) : rd N a = notI N a := by
 obtain⟨x,rfl⟩: ∃x:Nat,a=x:=⟨a.toNat,by have:=ha.1;omega⟩
 rw [rd_nat];rfl
section
variable {U : List (List Int)} {N : List Int} (L : Logic U N)
include L
theorem meet_in {a b : Int} (ha : In U a) (hb : In U b) : Ev (fun k => spec_l1Meet.f k U a b) (andI U a b) := by
 obtain⟨x,rfl⟩: ∃x:Nat,a=x:=⟨a.toNat,by have:=ha.1;omega⟩
 obtain⟨y,rfl⟩: ∃y:Nat,b=y:=⟨b.toNat,by have:=hb.1;omega⟩
 exact spec_l1Meet.ev L.toOrder (by have:=ha.2;omega) (by have:=hb.2;omega)
theorem join_in {a b : Int} (ha : In U a) (hb : In U b) : Ev (fun k => spec_l1Join.f k U a b) (orI U a b) := by
 obtain⟨x,rfl⟩: ∃x:Nat,a=x:=⟨a.toNat,by have:=ha.1;omega⟩
 obtain⟨y,rfl⟩: ∃y:Nat,b=y:=⟨b.toNat,by have:=hb.1;omega⟩
 exact spec_l1Join.ev L.toOrder (by have:=ha.2;omega) (by have:=hb.2;omega)
end
end
theorem spec_l5With.ev {U : List (List Int)} {N : List Int} (L : Logic U N) {a b : Int} (ia : In U a) (ib : In U b) : Ev (fun k => spec_l5With.f k U N a b) (withB U N a b) := by
 unfold spec_l5With.f
 have hl:=L.len
 have b0:=ib.1
 have b1:=ib.2
 refine Ev.bind (meet_in L ia ib) ?_
 repeat(with_reducible first|refine Ev.ip ?_|refine Ev.iq ?_)
 rw [rd_in L ib]
 refine Ev.bind (meet_in L ia (L.in_not ib)) (Ev.bind (join_in L (L.in_and ia ib) (L.in_and ia (L.in_not ib))) ?_)
 exact Ev.now _
theorem spec_l6Agree.ev {U : List (List Int)} {N : List Int} (L : Logic U N) {a b : Int} (ia : In U a) (ib : In U b) : Ev (fun k => spec_l6Agree.f k U N a b) (bothB U N a b) := by
 unfold spec_l6Agree.f bothB
 refine Ev.bind (spec_l5With.ev L ia ib) ?_
 cases h:withB U N a b with
 |true=>
  repeat(with_reducible first|refine Ev.ip ?_|refine Ev.iq ?_)
  refine Ev.bind (spec_l5With.ev L ib ia) ?_
  exact Ev.now _
 |false=>
  repeat(with_reducible first|refine Ev.ip ?_|refine Ev.iq ?_)
  exact Ev.now _
def agW (U : List (List Int)) (N : List Int) (i j : Nat) : Nat := setB U.length fun b => decide (b < j) && bothB U N i b
theorem agW_zero (U : List (List Int)) (N : List Int) (i : Nat) : agW U N i 0 = 0 := by unfold agW; rw [setB_congr (q := fun _ => false) fun b _ => by simp, setB_none]
theorem agW_all (U : List (List Int)) (N : List Int) (i : Nat) : agW U N i U.length = agA U N i := by unfold agW agA; exact setB_congr fun b hb => by simp [hb]
theorem agW_succ (U : List (List Int)) (N : List Int) (i : Nat) {j : Nat} (hj : j < U.length) : agW U N i (j + 1) = if bothB U N i j = true then agW U N i j ||| 2 ^ j else agW U N i j := by
 unfold agW
 cases h:bothB U N i j with
 |true=>
  rw [if_pos rfl,setB_one hj,setB_or]
  refine setB_congr fun b hb=>?_
  by_cases e:b=j
  ·subst e;simp [h]
  ·rw [show (b==j)=false by simpa using e,Bool.or_false]
   congr 1
   rw [decide_eq_decide];omega
 |false=>
  rw [if_neg (by simp)]
  refine setB_congr fun b hb=>?_
  by_cases e:b=j
  ·subst e;simp [h]
  ·congr 1
   rw [decide_eq_decide];omega
theorem agF_take (U : List (List Int)) (N : List Int) (i : Nat) : ((List.range (i + 1)).map fun (a : Nat) => ((agA U N a : Nat) : Int)) = ((List.range i).map fun (a : Nat) => ((agA U N a : Nat) : Int)) ++ [((agA U N i : Nat) : Int)] := by simp [List.range_succ]
theorem spec_BlocksOf.ev (U : List (List Int)) (N : List Int) : Ev (fun k => spec_BlocksOf.f k U N) (if logicB U N = true then blkL U N else []) := by
 unfold spec_BlocksOf.f
 refine Ev.pbind rfl (Ev.bind (spec_LogicOk.ev U N) ?_)
 cases hl:logicB U N with
 |false=>
  repeat(with_reducible first|refine Ev.ip ?_|refine Ev.iq ?_)
  exact Ev.now _
 |true=>
  have L:=logicB_iff.1 hl
  have hln:=L.len
  have hs:=L.small
  have hp:=L.pos
  rw [if_pos rfl]
  repeat(with_reducible first|refine Ev.ip ?_|refine Ev.iq ?_)
  rw [hln]
  have hM1:1≤2 ^ U.length:=Nat.one_le_two_pow
  have hM2:2 ^ U.length≤4096:=Nat.pow_le_pow_right (by omega) hs
  have key: ∀d s,s+d=2 ^ U.length→Ev (fun k=>spec_BlocksOf.l2 k (filI s (blkP U N)) (U.length:Int) (agF U N) (s:Int)) (blkL U N):=by
   intro d
   induction d with
   |zero=>
    intro s hsd
    refine Ev.succ ?_
    simp only [spec_BlocksOf.l2,shl_nat (show U.length≤40 by omega)]
    repeat(with_reducible first|refine Ev.ip ?_|refine Ev.iq ?_)
    rw [show s=2 ^ U.length by omega]
    exact Ev.now _
   |succ d ih=>
    intro s hsd
    have K:=ih (s+1) (by omega)
    refine Ev.succ ?_
    simp only [spec_BlocksOf.l2,shl_nat (show U.length≤40 by omega)]
    repeat(with_reducible first|refine Ev.ip ?_|refine Ev.iq ?_)
    rw [com_start N hs s]
    refine Ev.loop (g:=fun k x i=>spec_BlocksOf.l3 k (filI s (blkP U N)) (U.length:Int) (agF U N) (s:Int) x i) U.length (fun i x=>x=((comN U N s i:Nat):Int)) (by omega) (fun x h=>?_) (fun i x hi h=>?_) _ rfl
    ·subst h
     refine Ev.succ ?_
     simp only [spec_BlocksOf.l3,wrap_nat (show s<4611686018427387904 by omega)]
     repeat(with_reducible first|refine Ev.ip ?_|refine Ev.iq ?_)
     rw [filI_succ] at K
     have hlen:(filI s (blkP U N)).length<17592186044416:=by have:=filI_length s (blkP U N);omega
     by_cases e:comN U N s U.length=s
     ·have e':((comN U N s U.length:Nat):Int)=(s:Int):=by rw [e]
      have hpos:1≤s:=by
       rcases Nat.eq_zero_or_pos s with h0|h0
       ·subst h0
        exfalso
        have h9:comN U N 0 U.length=2 ^ U.length - 1:=by rw [setB_all];unfold comN;exact setB_congr fun b _=>by rw [allN_iff];intro i _;simp
        have:2 ^ 1≤2 ^ U.length:=Nat.pow_le_pow_right (by omega) hp
        omega
       ·exact h0
      rw [if_pos (by unfold blkP;rw [show comS U N s=s from e,decide_eq_true hpos];simp)] at K
      repeat(with_reducible first|refine Ev.ip ?_|refine Ev.iq ?_)
      exact K
     ·have e': ¬((comN U N s U.length:Nat):Int)=(s:Int):=by omega
      rw [if_neg (by unfold blkP;rw [show (comS U N s==s)=false from beq_eq_false_iff_ne.2 e];simp)] at K
      repeat(with_reducible first|refine Ev.ip ?_|refine Ev.iq ?_)
      exact K
    ·subst h
     refine⟨_,rfl,fun K2=>Ev.succ ?_⟩
     rw [comN_succ] at K2
     simp only [spec_BlocksOf.l3,smod_nat s (show i≤64 by omega),agF_length,rd_nat,agF_at U N i hi]
     repeat(with_reducible first|refine Ev.ip ?_|refine Ev.iq ?_)
     cases hb:s.testBit i with
     |true=>
      rw [hb,if_pos rfl] at K2
      repeat(with_reducible first|refine Ev.ip ?_|refine Ev.iq ?_)
      rw [band_nat (comN U N s i) (agA U N i) (by have:=comN_small N hs s i;omega) (by have:=agA_small N hs i;omega)]
      exact K2
     |false=>
      rw [hb,if_neg (by simp)] at K2
      repeat(with_reducible first|refine Ev.ip ?_|refine Ev.iq ?_)
      exact K2
  refine Ev.loop (g:=fun k s i=>spec_BlocksOf.l0 k [] (U.length:Int) s i U N) U.length (fun i s=>s=(List.range i).map fun(a:Nat)=>((agA U N a:Nat):Int)) (by omega) (fun s h=>?_) (fun i s hi h=>?_) _ rfl
  ·subst h
   refine Ev.succ ?_
   simp only [spec_BlocksOf.l0]
   repeat(with_reducible first|refine Ev.ip ?_|refine Ev.iq ?_)
   have:=key (2 ^ U.length - 1) 1 (by omega)
   rw [filI_one] at this
   exact this
  ·subst h
   refine⟨_,rfl,fun K=>Ev.succ ?_⟩
   simp only [spec_BlocksOf.l0]
   repeat(with_reducible first|refine Ev.ip ?_|refine Ev.iq ?_)
   refine Ev.loop (g:=fun k x j=>spec_BlocksOf.l1 k [] (U.length:Int) ((List.range i).map fun(a:Nat)=>((agA U N a:Nat):Int)) (i:Int) x j U N) U.length (fun j x=>x=((agW U N i j:Nat):Int)) (by omega) (fun x h=>?_) (fun j x hj h=>?_) _ (by rw [agW_zero];rfl)
   ·subst h
    refine Ev.succ ?_
    simp only [spec_BlocksOf.l1,List.length_map,List.length_range]
    repeat(with_reducible first|refine Ev.ip ?_|refine Ev.iq ?_)
    rw [agW_all,← agF_take]
    exact K
   ·subst h
    refine⟨_,rfl,fun K2=>Ev.succ ?_⟩
    rw [agW_succ U N i hj] at K2
    simp only [spec_BlocksOf.l1,shl_nat (show j≤40 by omega)]
    repeat(with_reducible first|refine Ev.ip ?_|refine Ev.iq ?_)
    refine Ev.bind (spec_l6Agree.ev L (a:=(i:Int)) (b:=(j:Int)) ⟨by omega,by omega⟩ ⟨by omega,by omega⟩) ?_
    cases hb:bothB U N i j with
    |true=>
     rw [hb,if_pos rfl] at K2
     repeat(with_reducible first|refine Ev.ip ?_|refine Ev.iq ?_)
     have h1:=two_pow_le (show j≤40 by omega)
     rw [bor_nat _ _ (by have:=setB_small (show U.length≤40 by omega) (fun b=>decide (b<j) && bothB U N i b);unfold agW;omega) (by omega)]
     exact K2
    |false=>
     rw [hb,if_neg (by simp)] at K2
     repeat(with_reducible first|refine Ev.ip ?_|refine Ev.iq ?_)
     exact K2
def meN (U : List (List Int)) (a b : Nat) : Nat := (andI U a b).toNat
def noN (N : List Int) (a : Nat) : Nat := (notI N a).toNat
theorem meN_lt {U : List (List Int)} {N : List Int} (L : Logic U N) {a b : Nat} (ha : a < U.length) (hb : b < U.length) : meN U a b < U.length ∧ andI U a b = ((meN U a b : Nat) : Int) := by
 have h:=L.in_and (a:=(a:Int)) (b:=(b:Int)) ⟨by omega,by omega⟩ ⟨by omega,by omega⟩
 have h1:=h.1
 have h2:=h.2
 unfold meN
 omega
theorem noN_lt {U : List (List Int)} {N : List Int} (L : Logic U N) {a : Nat} (ha : a < U.length) : noN N a < U.length ∧ notI N a = ((noN N a : Nat) : Int) := by
 have h:=L.in_not (a:=(a:Int)) ⟨by omega,by omega⟩
 have h1:=h.1
 have h2:=h.2
 unfold noN
 omega
def rowS' (U : List (List Int)) (s a : Nat) : Bool := allN U.length fun b => !(s.testBit b) || s.testBit (meN U a b)
def subB (U : List (List Int)) (N : List Int) (s : Nat) : Bool := allN U.length fun a => !(s.testBit a) || (rowS' U s a && s.testBit (noN N a))
def inS (U : List (List Int)) (s : Int) : Bool := decide (1 ≤ s) && decide (s ≤ ((2 ^ U.length : Nat) : Int) - 1)
theorem l1In_set {U : List (List Int)} {N : List Int} (L : Logic U N) (s : Int) : spec_l1In.f s 1 (wrap64 ((shl .i64 1 (N.length : Int)) - 1)) = some (inS U s) := by
 have h1:=two_pow_le (show U.length≤40 by have:=L.small;omega)
 have h2:=Nat.one_le_two_pow (n:=U.length)
 rw [L.len,shl_nat (by have:=L.small;omega)]
 unfold inS
 generalize 2 ^ U.length=x at h1 h2 ⊢
 have hw:wrap64 ((x:Int) - 1)=(x:Int) - 1:=by unfold wrap64;omega
 rw [hw]
 unfold spec_l1In.f
 by_cases h3:s≥1
 ·rw [if_pos h3,decide_eq_true h3,Bool.true_and]
 ·rw [if_neg h3,decide_eq_false h3,Bool.false_and]
theorem sub_loop {U : List (List Int)} {N : List Int} (L : Logic U N) (s : Nat) : Ev (fun k => spec_SubOk.l0 k (s : Int) (U.length : Int) 0 U N) (subB U N s) := by
 have hs:=L.small
 refine Ev.eq (Ev.all (n:=U.length) (g:=fun k i=>spec_SubOk.l0 k (s:Int) (U.length:Int) i U N) (fun a=>!(s.testBit a)||(rowS' U s a && s.testBit (noN N a))) (go:=true) (stop:=false) (by omega) (fun _=>?_) fun a ha _ R hR=>?_) (by unfold subB;cases allN U.length _ <;> rfl)
 ·refine Ev.succ ?_
  simp only [spec_SubOk.l0]
  exact Ev.ite_neg (by omega) (Ev.now _)
 ·refine Ev.succ ?_
  simp only [spec_SubOk.l0,smod_nat s (show a≤64 by omega)]
  refine Ev.ite_pos (by omega) (Ev.ite_pos (by omega) ?_)
  cases ea:s.testBit a with
  |false=>
   rw [ea] at hR
   exact Ev.ite_pos rfl (Ev.eq (hR rfl) rfl)
  |true=>
   rw [ea] at hR
   refine Ev.ite_neg (by simp) ?_
   have hno:=noN_lt L ha
   have hrd:rd N (a:Int)=((noN N a:Nat):Int):=by rw [rd_in L (a:=(a:Int)) ⟨by omega,by omega⟩,hno.2]
   refine Ev.eq (Ev.all (n:=U.length) (g:=fun k i=>spec_SubOk.l1 k (s:Int) (U.length:Int) (a:Int) i U N) (fun b=>!(s.testBit b)||s.testBit (meN U a b)) (go:=if s.testBit (noN N a)=true then R else false) (stop:=false) (by omega) (fun hall=>?_) fun b hb _ R2 hR2=>?_) ?_
   ·refine Ev.succ ?_
    simp only [spec_SubOk.l1,hrd]
    have hN:=L.len
    refine Ev.ite_neg (by omega) (Ev.ite_pos (by omega) (Ev.ite_pos (by omega) (Ev.ite_pos (by omega) ?_)))
    rw [smod_nat s (show noN N a≤64 by omega)]
    have hrow:rowS' U s a=true:=allN_iff.2 hall
    rw [hrow] at hR
    cases en:s.testBit (noN N a) with
    |false=>exact Ev.ite_pos rfl (Ev.now _)
    |true=>
     rw [en] at hR
     exact Ev.ite_neg (by simp) (hR rfl)
   ·refine Ev.succ ?_
    simp only [spec_SubOk.l1,smod_nat s (show b≤64 by omega)]
    refine Ev.ite_pos (by omega) (Ev.ite_pos (by omega) ?_)
    cases eb:s.testBit b with
    |false=>
     rw [eb] at hR2
     exact Ev.ite_neg (by simp) (Ev.eq (hR2 rfl) rfl)
    |true=>
     rw [eb] at hR2
     have hme:=meN_lt L ha hb
     refine Ev.ite_pos rfl (Ev.bind (meet_in L (a:=(a:Int)) (b:=(b:Int)) ⟨by omega,by omega⟩ ⟨by omega,by omega⟩) ?_)
     rw [hme.2]
     refine Ev.ite_pos (by omega) ?_
     rw [smod_nat s (show meN U a b≤64 by omega)]
     cases em:s.testBit (meN U a b) with
     |false=>exact Ev.ite_pos rfl (Ev.now _)
     |true=>
      rw [em] at hR2
      exact Ev.ite_neg (by simp) (Ev.eq (hR2 rfl) rfl)
   ·show (if rowS' U s a=true then _ else false)=_
    cases rowS' U s a <;> cases s.testBit (noN N a) <;> rfl
theorem spec_SubOk.ev (U : List (List Int)) (N : List Int) (s : Int) : Ev (fun k => spec_SubOk.f k U N s) (if logicB U N = true then (inS U s && subB U N s.toNat) else false) := by
 unfold spec_SubOk.f
 refine Ev.bind (spec_LogicOk.ev U N) ?_
 have hj: ∀m,Ev (fun k=>spec_SubOk.j0 k s m true U N) false:=fun m=>by
  refine Ev.succ ?_
  simp only [spec_SubOk.j0]
  exact Ev.ite_pos (by simp) (Ev.now _)
 cases hl:logicB U N with
 |false=>exact Ev.ite_neg (by simp) (hj _)
 |true=>
  have L:=logicB_iff.1 hl
  refine Ev.ite_pos rfl (Ev.pbind (l1In_set L s) ?_)
  rw [if_pos rfl]
  cases hi:inS U s with
  |false=>exact hj _
  |true=>
   obtain⟨x,rfl⟩: ∃x:Nat,s=(x:Int):=⟨s.toNat,by unfold inS at hi;simp only [Bool.and_eq_true,decide_eq_true_eq] at hi;omega⟩
   refine Ev.succ ?_
   simp only [spec_SubOk.j0]
   refine Ev.ite_neg (by simp) ?_
   rw [L.len,Int.toNat_natCast,Bool.true_and]
   exact sub_loop L x
def anyN (n : Nat) (p : Nat → Bool) : Bool := (List.range n).any p
theorem anyN_iff {n : Nat} {p : Nat → Bool} : anyN n p = true ↔ ∃ i, i < n ∧ p i = true := by simp [anyN]
theorem anyN_succ (n : Nat) (p : Nat → Bool) : anyN (n + 1) p = (anyN n p || p n) := by simp [anyN, List.range_succ]
def prB (U : List (List Int)) (N : List Int) (s c p : Nat) : Bool := s.testBit (p / U.length) && s.testBit (p % U.length) && (c == meN U (p / U.length) (p % U.length) || c == noN N (p / U.length))
def nxN (U : List (List Int)) (N : List Int) (s m : Nat) : Nat := setB U.length fun c => s.testBit c || anyN m (prB U N s c)
def nxS (U : List (List Int)) (N : List Int) (s : Nat) : Nat := nxN U N s (U.length * U.length)
theorem nxN_zero {U : List (List Int)} (N : List Int) {s : Nat} (hs : s < 2 ^ U.length) : nxN U N s 0 = s := by
 conv => rhs; rw [eq_setB hs]
 unfold nxN
 exact setB_congr fun c _ => by simp [anyN]
theorem nxN_succ {U : List (List Int)} {N : List Int} (L : Logic U N) (s : Nat) {a b : Nat} (ha : a < U.length) (hb : b < U.length) :
 nxN U N s (a*U.length+b+1)=if s.testBit a=true∧s.testBit b=true then(nxN U N s (a*U.length+b)|||2 ^ meN U a b)|||2 ^ noN N a else nxN U N s (a*U.length+b):=by
 have hd:(a*U.length+b) / U.length=a:=by rw [Nat.add_comm,Nat.mul_comm,Nat.add_mul_div_left _ _ (by omega),Nat.div_eq_of_lt hb];omega
 have hm:(a*U.length+b) % U.length=b:=by rw [Nat.add_comm,Nat.mul_comm,Nat.add_mul_mod_self_left,Nat.mod_eq_of_lt hb]
 have hp: ∀c,prB U N s c (a*U.length+b)=(s.testBit a && s.testBit b && (c==meN U a b||c==noN N a)):=fun c=>by unfold prB;rw [hd,hm]
 have h1:=(meN_lt L ha hb).1
 have h2:=(noN_lt L ha).1
 unfold nxN
 split
 ·rename_i h
  rw [setB_one h1,setB_one h2,setB_or,setB_or]
  refine setB_congr fun c _=>?_
  rw [anyN_succ,hp,h.1,h.2,Bool.true_and,Bool.true_and,Bool.or_assoc,Bool.or_assoc]
 ·rename_i h
  refine setB_congr fun c _=>?_
  rw [anyN_succ,hp]
  have:(s.testBit a && s.testBit b)=false:=by
   cases ea:s.testBit a with
   |false=>rfl
   |true=>cases eb:s.testBit b with
    |false=>rfl
    |true=>exact absurd ⟨ea,eb⟩ h
  rw [this,Bool.false_and,Bool.or_false]
theorem nxN_small {U : List (List Int)} (N : List Int) (hn : U.length ≤ 12) (s m : Nat) : nxN U N s m < 1099511627776 := setB_small (by omega) _
theorem nxS_lt (U : List (List Int)) (N : List Int) (s : Nat) : nxS U N s < 2 ^ U.length := setB_lt _ _
theorem nxS_bit {U : List (List Int)} {N : List Int} {s c : Nat} (hc : c < U.length) : (nxS U N s).testBit c = true ↔ s.testBit c = true ∨ ∃ a b, a < U.length ∧ b < U.length ∧ s.testBit a = true ∧ s.testBit b = true ∧ (c = meN U a b ∨ c = noN N a) := by
 have hp:0<U.length:=by omega
 unfold nxS nxN
 rw [setB_bit,decide_eq_true hc,Bool.true_and,Bool.or_eq_true,anyN_iff]
 refine or_congr Iff.rfl ⟨?_,?_⟩
 ·rintro ⟨p,hpl,h⟩
  unfold prB at h
  simp only [Bool.and_eq_true,Bool.or_eq_true,beq_iff_eq] at h
  exact⟨p / U.length,p % U.length,Nat.div_lt_of_lt_mul hpl,Nat.mod_lt _ hp,h.1.1,h.1.2,h.2⟩
 ·rintro ⟨a,b,ha,hb,h1,h2,h3⟩
  refine⟨a*U.length+b,pair_lt ha hb,?_⟩
  have hd:(a*U.length+b) / U.length=a:=by rw [Nat.add_comm,Nat.mul_comm,Nat.add_mul_div_left _ _ (by omega),Nat.div_eq_of_lt hb];omega
  have hm:(a*U.length+b) % U.length=b:=by rw [Nat.add_comm,Nat.mul_comm,Nat.add_mul_mod_self_left,Nat.mod_eq_of_lt hb]
  unfold prB
  rw [hd,hm,h1,h2]
  simpa using h3
theorem subB_iff {U : List (List Int)} {N : List Int} {s : Nat} : subB U N s = true ↔ (∀ a, a < U.length → s.testBit a = true → (∀ b, b < U.length → s.testBit b = true → s.testBit (meN U a b) = true) ∧ s.testBit (noN N a) = true) := by
 unfold subB rowS'
 rw [allN_iff]
 constructor
 ·intro h a ha hsa
  have:=h a ha
  rw [hsa,Bool.not_true,Bool.false_or,Bool.and_eq_true,allN_iff] at this
  refine⟨fun b hb hsb=>?_,this.2⟩
  have h2:=this.1 b hb
  rw [hsb] at h2
  simpa using h2
 ·intro h a ha
  cases hsa:s.testBit a with
  |false=>rfl
  |true=>
   obtain⟨h1,h2⟩:=h a ha hsa
   rw [h2,Bool.and_true,Bool.not_true,Bool.false_or,allN_iff]
   intro b hb
   cases hsb:s.testBit b with
   |false=>rfl
   |true=>rw [h1 b hb hsb];rfl
theorem nxS_more {U : List (List Int)} {N : List Int} (L : Logic U N) {s : Nat} (hs : s < 2 ^ U.length) (h : subB U N s = false) : s < nxS U N s := by
 have hsub: ∀c,s.testBit c=true→(nxS U N s).testBit c=true:=fun c hc=>by
  have hcn:c<U.length:=by
   apply Classical.byContradiction
   intro hn
   have h2:s<2 ^ c:=Nat.lt_of_lt_of_le hs (Nat.pow_le_pow_right (by omega) (by omega))
   rw [Nat.testBit_lt_two_pow h2] at hc
   exact absurd hc (by simp)
  exact(nxS_bit hcn).2 (.inl hc)
 have hle:s≤nxS U N s:=by
  have:s|||nxS U N s=nxS U N s:=by
   apply Nat.eq_of_testBit_eq
   intro i
   rw [Nat.testBit_or]
   cases e:s.testBit i with
   |false=>rfl
   |true=>rw [hsub i e];rfl
  rw [← this]
  exact Nat.left_le_or
 apply Nat.lt_of_le_of_ne hle
 intro e
 apply Bool.eq_false_iff.1 h
 rw [subB_iff]
 intro a ha hsa
 refine⟨fun b hb hsb=>?_,?_⟩
 ·rw [e]
  exact(nxS_bit (meN_lt L ha hb).1).2 (.inr ⟨a,b,ha,hb,hsa,hsb,.inl rfl⟩)
 ·rw [e]
  exact(nxS_bit (noN_lt L ha).1).2 (.inr ⟨a,a,ha,ha,hsa,hsa,.inr rfl⟩)
def mdF (U : List (List Int)) (N : List Int) : Nat → Nat → Nat
 | 0, s => s
 | k + 1, s => if subB U N s = true then s else mdF U N k (nxS U N s)
def mdS (U : List (List Int)) (N : List Int) (s : Nat) : Nat := mdF U N (2 ^ U.length) s
theorem made_round {U : List (List Int)} {N : List Int} (L : Logic U N) {s : Nat} (hs : s < 2 ^ U.length) {R : Int} (hR : Ev (fun k => spec_MadeBy.l0 k (U.length : Int) ((nxS U N s : Nat) : Int) U N) R) : Ev (fun k => spec_MadeBy.l1 k (U.length : Int) (s : Int) (s : Int) 0 U N) R := by
 have hn:=L.small
 have h0:(s:Int)=((nxN U N s 0:Nat):Int):=by rw [nxN_zero N hs]
 have key: ∀x:Int,x=((nxN U N s 0:Nat):Int)→Ev (fun k=>spec_MadeBy.l1 k (U.length:Int) (s:Int) x 0 U N) R:=fun x hx=>by
  refine Ev.loop (g:=fun k x i=>spec_MadeBy.l1 k (U.length:Int) (s:Int) x i U N) U.length (fun a x=>x=((nxN U N s (a*U.length):Nat):Int)) (by omega) (fun x h=>?_) (fun a x ha h=>?_) _ (by rw [hx,Nat.zero_mul])
  ·subst h
   refine Ev.succ ?_
   simp only [spec_MadeBy.l1]
   exact Ev.ite_neg (by omega) hR
  ·subst h
   refine⟨_,rfl,fun hnext=>Ev.succ ?_⟩
   simp only [spec_MadeBy.l1]
   refine Ev.ite_pos (by omega) ?_
   refine Ev.loop (g:=fun k x i=>spec_MadeBy.l2 k (U.length:Int) (s:Int) x (a:Int) i U N) U.length (fun b x=>x=((nxN U N s (a*U.length+b):Nat):Int)) (by omega) (fun x h=>?_) (fun b x hb h=>?_) _ (by rw [Nat.add_zero])
   ·subst h
    refine Ev.succ ?_
    simp only [spec_MadeBy.l2]
    refine Ev.ite_neg (by omega) ?_
    rw [show a*U.length+U.length=(a+1)*U.length by rw [Nat.add_mul,Nat.one_mul]]
    exact hnext
   ·subst h
    refine⟨_,rfl,fun hnext2=>Ev.succ ?_⟩
    rw [show a*U.length+(b+1)=a*U.length+b+1 by omega,nxN_succ L s ha hb] at hnext2
    simp only [spec_MadeBy.l2,smod_nat s (show a≤64 by omega),smod_nat s (show b≤64 by omega)]
    refine Ev.ite_pos (by omega) (Ev.ite_pos (by omega) ?_)
    cases ea:s.testBit a with
    |false=>
     rw [ea,if_neg (by simp)] at hnext2
     exact Ev.ite_neg (by simp) hnext2
    |true=>
     refine Ev.ite_pos rfl (Ev.ite_pos (by omega) ?_)
     cases eb:s.testBit b with
     |false=>
      rw [eb,if_neg (by simp)] at hnext2
      exact Ev.ite_neg (by simp) hnext2
     |true=>
      rw [ea,eb,if_pos ⟨rfl,rfl⟩] at hnext2
      have hme:=meN_lt L ha hb
      have hno:=noN_lt L ha
      have hrd:rd N (a:Int)=((noN N a:Nat):Int):=by rw [rd_in L (a:=(a:Int)) ⟨by omega,by omega⟩,hno.2]
      have hN:=L.len
      refine Ev.ite_pos rfl (Ev.bind (meet_in L (a:=(a:Int)) (b:=(b:Int)) ⟨by omega,by omega⟩ ⟨by omega,by omega⟩) ?_)
      rw [hme.2,hrd]
      refine Ev.ite_pos (by omega) (Ev.ite_pos (by omega) (Ev.ite_pos (by omega) ?_))
      have s1:=nxN_small N hn s (a*U.length+b)
      have p1:=two_pow_le (show meN U a b≤40 by omega)
      have p2:=two_pow_le (show noN N a≤40 by omega)
      have s2:nxN U N s (a*U.length+b)|||2 ^ meN U a b<2 ^ 41:=Nat.or_lt_two_pow (by omega) (by omega)
      rw [shl_nat (by omega),shl_nat (by omega),bor_nat _ _ (by omega) (by omega),bor_nat _ _ (by omega) (by omega)]
      exact hnext2
 exact key _ h0
theorem made_loop {U : List (List Int)} {N : List Int} (L : Logic U N) : ∀ (k s : Nat), 1 ≤ s → s < 2 ^ U.length → 2 ^ U.length ≤ s + k → Ev (fun m => spec_MadeBy.l0 m (U.length : Int) (s : Int) U N) ((mdF U N k s : Nat) : Int)
 |0,s,_,h1,h2=>absurd h2 (by omega)
 |k+1,s,h0,h1,h2=>by
  have hlg:=logicB_iff.2 L
  have hin:inS U (s:Int)=true:=by unfold inS;simp only [Bool.and_eq_true,decide_eq_true_eq];omega
  refine Ev.succ ?_
  simp only [spec_MadeBy.l0]
  refine Ev.bind (spec_SubOk.ev U N (s:Int)) ?_
  rw [hlg,if_pos rfl,hin,Bool.true_and,Int.toNat_natCast]
  unfold mdF
  cases hb:subB U N s with
  |true=>exact Ev.ite_pos rfl (Ev.eq (Ev.now _) rfl)
  |false=>
   have hm:=nxS_more L h1 hb
   have hl:=nxS_lt U N s
   refine Ev.ite_neg (by simp) (made_round L h1 ?_)
   rw [if_neg (by simp)]
   exact made_loop L k (nxS U N s) (by omega) hl (by omega)
theorem spec_MadeBy.ev (U : List (List Int)) (N : List Int) (s : Int) : Ev (fun k => spec_MadeBy.f k U N s) (if logicB U N = true then (if inS U s = true then ((mdS U N s.toNat : Nat) : Int) else -1) else -1) := by
 unfold spec_MadeBy.f
 refine Ev.bind (spec_LogicOk.ev U N) ?_
 have hj: ∀m,Ev (fun k=>spec_MadeBy.j0 k s m true U N) (-1):=fun m=>by
  refine Ev.succ ?_
  simp only [spec_MadeBy.j0]
  exact Ev.ite_pos (by simp) (Ev.now _)
 cases hl:logicB U N with
 |false=>exact Ev.ite_neg (by simp) (hj _)
 |true=>
  have L:=logicB_iff.1 hl
  refine Ev.ite_pos rfl (Ev.pbind (l1In_set L s) ?_)
  rw [if_pos rfl]
  cases hi:inS U s with
  |false=>exact hj _
  |true=>
   have hi2:=hi
   unfold inS at hi2
   simp only [Bool.and_eq_true,decide_eq_true_eq] at hi2
   obtain⟨x,rfl⟩: ∃x:Nat,s=(x:Int):=⟨s.toNat,by omega⟩
   refine Ev.succ ?_
   simp only [spec_MadeBy.j0]
   refine Ev.ite_neg (by simp) ?_
   rw [L.len,Int.toNat_natCast,if_pos trivial]
   exact made_loop L _ x (by omega) (by omega) (by omega)
section
section
variable {U : List (List Int)} {N : List Int} (L : Logic U N)
theorem fin_of_nat {i : Nat} (h : i < U.length) : ∃ x : Fin U.length, i = x.1 := ⟨⟨i, h⟩, rfl⟩
theorem fin_inj {x y : Fin U.length} : (((x.1 : Nat) : Int) = ((y.1 : Nat) : Int)) ↔ x = y := by
 constructor
 ·intro h; exact Fin.ext (by omega)
 ·intro h; rw [h]
theorem fin_beq (x y : Fin U.length) : (((x.1 : Nat) : Int) == ((y.1 : Nat) : Int)) = decide (x = y) := by
 rw [Bool.eq_iff_iff, beq_iff_eq, decide_eq_true_eq]; exact fin_inj
theorem and_fin (x y : Fin U.length) : andI U x.1 y.1 = (((L.ol.meet x y).1 : Nat) : Int) := by
 show mI U ((x.1:Nat):Int).toNat ((y.1:Nat):Int).toNat=_
 unfold mI;rw [Int.toNat_natCast,Int.toNat_natCast,L.mt_eq];rfl
theorem or_fin (x y : Fin U.length) : orI U x.1 y.1 = (((L.ol.join x y).1 : Nat) : Int) := by
 show jI U ((x.1:Nat):Int).toNat ((y.1:Nat):Int).toNat=_
 unfold jI;rw [Int.toNat_natCast,Int.toNat_natCast,L.jn_eq];rfl
theorem not_fin (x : Fin U.length) : notI N x.1 = (((L.ol.neg x).1 : Nat) : Int) := by
 show at1 N ((x.1 : Nat) : Int).toNat = _
 rw [Int.toNat_natCast, L.ng_eq]; rfl
end
end
def comR (n : Nat) (R : Nat → Nat → Bool) (s : Nat) : Nat := setB n fun b => allN n fun a => !(s.testBit a) || R a b
def Rel (n : Nat) (R : Nat → Nat → Bool) (s : Nat) : Prop := ∀ a b, a < n → b < n → s.testBit a = true → s.testBit b = true → R a b = true
theorem comR_bit (n : Nat) (R : Nat → Nat → Bool) (s b : Nat) (hb : b < n) : (comR n R s).testBit b = true ↔ ∀ a, a < n → s.testBit a = true → R a b = true := by
 unfold comR
 rw [setB_bit,decide_eq_true hb,Bool.true_and,allN_iff]
 constructor
 ·intro h a ha hs
  have:=h a ha
  rw [hs] at this
  simpa using this
 ·intro h a ha
  cases hs:s.testBit a with
  |false=>rfl
  |true=>rw [h a ha hs];rfl
theorem bit_lt {n s b : Nat} (hs : s < 2 ^ n) (h : s.testBit b = true) : b < n := by
 apply Classical.byContradiction
 intro hn
 have h2:s<2 ^ b:=Nat.lt_of_lt_of_le hs (Nat.pow_le_pow_right (by omega) (by omega))
 rw [Nat.testBit_lt_two_pow h2] at h
 exact absurd h (by simp)
theorem comR_self {n : Nat} {R : Nat → Nat → Bool} {s : Nat} (h : comR n R s = s) : Rel n R s := fun a b ha hb h1 h2 => by
 rw [← h] at h2
 exact (comR_bit n R s b hb).1 h2 a ha h1
theorem block_ext {n : Nat} {R : Nat → Nat → Bool} (hr : ∀ a, a < n → R a a = true) (hsy : ∀ a b, a < n → b < n → R a b = true → R b a = true) :
 ∀d s,s<2 ^ n→2 ^ n≤s+d→Rel n R s→ ∃t,t<2 ^ n∧comR n R t=t∧ ∀a,s.testBit a=true→t.testBit a=true:=by
 intro d
 induction d with
 |zero=>intro s hs h;omega
 |succ d ih=>
  intro s hs hd hR
  by_cases hc:comR n R s=s
  ·exact⟨s,hs,hc,fun _ h=>h⟩
  have hsub: ∀a,s.testBit a=true→(comR n R s).testBit a=true:=fun a ha=>by
   have han:=bit_lt hs ha
   exact(comR_bit n R s a han).2 fun b hb hsb=>hR b a hb han hsb ha
  obtain⟨b,hb1,hb2⟩: ∃b,(comR n R s).testBit b=true∧s.testBit b=false:=by
   apply Classical.byContradiction
   intro hne
   apply hc
   apply Nat.eq_of_testBit_eq
   intro i
   cases h1:s.testBit i with
   |true=>exact hsub i h1
   |false=>
    cases h2:(comR n R s).testBit i with
    |false=>rfl
    |true=>exact absurd ⟨i,h2,h1⟩ hne
  have hbn:b<n:=bit_lt (setB_lt n _) hb1
  have hcom:=(comR_bit n R s b hbn).1 hb1
  have hlt:s<s|||2 ^ b:=by
   have h1:s≤s|||2 ^ b:=Nat.left_le_or
   have h2:s≠s|||2 ^ b:=fun e=>by
    have h3:(s|||2 ^ b).testBit b=true:=by rw [Nat.testBit_or,Nat.testBit_two_pow_self,Bool.or_true]
    rw [← e,hb2] at h3
    exact absurd h3 (by simp)
   omega
  have hlt2:s|||2 ^ b<2 ^ n:=Nat.or_lt_two_pow hs (Nat.pow_lt_pow_right (by omega) hbn)
  obtain⟨t,t1,t2,t3⟩:=ih (s|||2 ^ b) hlt2 (by omega) (fun a c ha hc' h1 h2=>by
   rw [Nat.testBit_or,Nat.testBit_two_pow,Bool.or_eq_true,decide_eq_true_eq] at h1 h2
   rcases h1 with h1|h1
   ·rcases h2 with h2|h2
    ·exact hR a c ha hc' h1 h2
    ·subst h2;exact hcom a ha h1
   ·subst h1
    rcases h2 with h2|h2
    ·exact hsy c b hc' hbn (hcom c hc' h2)
    ·subst h2;exact hr b hbn)
  exact⟨t,t1,t2,fun a ha=>t3 a (by rw [Nat.testBit_or,ha];rfl)⟩
def blkR (n : Nat) (R : Nat → Nat → Bool) : List Nat := (List.range (2 ^ n)).filter fun s => decide (1 ≤ s) && (comR n R s == s)
theorem mem_blkR {n : Nat} {R : Nat → Nat → Bool} {s : Nat} : s ∈ blkR n R ↔ s < 2 ^ n ∧ 1 ≤ s ∧ comR n R s = s := by
 unfold blkR
 rw [List.mem_filter,List.mem_range,Bool.and_eq_true,decide_eq_true_eq,beq_iff_eq]
theorem block_of {n : Nat} {R : Nat → Nat → Bool} (hr : ∀ a, a < n → R a a = true) (hsy : ∀ a b, a < n → b < n → R a b = true → R b a = true) {s : Nat} (hs : s < 2 ^ n) (h1 : 1 ≤ s) (hR : Rel n R s) :
 ∃t,t ∈ blkR n R∧ ∀a,s.testBit a=true→t.testBit a=true:=by
 obtain⟨t,t1,t2,t3⟩:=block_ext hr hsy (2 ^ n) s hs (by omega) hR
 refine⟨t,mem_blkR.2 ⟨t1,?_,t2⟩,t3⟩
 apply Classical.byContradiction
 intro h0
 have ht:t=0:=by omega
 obtain⟨i,hi⟩:=Nat.exists_testBit_of_ne_zero (show s≠0 by omega)
 have:=t3 i hi
 rw [ht,Nat.zero_testBit] at this
 exact absurd this (by simp)
section
section
variable {U : List (List Int)} {N : List Int} (L : Logic U N)
include L
theorem withB_fin (x y : Fin U.length) : withB U N x.1 y.1 = true ↔ L.ol.C x y := by
 unfold withB OL.C
 rw [not_fin L, and_fin L, and_fin L, or_fin L, fin_beq, decide_eq_true_eq]
theorem bothB_fin (x y : Fin U.length) : bothB U N x.1 y.1 = true ↔ L.ol.C x y ∧ L.ol.C y x := by
 unfold bothB
 rw [Bool.and_eq_true, withB_fin L, withB_fin L]
theorem both_refl : ∀ a, a < U.length → bothB U N (a : Int) (a : Int) = true := fun a ha => by
 obtain ⟨x, rfl⟩ := fin_of_nat ha
 exact (bothB_fin L x x).2 ⟨OL.C_refl x, OL.C_refl x⟩
theorem both_symm : ∀ a b, a < U.length → b < U.length → bothB U N (a : Int) (b : Int) = true → bothB U N (b : Int) (a : Int) = true := fun a b ha hb h => by
 obtain⟨x,rfl⟩:=fin_of_nat ha
 obtain⟨y,rfl⟩:=fin_of_nat hb
 have:=(bothB_fin L x y).1 h
 exact(bothB_fin L y x).2 ⟨this.2,this.1⟩
end
end
theorem rel_iff {n : Nat} {R : Nat → Nat → Bool} {s : Nat} (hs : s < 2 ^ n) : Rel n R s ↔ ∀ b, s.testBit b = true → (comR n R s).testBit b = true := by
 constructor
 ·intro h b hb
  have hbn:=bit_lt hs hb
  exact(comR_bit n R s b hbn).2 fun a ha hsa=>h a b ha hbn hsa hb
 ·intro h a b ha hb h1 h2
  exact(comR_bit n R s b hb).1 (h b h2) a ha h1
theorem and_eq_iff {s t : Nat} : t &&& s = s ↔ ∀ b, s.testBit b = true → t.testBit b = true := by
 constructor
 ·intro h b hb
  rw [← h,Nat.testBit_and] at hb
  exact(Bool.and_eq_true_iff.1 hb).1
 ·intro h
  apply Nat.eq_of_testBit_eq
  intro b
  rw [Nat.testBit_and]
  cases e:s.testBit b with
  |false=>rw [Bool.and_false]
  |true=>rw [h b e];rfl
theorem agree_block {n : Nat} {R : Nat → Nat → Bool} (hr : ∀ a, a < n → R a a = true) (hsy : ∀ a b, a < n → b < n → R a b = true → R b a = true) {s : Nat} (hs : s < 2 ^ n) (h1 : 1 ≤ s) :
 (∃t,t ∈ blkR n R∧t &&& s=s)↔Rel n R s:=by
 constructor
 ·rintro ⟨t,ht,hts⟩ a b ha hb ha1 hb1
  have h2:=and_eq_iff.1 hts
  exact comR_self (mem_blkR.1 ht).2.2 a b ha hb (h2 a ha1) (h2 b hb1)
 ·intro h
  obtain⟨t,ht,k⟩:=block_of hr hsy hs h1 h
  exact⟨t,ht,and_eq_iff.2 k⟩
def Bytes (b : List Int) : Prop := ∀ x ∈ b, 0 ≤ x ∧ x ≤ 255
theorem bytes_rd {b : List Int} (h : Bytes b) (i : Int) : 0 ≤ rd b i ∧ rd b i ≤ 255 := by
 by_cases hi:i.toNat<b.length
 ·have e:rd b i=b[i.toNat]:=by
   show b.getD i.toNat 0=_
   rw [List.getD_eq_getElem?_getD,List.getElem?_eq_getElem hi];rfl
  rw [e]
  exact h _ (List.getElem_mem hi)
 ·have e:rd b i=0:=by
   show b.getD i.toNat 0=_
   rw [List.getD_eq_getElem?_getD,List.getElem?_eq_none (by omega)];rfl
  rw [e];omega
theorem ofInt_nat' (a : Nat) (ha : a < 18446744073709551616) : (BitVec.ofInt 64 (a : Int)).toNat = a := by
 rw [BitVec.ofInt_natCast, BitVec.toNat_ofNat]; exact Nat.mod_eq_of_lt (by omega)
theorem bxor_nat (a b : Nat) (ha : a < 4611686018427387904) (hb : b < 4611686018427387904) : Go.bits .xor .i64 (a : Int) (b : Int) = ((a ^^^ b : Nat) : Int) := by
 have hx:a ^^^ b<2 ^ 62:=Nat.xor_lt_two_pow (by omega) (by omega)
 show IntKind.i64.wrap ((BitVec.ofInt 64 (a:Int) ^^^ BitVec.ofInt 64 (b:Int)).toNat:Int)=_
 rw [BitVec.toNat_xor,ofInt_nat' a (by omega),ofInt_nat' b (by omega),i64_w]
 unfold wrap64;omega
theorem pick_mod {x n : Int} (hx : 0 ≤ x) (hn : 1 ≤ n) : 0 ≤ Int.tmod x n ∧ Int.tmod x n < n := by
 rw [Int.tmod_eq_emod_of_nonneg hx]
 exact⟨Int.emod_nonneg _ (by omega),Int.emod_lt_of_pos _ (by omega)⟩
theorem wrap_pos {x : Int} (h : 0 ≤ x) (h2 : x ≤ 4611686018427387904) : wrap64 x = x := by unfold wrap64; omega
theorem pick_ev {b : List Int} (hb : Bytes b) (hl : b.length ≤ 2000) {p : Int} (h0 : 0 ≤ p) (h1 : p ≤ 1000000000) (n : Int) : ∃ v, Ev (fun k => spec_l20Rd_pick.f k b p n) (v, p + 1) ∧ 0 ≤ v ∧ (1 ≤ n → v < n) := by
 have w1:wrap64 (p+1)=p+1:=wrap_pos (by omega) (by omega)
 have w2:wrap64 (p+1 - 1)=p:=by rw [Int.add_sub_cancel];exact wrap_pos (by omega) (by omega)
 have hz:Ev (fun k=>spec_l20Rd_pick.j0 k n true b (p+1)) (0,p+1):=by
  refine Ev.succ ?_
  simp only [spec_l20Rd_pick.j0]
  repeat(with_reducible first|refine Ev.ip ?_|refine Ev.iq ?_)
  exact Ev.now _
 unfold spec_l20Rd_pick.f
 rw [w1]
 by_cases hn:n<1
 ·exact⟨0,Ev.ite_pos hn hz,by omega,fun h=>by omega⟩
 by_cases hlen:b.length=0
 ·refine⟨0,Ev.ite_neg hn ?_,by omega,fun h=>by omega⟩
  rw [show ((b.length:Int)==0)=true by rw [hlen];rfl]
  exact hz
 have hbf:((b.length:Int)==0)=false:=by rw [beq_eq_false_iff_ne];omega
 by_cases hp:p<(b.length:Int)
 ·obtain⟨r0,r1⟩:=bytes_rd hb p
  have hm:=pick_mod (x:=rd b p) (n:=n) r0 (by omega)
  refine⟨Int.tmod (rd b p) n,Ev.ite_neg hn ?_,hm.1,fun _=>hm.2⟩
  rw [hbf]
  refine Ev.succ ?_
  simp only [spec_l20Rd_pick.j0,w2]
  rw [wrap_pos (x:=rd b p) r0 (by omega)]
  refine Ev.ite_neg (by simp) (Ev.ite_pos hp (Ev.ite_pos h0 (Ev.ite_neg (by omega) (Ev.now _))))
 ·have m1:=pick_mod (x:=p) (n:=(b.length:Int)) h0 (by omega)
  have w3:wrap64 (wrap64 (p*7)+3)=p*7+3:=by
   rw [wrap_pos (x:=p*7) (by omega) (by omega)]
   exact wrap_pos (by omega) (by omega)
  have m2:=pick_mod (x:=p*7+3) (n:=(b.length:Int)) (by omega) (by omega)
  obtain⟨a0,a1⟩:=bytes_rd hb (Int.tmod p b.length)
  obtain⟨c0,c1⟩:=bytes_rd hb (Int.tmod (p*7+3) b.length)
  have hd:0≤Int.tdiv p b.length∧Int.tdiv p b.length≤p:=by
   rw [Int.tdiv_eq_ediv_of_nonneg h0]
   exact⟨Int.ediv_nonneg h0 (by omega),Int.ediv_le_self _ h0⟩
  generalize hA:rd b (Int.tmod p b.length)=A at a0 a1
  generalize hC:rd b (Int.tmod (p*7+3) b.length)=C at c0 c1
  generalize hD:Int.tdiv p b.length=D at hd
  obtain⟨x,hx⟩: ∃x:Nat,A*131+C*1117+p*29+D*53=(x:Int):=⟨(A*131+C*1117+p*29+D*53).toNat,by omega⟩
  have hx2:x≤1000000000000:=by omega
  obtain⟨y,hy⟩: ∃y:Nat,Int.tdiv (x:Int) 64=(y:Int):=⟨x / 64,by rw [Int.tdiv_eq_ediv_of_nonneg (by omega)];omega⟩
  have hy2:y≤1000000000000:=by
   have:Int.tdiv (x:Int) 64≤x:=by rw [Int.tdiv_eq_ediv_of_nonneg (by omega)];omega
   omega
  have hm:=pick_mod (x:=((x ^^^ y:Nat):Int)) (n:=n) (by omega) (by omega)
  refine⟨Int.tmod ((x ^^^ y:Nat):Int) n,Ev.ite_neg hn ?_,hm.1,fun _=>hm.2⟩
  rw [hbf]
  refine Ev.succ ?_
  simp only [spec_l20Rd_pick.j0,w2,w3,hA,hC,hD]
  rw [wrap_pos (x:=A) a0 (by omega),wrap_pos (x:=C) c0 (by omega),wrap_pos (x:=A*131) (by omega) (by omega),wrap_pos (x:=C*1117) (by omega) (by omega),wrap_pos (x:=A*131+C*1117) (by omega) (by omega),wrap_pos (x:=p*29) (by omega) (by omega),wrap_pos (x:=A*131+C*1117+p*29) (by omega) (by omega),wrap_pos (x:=D) hd.1 (by omega),wrap_pos (x:=D*53) (by omega) (by omega),wrap_pos (x:=A*131+C*1117+p*29+D*53) (by omega) (by omega),hx,hy,wrap_pos (x:=(y:Int)) (by omega) (by omega),bxor_nat x y (by omega) (by omega)]
  exact Ev.ite_neg (by simp) (Ev.ite_neg hp (Ev.ite_neg (by omega) (Ev.ite_pos m1.1 (Ev.ite_pos m1.2 (Ev.ite_pos m2.1 (Ev.ite_pos m2.2 (Ev.ite_neg (by omega) (Ev.now _))))))))
theorem odd_ev {b : List Int} (hb : Bytes b) (hl : b.length ≤ 2000) {p : Int} (h0 : 0 ≤ p) (h1 : p ≤ 1000000000) (n : Int) : ∃ v q, Ev (fun k => spec_l20Rd_odd.f k b p n) (v, q) ∧ p ≤ q ∧ q ≤ p + 1 := by
 unfold spec_l20Rd_odd.f
 by_cases hn:n>0
 ·obtain⟨v,hv,_,_⟩:=pick_ev hb hl h0 h1 n
  exact⟨_,_,Ev.ite_pos hn (Ev.bind hv (Ev.now _)),by omega,by omega⟩
 ·exact⟨_,_,Ev.ite_neg hn (Ev.now _),by omega,by omega⟩
theorem open_ev {l : List Int} (h : Bytes l) : ∃ b, Bytes b ∧ b.length ≤ 2000 ∧ spec_l20Open.f l = some (b, 0) := by
 unfold spec_l20Open.f
 by_cases hl:(l.length:Int)>2000
 ·rw [if_pos hl,if_pos (by omega)]
  exact⟨l.take 2000,fun x hx=>h x (List.mem_of_mem_take hx),by rw [List.length_take];omega,rfl⟩
 ·rw [if_neg hl]
  exact⟨l,h,by omega,rfl⟩
structure Sq (n : Nat) (U : List (List Int)) (N : List Int) : Prop where
 pos:1≤n
 small:n≤100
 len:U.length=n
 row: ∀r ∈ U,r.length=n
 lenN:N.length=n
 ran: ∀x ∈ N,0≤x∧x<(n:Int)
def sqB (r : List (List Int) × List Int) : Bool := decide (1 ≤ r.2.length) && (decide (r.2.length ≤ 100) && ((r.1.length == r.2.length) && (r.1.all (fun x => x.length == r.2.length) && r.2.all (fun x => decide (0 ≤ x) && decide (x < (r.2.length : Int))))))
theorem sq_of {r : List (List Int) × List Int} (h : sqB r = true) : Sq r.2.length r.1 r.2 := by
 unfold sqB at h
 simp only [Bool.and_eq_true,decide_eq_true_eq,beq_iff_eq,List.all_eq_true] at h
 obtain⟨h1,h2,h3,h4,h5⟩:=h
 exact⟨h1,h2,h3,h4,rfl,h5⟩
def gB (x : Int) : List (List Int) × List Int := (spec_l20Boole.f 150 x).getD ([], [])
set_option maxRecDepth 100000 in
theorem gB_ev {x : Int} (h0 : 0 ≤ x) (h1 : x < 4) : Ev (fun k => spec_l20Boole.f k x) ((gB x).1, (gB x).2) ∧ sqB (gB x) = true := by
 have hx:x=0∨x=1∨x=2∨x=3:=by omega
 rcases hx with rfl|rfl|rfl|rfl
 ·exact⟨Ev.of (spec_l20Boole.mono _) (k:=150) zqk,by kernel_rfl⟩
 ·exact⟨Ev.of (spec_l20Boole.mono _) (k:=150) zqk,by kernel_rfl⟩
 ·exact⟨Ev.of (spec_l20Boole.mono _) (k:=150) zqk,by kernel_rfl⟩
 ·exact⟨Ev.of (spec_l20Boole.mono _) (k:=150) zqk,by kernel_rfl⟩
def gG (a b : List (List Int) × List Int) : List (List Int) × List Int := (spec_l20Glued.f 900 a.1 a.2 b.1 b.2).getD ([], [])
def gS : List (List Int) × List Int := spec_l20Six.f.getD ([], [])
def gP : List (List Int) × List Int := (spec_l20Pasted.f 900).getD ([], [])
set_option maxRecDepth 100000 in
theorem g22 : Ev (fun k => spec_l20Glued.f k (gB 2).1 (gB 2).2 (gB 2).1 (gB 2).2) ((gG (gB 2) (gB 2)).1, (gG (gB 2) (gB 2)).2) ∧ sqB (gG (gB 2) (gB 2)) = true :=
 ⟨Ev.of (spec_l20Glued.mono _ _ _ _) (k:=900) zqk,by kernel_rfl⟩
set_option maxRecDepth 100000 in
theorem g23 : Ev (fun k => spec_l20Glued.f k (gB 2).1 (gB 2).2 (gB 3).1 (gB 3).2) ((gG (gB 2) (gB 3)).1, (gG (gB 2) (gB 3)).2) ∧ sqB (gG (gB 2) (gB 3)) = true :=
 ⟨Ev.of (spec_l20Glued.mono _ _ _ _) (k:=900) zqk,by kernel_rfl⟩
set_option maxRecDepth 100000 in
theorem g222 : Ev (fun k => spec_l20Glued.f k (gG (gB 2) (gB 2)).1 (gG (gB 2) (gB 2)).2 (gB 2).1 (gB 2).2) ((gG (gG (gB 2) (gB 2)) (gB 2)).1, (gG (gG (gB 2) (gB 2)) (gB 2)).2) ∧ sqB (gG (gG (gB 2) (gB 2)) (gB 2)) = true :=
 ⟨Ev.of (spec_l20Glued.mono _ _ _ _) (k:=900) zqk,by kernel_rfl⟩
set_option maxRecDepth 100000 in
theorem gS2 : Ev (fun k => spec_l20Glued.f k gS.1 gS.2 (gB 2).1 (gB 2).2) ((gG gS (gB 2)).1, (gG gS (gB 2)).2) ∧ sqB (gG gS (gB 2)) = true :=
 ⟨Ev.of (spec_l20Glued.mono _ _ _ _) (k:=900) zqk,by kernel_rfl⟩
theorem gS_ev : spec_l20Six.f = some (gS.1, gS.2) ∧ sqB gS = true := ⟨by kernel_rfl, by kernel_rfl⟩
set_option maxRecDepth 100000 in
theorem gP_ev : Ev (fun k => spec_l20Pasted.f k) (gP.1, gP.2) ∧ sqB gP = true := ⟨Ev.of spec_l20Pasted.mono (k := 900) (by kernel_rfl), by kernel_rfl⟩
theorem Ev.run {σ ρ : Type} {g : Nat → σ → Int → Option ρ} (n : Nat) (I : Nat → σ → Prop) (hn : n < 4611686018427387904)
 (hstep: ∀i s,i<n→I i s→ ∃s',I (i+1) s'∧ ∀R,Ev (fun k=>g k s' (wrap64 ((i:Int)+1))) R→Ev (fun k=>g k s (i:Int)) R): ∀s,I 0 s→ ∃s',I n s'∧ ∀R,Ev (fun k=>g k s' (n:Int)) R→Ev (fun k=>g k s 0) R:=by
 have key: ∀i,i≤n→ ∀s,I 0 s→ ∃s',I i s'∧ ∀R,Ev (fun k=>g k s' (i:Int)) R→Ev (fun k=>g k s 0) R:=by
  intro i
  induction i with
  |zero=>intro _ s hs;exact⟨s,hs,fun R h=>h⟩
  |succ i ih=>
   intro hi s hs
   obtain⟨s1,h1,k1⟩:=ih (by omega) s hs
   obtain⟨s2,h2,k2⟩:=hstep i s1 (by omega) h1
   refine⟨s2,h2,fun R h=>k1 R (k2 R ?_)⟩
   rw [wrap_nat (by omega)]
   exact h
 exact fun s hs=>key n (Nat.le_refl _) s hs
theorem rd_mem {xs : List Int} {i : Int} (h0 : 0 ≤ i) (h1 : i < (xs.length : Int)) : rd xs i ∈ xs := by
 have hi:i.toNat<xs.length:=by omega
 have e:rd xs i=xs[i.toNat]:=by
  show xs.getD i.toNat 0=_
  rw [List.getD_eq_getElem?_getD,List.getElem?_eq_getElem hi];rfl
 rw [e];exact List.getElem_mem hi
theorem rdL_mem {xs : List (List Int)} {i : Int} (h0 : 0 ≤ i) (h1 : i < (xs.length : Int)) : rd_L2 xs i ∈ xs := by
 obtain⟨m,rfl⟩: ∃m:Nat,i=(m:Int):=⟨i.toNat,by omega⟩
 have hi:m<xs.length:=by omega
 rw [rdL_nat,List.getD_eq_getElem?_getD,List.getElem?_eq_getElem hi]
 exact List.getElem_mem hi
structure Sh (n : Nat) (U : List (List Int)) (N : List Int) : Prop where
 len : U.length = n
 row : ∀ r ∈ U, r.length = n
 lenN : N.length = n
theorem Sq.sh {n : Nat} {U : List (List Int)} {N : List Int} (h : Sq n U N) : Sh n U N := ⟨h.len, h.row, h.lenN⟩
theorem rename_ev {n : Nat} {U : List (List Int)} {N : List Int} (S : Sq n U N) {o : List Int} (ho : o.length = n) (hr : ∀ x ∈ o, 0 ≤ x ∧ x < (n : Int)) : ∃ V M, Sh n V M ∧ Ev (fun k => spec_l20Rename.f k U N o) (V, M) := by
 have hn:=S.pos
 have hs:=S.small
 have hU:=S.len
 have hN:=S.lenN
 obtain⟨back,hb,kb⟩:=Ev.run (ρ:=List (List Int) × List Int) (g:=fun k (s:List Int) i=>spec_l20Rename.l0 k o s i U N) n (fun _ s=>s.length=n) (by omega) (fun i s hi hl=>by
  have r1:=hr _ (rd_mem (xs:=o) (i:=(i:Int)) (by omega) (by omega))
  have r2:=r1.1
  have r3:=r1.2
  refine⟨s.set (rd o (i:Int)).toNat (i:Int),by rw [List.length_set];exact hl,fun R h=>Ev.succ ?_⟩
  simp only [spec_l20Rename.l0]
  exact Ev.ite_pos (by omega) (Ev.ite_pos (by omega) (Ev.ite_pos r2 (Ev.ite_pos (by omega) h)))) (List.replicate ((o.length:Int)).toNat 0) (by simp [ho])
 have hrow: ∀(i:Nat) (V:List (List Int)) (M:List Int),i<n→ ∃row:List Int,row.length=n∧ ∀R,Ev (fun k=>spec_l20Rename.l2 k o back (i:Int) row (n:Int) U N V M) R→Ev (fun k=>spec_l20Rename.l2 k o back (i:Int) [] 0 U N V M) R:=by
  intro i V M hi
  have r1:=hr _ (rd_mem (xs:=o) (i:=(i:Int)) (by omega) (by omega))
  have r2:=r1.1
  have r3:=r1.2
  have rl:=S.row _ (rdL_mem (xs:=U) (i:=rd o (i:Int)) r2 (by omega))
  exact Ev.run (ρ:=List (List Int) × List Int) (g:=fun k (s:List Int) j=>spec_l20Rename.l2 k o back (i:Int) s j U N V M) n (fun j s=>s.length=j) (by omega) (fun j s hj hl=>by
   have q1:=hr _ (rd_mem (xs:=o) (i:=(j:Int)) (by omega) (by omega))
   have q2:=q1.1
   have q3:=q1.2
   refine⟨s ++ [rd (rd_L2 U (rd o (i:Int))) (rd o (j:Int))],by rw [List.length_append,hl];rfl,fun R h=>Ev.succ ?_⟩
   simp only [spec_l20Rename.l2]
   exact Ev.ite_pos (by omega) (Ev.ite_pos (by omega) (Ev.ite_pos (by omega) (Ev.ite_pos r2 (Ev.ite_pos (by omega) (Ev.ite_pos (by omega) (Ev.ite_pos q2 (Ev.ite_pos (by omega) (Ev.ite_pos (by omega) h))))))))) [] rfl
 obtain⟨⟨V,M⟩,⟨hV,hVr,hM⟩,kV⟩:=Ev.run (ρ:=List (List Int) × List Int) (g:=fun k (s:List (List Int) × List Int) i=>spec_l20Rename.l1 k o back i U N s.1 s.2) n (fun i s=>s.1.length=i∧(∀r ∈ s.1,r.length=n)∧s.2.length=i) (by omega) (fun i s hi hl=>by
  obtain⟨V,M⟩:=s
  obtain⟨h1,h2,h3⟩:=hl
  have h1':V.length=i:=h1
  have h3':M.length=i:=h3
  have r1:=hr _ (rd_mem (xs:=o) (i:=(i:Int)) (by omega) (by omega))
  have r2:=r1.1
  have r3:=r1.2
  have n1:=S.ran _ (rd_mem (xs:=N) (i:=rd o (i:Int)) r2 (by omega))
  have n2:=n1.1
  have n3:=n1.2
  obtain⟨row,hrl,kr⟩:=hrow i V M hi
  refine⟨(V ++ [row],M ++ [rd back (rd N (rd o (i:Int)))]),⟨by simp [h1'],?_,by simp [h3']⟩,fun R h=>Ev.succ ?_⟩
  ·intro r hr'
   rcases List.mem_append.1 hr' with hr'|hr'
   ·exact h2 r hr'
   ·rw [List.mem_singleton.1 hr'];exact hrl
  ·simp only [spec_l20Rename.l1]
   refine Ev.ite_pos (by omega) (kr R (Ev.succ ?_))
   simp only [spec_l20Rename.l2]
   exact Ev.ite_neg (by omega) (Ev.ite_pos (by omega) (Ev.ite_pos (by omega) (Ev.ite_pos (by omega) (Ev.ite_pos r2 (Ev.ite_pos (by omega) (Ev.ite_pos n2 (Ev.ite_pos (by omega) (Ev.ite_pos (by omega) h))))))))) ([],[]) ⟨rfl,(fun _ h=>by cases h),rfl⟩
 refine⟨V,M,⟨hV,hVr,hM⟩,?_⟩
 unfold spec_l20Rename.f
 refine Ev.ite_pos (by omega) (Ev.ite_pos (by omega) (kb _ (Ev.succ ?_)))
 simp only [spec_l20Rename.l0]
 refine Ev.ite_neg (by omega) (kV _ (Ev.succ ?_))
 simp only [spec_l20Rename.l1]
 exact Ev.ite_neg (by omega) (Ev.now _)
section
section
variable {b : List Int} (hb : Bytes b) (hl : b.length ≤ 2000)
include hb hl
theorem lg_j5 {m : Nat} (hm : 1 ≤ m) (hm2 : m ≤ 100) {U : List (List Int)} {N : List Int} (S : Sh m U N) {p : Int} (h0 : 0 ≤ p) (h1 : p ≤ 999999900) (n : Int) :
 ∃V M q,Ev (fun k=>spec_l20Logic.j5 k n b p U N) (V,M,q)∧p≤q∧q≤p+4:=by
 have hU:=S.len
 have hN:=S.lenN
 obtain⟨o,p1,ho,q1,q2⟩:=odd_ev hb hl h0 (by omega) n
 cases o with
 |false=>
  refine⟨U,N,p1,Ev.succ ?_,by omega,by omega⟩
  simp only [spec_l20Logic.j5]
  refine Ev.bind ho ?_
  dsimp only
  exact Ev.ite_neg (by decide) (Ev.now _)
 |true=>
  obtain⟨v,hv,v0,v1⟩:=pick_ev hb hl (p:=p1) (by omega) (by omega) 4
  have v2:=v1 (by omega)
  by_cases e0:v=0
  ·refine⟨[],[],p1+1,Ev.succ ?_,?_,?_⟩
   ·simp only [spec_l20Logic.j5]
    refine Ev.bind ho ?_
    dsimp only
    refine Ev.ite_pos rfl (Ev.bind hv ?_)
    dsimp only
    exact Ev.ite_pos e0 (Ev.now _)
   ·omega
   ·omega
  by_cases e1:v=1
  ·refine⟨U,N.drop (1:Int).toNat,p1+1,Ev.succ ?_,?_,?_⟩
   ·simp only [spec_l20Logic.j5]
    refine Ev.bind ho ?_
    dsimp only
    refine Ev.ite_pos rfl (Ev.bind hv ?_)
    dsimp only
    exact Ev.ite_neg e0 (Ev.ite_pos e1 (Ev.ite_pos (by omega) (Ev.now _)))
   ·omega
   ·omega
  by_cases e2:v=2
  ·obtain⟨x,hx,x0,x1⟩:=pick_ev hb hl (p:=p1+1) (by omega) (by omega) (N.length:Int)
   have x2:=x1 (by omega)
   obtain⟨y,hy,y0,y1⟩:=pick_ev hb hl (p:=p1+1+1) (by omega) (by omega) (wrap64 ((N.length:Int)+1))
   refine⟨U,N.set (x:Int).toNat y,p1+1+1+1,Ev.succ ?_,?_,?_⟩
   ·simp only [spec_l20Logic.j5]
    refine Ev.bind ho ?_
    dsimp only
    refine Ev.ite_pos rfl (Ev.bind hv ?_)
    dsimp only
    refine Ev.ite_neg e0 (Ev.ite_neg e1 (Ev.ite_pos e2 (Ev.bind hx (Ev.bind hy ?_))))
    dsimp only
    exact Ev.ite_pos x0 (Ev.ite_pos x2 (Ev.now _))
   ·omega
   ·omega
  ·have w1:wrap64 ((U.length:Int) - 1)=(U.length:Int) - 1:=wrap_pos (by omega) (by omega)
   have rl:=S.row _ (rdL_mem (xs:=U) (i:=(U.length:Int) - 1) (by omega) (by omega))
   refine⟨U.set ((U.length:Int) - 1).toNat ((rd_L2 U ((U.length:Int) - 1)).set (0:Int).toNat 1),N,p1+1,Ev.succ ?_,?_,?_⟩
   ·simp only [spec_l20Logic.j5]
    refine Ev.bind ho ?_
    dsimp only
    refine Ev.ite_pos rfl (Ev.bind hv ?_)
    dsimp only
    refine Ev.ite_neg e0 (Ev.ite_neg e1 (Ev.ite_neg e2 ?_))
    simp only [w1]
    exact Ev.ite_pos (by omega) (Ev.ite_pos (by omega) (Ev.ite_pos (by omega) (Ev.now _)))
   ·omega
   ·omega
theorem lg_l1 {U : List (List Int)} {N : List Int} {m i : Nat} (him : i < m) (hm : m ≤ 100) (n q v : Int) (v0 : 0 ≤ v) : ∀ (d : Nat) (o : List Int) (j : Int), j = v + d → j ≤ i → o.length = i + 1 → (∀ x ∈ o, 0 ≤ x ∧ x < (m : Int)) →
 ∃o':List Int,o'.length=i+1∧(∀x ∈ o',0≤x∧x<(m:Int))∧ ∀R,Ev (fun k=>spec_l20Logic.l1 k n o' (i:Int) v v b q U N) R→Ev (fun k=>spec_l20Logic.l1 k n o (i:Int) v j b q U N) R:=by
 intro d
 induction d with
 |zero=>
  intro o j hj _ hlen hr
  obtain rfl:j=v:=by omega
  exact⟨o,hlen,hr,fun R h=>h⟩
 |succ d ih=>
  intro o j hj hji hlen hr
  have w1:wrap64 (j - 1)=j - 1:=wrap_pos (by omega) (by omega)
  have hr1:=hr _ (rd_mem (xs:=o) (i:=j - 1) (by omega) (by omega))
  obtain⟨o',k1,k2,k3⟩:=ih (o.set j.toNat (rd o (j - 1))) (j - 1) (by omega) (by omega) (by rw [List.length_set];exact hlen) (fun x hx=>by
   rcases List.mem_or_eq_of_mem_set hx with hx|rfl
   ·exact hr x hx
   ·exact hr1)
  refine⟨o',k1,k2,fun R h=>Ev.succ ?_⟩
  simp only [spec_l20Logic.l1,w1]
  exact Ev.ite_pos (by omega) (Ev.ite_pos (by omega) (Ev.ite_pos (by omega) (Ev.ite_pos (by omega) (Ev.ite_pos (by omega) (k3 R h)))))
theorem lg_j2 {m : Nat} {U : List (List Int)} {N : List Int} (S : Sq m U N) {p : Int} (h0 : 0 ≤ p) (h1 : p ≤ 999999700) (n : Int) :
 ∃V M q,Ev (fun k=>spec_l20Logic.j2 k n b p U N) (V,M,q)∧p≤q∧q≤p+110:=by
 have hm:=S.pos
 have hm2:=S.small
 have hU:=S.len
 have hN:=S.lenN
 obtain⟨⟨o,p1⟩,⟨i1,i2,i3,i4⟩,ko⟩:=Ev.run (ρ:=List (List Int) × List Int × Int) (g:=fun k (s:List Int × Int) i=>spec_l20Logic.l0 k n s.1 i b s.2 U N) m (fun i s=>s.1.length=i∧(∀x ∈ s.1,0≤x∧x<(m:Int))∧p≤s.2∧s.2≤p+(i:Int)) (by omega) (fun i s hi hs=>by
  obtain⟨o,q⟩:=s
  obtain⟨j1,j2,j3,j4⟩:=hs
  have j1':o.length=i:=j1
  have j3':p≤q:=j3
  have j4':q≤p+(i:Int):=j4
  have w1:wrap64 ((i:Int)+1)=(i:Int)+1:=wrap_pos (by omega) (by omega)
  obtain⟨v,hv,v0,v1⟩:=pick_ev hb hl (p:=q) (by omega) (by omega) ((i:Int)+1)
  have v2:=v1 (by omega)
  obtain⟨o',k1,k2,k3⟩:=lg_l1 hb hl (U:=U) (N:=N) hi hm2 n (q+1) v v0 ((i:Int) - v).toNat (o ++ [(i:Int)]) (i:Int) (by omega) (by omega) (by rw [List.length_append,j1'];rfl) (fun x hx=>by
   rcases List.mem_append.1 hx with hx|hx
   ·exact j2 x hx
   ·rw [List.mem_singleton.1 hx];omega)
  refine⟨(o'.set v.toNat (i:Int),q+1),⟨by rw [List.length_set];exact k1,fun x hx=>?_,by show p≤q+1;omega,by show q+1≤p+((i+1:Nat):Int);omega⟩,fun R h=>Ev.succ ?_⟩
  ·rcases List.mem_or_eq_of_mem_set hx with hx|rfl
   ·exact k2 x hx
   ·omega
  ·rw [w1] at h
   simp only [spec_l20Logic.l0,w1]
   refine Ev.ite_pos (by omega) (Ev.bind hv ?_)
   dsimp only
   refine Ev.ite_pos (by omega) (k3 R (Ev.succ ?_))
   simp only [spec_l20Logic.l1,w1]
   exact Ev.ite_neg (by omega) (Ev.ite_pos (by omega) (Ev.ite_pos (by omega) h))) ([],p) ⟨rfl,(fun _ h=>by cases h),Int.le_refl _,by show p≤p+((0:Nat):Int);omega⟩
 have i1':o.length=m:=i1
 have i3':p≤p1:=i3
 have i4':p1≤p+(m:Int):=i4
 obtain⟨v,hv,v0,v1⟩:=pick_ev hb hl (p:=p1) (by omega) (by omega) 2
 have fin: ∀V M,Sh m V M→ ∃V' M' q,Ev (fun k=>spec_l20Logic.j5 k n b (p1+1) V M) (V',M',q)∧p≤q∧q≤p+110:=fun V M hS=>by
  obtain⟨V',M',q,h,k1,k2⟩:=lg_j5 hb hl hm hm2 hS (p:=p1+1) (by omega) (by omega) n
  exact⟨V',M',q,h,by omega,by omega⟩
 by_cases e:v=0
 ·obtain⟨V,M,hS,hR⟩:=rename_ev S i1' i2
  obtain⟨V',M',q,h,k1,k2⟩:=fin V M hS
  refine⟨V',M',q,Ev.succ ?_,k1,k2⟩
  simp only [spec_l20Logic.j2]
  refine ko _ (Ev.succ ?_)
  simp only [spec_l20Logic.l0]
  refine Ev.ite_neg (by omega) (Ev.bind hv ?_)
  dsimp only
  exact Ev.ite_pos e (Ev.bind hR h)
 ·obtain⟨V',M',q,h,k1,k2⟩:=fin U N S.sh
  refine⟨V',M',q,Ev.succ ?_,k1,k2⟩
  simp only [spec_l20Logic.j2]
  refine ko _ (Ev.succ ?_)
  simp only [spec_l20Logic.l0]
  refine Ev.ite_neg (by omega) (Ev.bind hv ?_)
  dsimp only
  exact Ev.ite_neg e h
theorem lg_j2' {r : List (List Int) × List Int} (S : sqB r = true) {p : Int} (h0 : 0 ≤ p) (h1 : p ≤ 999999700) (n : Int) :
 ∃V M q,Ev (fun k=>spec_l20Logic.j2 k n b p r.1 r.2) (V,M,q)∧p≤q∧q≤p+110:=lg_j2 hb hl (sq_of S) h0 h1 n
theorem logic_ev {p : Int} (h0 : 0 ≤ p) (h1 : p ≤ 999999600) (n : Int) : ∃ V M q, Ev (fun k => spec_l20Logic.f k b p n) (V, M, q) ∧ p ≤ q ∧ q ≤ p + 120 := by
 obtain⟨v,hv,v0,v1⟩:=pick_ev hb hl h0 (by omega) 9
 have v2:=v1 (by omega)
 have key: ∃V M q,Ev (fun k=>spec_l20Logic.j0 k n v (if v=0 then(v==0) else(v==1)) b (p+1)) (V,M,q)∧p≤q∧q≤p+120:=by
  have hj1: ¬(v=0)→ ¬(v=1)→(∃V M q,Ev (fun k=>spec_l20Logic.j1 k n v (if v=2 then(v==2) else(v==3)) b (p+1)) (V,M,q)∧p≤q∧q≤p+120)→ ∃V M q,Ev (fun k=>spec_l20Logic.j0 k n v (if v=0 then(v==0) else(v==1)) b (p+1)) (V,M,q)∧p≤q∧q≤p+120:=by
   rintro e0 e1 ⟨V,M,q,h,k⟩
   refine⟨V,M,q,Ev.succ ?_,k⟩
   simp only [spec_l20Logic.j0]
   rw [if_neg e0]
   refine Ev.ite_neg (by simpa using e1) ?_
   by_cases e2:v=2
   ·rw [if_pos e2] at h
    exact Ev.ite_pos e2 h
   ·rw [if_neg e2] at h
    exact Ev.ite_neg e2 h
  have hend: ∀r,sqB r=true→ ∃V M q,Ev (fun k=>spec_l20Logic.j2 k n b (p+1) r.1 r.2) (V,M,q)∧p≤q∧q≤p+120:=fun r hr=>by
   obtain⟨V,M,q,h,k1,k2⟩:=lg_j2' hb hl hr (p:=p+1) (by omega) (by omega) n
   exact⟨V,M,q,h,by omega,by omega⟩
  have B2:=(gB_ev (x:=2) (by omega) (by omega)).1
  have B3:=(gB_ev (x:=3) (by omega) (by omega)).1
  have hvs:(v=0∨v=1)∨(v=2∨v=3)∨v=4∨v=5∨v=6∨v=7∨v=8:=by omega
  rcases hvs with e|e|e|e|e|e|e
  ·obtain⟨x,hx,x0,x1⟩:=pick_ev hb hl (p:=p+1) (by omega) (by omega) 4
   obtain⟨g1,g2⟩:=gB_ev x0 (x1 (by omega))
   obtain⟨V,M,q,h,k1,k2⟩:=lg_j2' hb hl g2 (p:=p+1+1) (by omega) (by omega) n
   refine⟨V,M,q,Ev.succ ?_,by omega,by omega⟩
   simp only [spec_l20Logic.j0]
   refine Ev.ite_pos (by rcases e with rfl|rfl <;> rfl) (Ev.bind hx (Ev.bind g1 h))
  ·obtain⟨V,M,q,h,k⟩:=hend _ g22.2
   refine hj1 (by omega) (by omega) ⟨V,M,q,Ev.succ ?_,k⟩
   simp only [spec_l20Logic.j1]
   exact Ev.ite_pos (by rcases e with rfl|rfl <;> rfl) (Ev.bind B2 (Ev.bind B2 (Ev.bind g22.1 h)))
  ·obtain⟨V,M,q,h,k⟩:=hend _ g23.2
   subst e
   refine hj1 (by omega) (by omega) ⟨V,M,q,Ev.succ ?_,k⟩
   simp only [spec_l20Logic.j1]
   exact Ev.ite_neg (by simp) (Ev.ite_pos (by simp) (Ev.bind B2 (Ev.bind B3 (Ev.bind g23.1 h))))
  ·obtain⟨V,M,q,h,k⟩:=hend _ g222.2
   subst e
   refine hj1 (by omega) (by omega) ⟨V,M,q,Ev.succ ?_,k⟩
   simp only [spec_l20Logic.j1]
   exact Ev.ite_neg (by simp) (Ev.ite_neg (by simp) (Ev.ite_pos (by simp) (Ev.bind B2 (Ev.bind B2 (Ev.bind g22.1 (Ev.bind B2 (Ev.bind g222.1 h)))))))
  ·obtain⟨V,M,q,h,k⟩:=hend _ gS_ev.2
   subst e
   refine hj1 (by omega) (by omega) ⟨V,M,q,Ev.succ ?_,k⟩
   simp only [spec_l20Logic.j1]
   exact Ev.ite_neg (by simp) (Ev.ite_neg (by simp) (Ev.ite_neg (by simp) (Ev.ite_pos (by simp) (Ev.pbind gS_ev.1 h))))
  ·obtain⟨V,M,q,h,k⟩:=hend _ gS2.2
   subst e
   refine hj1 (by omega) (by omega) ⟨V,M,q,Ev.succ ?_,k⟩
   simp only [spec_l20Logic.j1]
   exact Ev.ite_neg (by simp) (Ev.ite_neg (by simp) (Ev.ite_neg (by simp) (Ev.ite_neg (by simp) (Ev.ite_pos (by simp) (Ev.pbind gS_ev.1 (Ev.bind B2 (Ev.bind gS2.1 h)))))))
  ·obtain⟨V,M,q,h,k⟩:=hend _ gP_ev.2
   subst e
   refine hj1 (by omega) (by omega) ⟨V,M,q,Ev.succ ?_,k⟩
   simp only [spec_l20Logic.j1]
   exact Ev.ite_neg (by simp) (Ev.ite_neg (by simp) (Ev.ite_neg (by simp) (Ev.ite_neg (by simp) (Ev.ite_neg (by simp) (Ev.bind gP_ev.1 h)))))
 obtain⟨V,M,q,h,k⟩:=key
 refine⟨V,M,q,?_,k⟩
 unfold spec_l20Logic.f
 refine Ev.bind hv ?_
 dsimp only
 by_cases e:v=0
 ·rw [if_pos e] at h
  exact Ev.ite_pos e h
 ·rw [if_neg e] at h
  exact Ev.ite_neg e h
end
end
def agrB (U : List (List Int)) (N : List Int) (s : Nat) : Bool := allN U.length fun a => allN a fun b => !(s.testBit a && s.testBit b) || bothB U N (a : Int) (b : Int)
theorem agree_loop {U : List (List Int)} {N : List Int} (L : Logic U N) (s : Nat) : Ev (fun k => spec_AgreeOk.l0 k (s : Int) (U.length : Int) 0 U N) (agrB U N s) := by
 have hs:=L.small
 refine Ev.eq (Ev.all (n:=U.length) (g:=fun k i=>spec_AgreeOk.l0 k (s:Int) (U.length:Int) i U N) (fun a=>allN a fun b=>!(s.testBit a && s.testBit b)||bothB U N (a:Int) (b:Int)) (go:=true) (stop:=false) (by omega) (fun _=>?_) fun a ha _ R hR=>?_) (by unfold agrB;cases allN U.length _ <;> rfl)
 ·refine Ev.succ ?_
  simp only [spec_AgreeOk.l0]
  exact Ev.ite_neg (by omega) (Ev.now _)
 ·refine Ev.succ ?_
  simp only [spec_AgreeOk.l0]
  refine Ev.ite_pos (by omega) ?_
  refine Ev.eq (Ev.all (n:=a) (g:=fun k i=>spec_AgreeOk.l1 k (s:Int) (U.length:Int) (a:Int) i U N) (fun b=>!(s.testBit a && s.testBit b)||bothB U N (a:Int) (b:Int)) (go:=R) (stop:=false) (by omega) (fun hall=>?_) fun b hb _ R2 hR2=>?_) rfl
  ·refine Ev.succ ?_
   simp only [spec_AgreeOk.l1]
   exact Ev.ite_neg (by omega) (hR (allN_iff.2 hall))
  ·refine Ev.succ ?_
   simp only [spec_AgreeOk.l1,smod_nat s (show a≤64 by omega),smod_nat s (show b≤64 by omega)]
   refine Ev.ite_pos (by omega) (Ev.ite_pos (by omega) ?_)
   cases ea:s.testBit a with
   |false=>
    rw [ea] at hR2
    exact Ev.ite_neg (by simp) (Ev.eq (hR2 rfl) rfl)
   |true=>
    refine Ev.ite_pos rfl (Ev.ite_pos (by omega) ?_)
    cases eb:s.testBit b with
    |false=>
     rw [ea,eb] at hR2
     exact Ev.ite_neg (by simp) (Ev.eq (hR2 rfl) rfl)
    |true=>
     rw [ea,eb] at hR2
     refine Ev.ite_pos rfl (Ev.bind (spec_l6Agree.ev L (a:=(a:Int)) (b:=(b:Int)) ⟨by omega,by omega⟩ ⟨by omega,by omega⟩) ?_)
     cases hB:bothB U N (a:Int) (b:Int) with
     |true=>
      rw [hB] at hR2
      exact Ev.ite_pos rfl (Ev.eq (hR2 rfl) rfl)
     |false=>exact Ev.ite_neg (by simp) (Ev.now _)
theorem spec_AgreeOk.ev (U : List (List Int)) (N : List Int) (s : Int) : Ev (fun k => spec_AgreeOk.f k U N s) (if logicB U N = true then (inS U s && agrB U N s.toNat) else false) := by
 unfold spec_AgreeOk.f
 refine Ev.bind (spec_LogicOk.ev U N) ?_
 have hj: ∀m,Ev (fun k=>spec_AgreeOk.j0 k s m true U N) false:=fun m=>by
  refine Ev.succ ?_
  simp only [spec_AgreeOk.j0]
  exact Ev.ite_pos (by simp) (Ev.now _)
 cases hl:logicB U N with
 |false=>exact Ev.ite_neg (by simp) (hj _)
 |true=>
  have L:=logicB_iff.1 hl
  refine Ev.ite_pos rfl (Ev.pbind (l1In_set L s) ?_)
  rw [if_pos rfl]
  cases hi:inS U s with
  |false=>exact hj _
  |true=>
   obtain⟨x,rfl⟩: ∃x:Nat,s=(x:Int):=⟨s.toNat,by unfold inS at hi;simp only [Bool.and_eq_true,decide_eq_true_eq] at hi;omega⟩
   refine Ev.succ ?_
   simp only [spec_AgreeOk.j0]
   refine Ev.ite_neg (by simp) ?_
   rw [L.len,Int.toNat_natCast,Bool.true_and]
   exact agree_loop L x
theorem agrB_iff {U : List (List Int)} {N : List Int} (L : Logic U N) {s : Nat} : agrB U N s = true ↔ Rel U.length (fun a b => bothB U N (a : Int) (b : Int)) s := by
 unfold agrB Rel
 rw [allN_iff]
 have key: ∀a b,a<U.length→b<a→s.testBit a=true→s.testBit b=true→(∀a,a<U.length→(allN a fun b=>!(s.testBit a && s.testBit b)||bothB U N (a:Int) (b:Int))=true)→bothB U N (a:Int) (b:Int)=true:=fun a b ha hb h1 h2 h=>by
  have:=allN_iff.1 (h a ha) b hb
  rw [h1,h2] at this
  simpa using this
 constructor
 ·intro h a b ha hb h1 h2
  rcases Nat.lt_trichotomy a b with hab|rfl|hab
  ·exact both_symm L b a hb ha (key b a hb hab h2 h1 h)
  ·exact both_refl L a ha
  ·exact key a b ha hab h1 h2 h
 ·intro h a ha
  refine allN_iff.2 fun b hb=>?_
  cases h1:s.testBit a with
  |false=>rfl
  |true=>cases h2:s.testBit b with
   |false=>rfl
   |true=>have h3:=h a b ha (by omega) h1 h2;simpa using h3
theorem some_ev {b : List Int} (hb : Bytes b) (hl : b.length ≤ 2000) {p : Int} (h0 : 0 ≤ p) (h1 : p ≤ 999999000) (n : Int) : ∃ V M x q, Ev (fun k => spec_l20Some.f k b p n) (V, M, x, q) ∧ p ≤ q ∧ q ≤ p + 140 := by
 obtain⟨V,M,q,hd,q0,q1⟩:=logic_ev hb hl h0 (by omega) n
 obtain⟨v1,e1,v10,_⟩:=pick_ev hb hl (p:=q) (by omega) (by omega) (mx (M.length:Int) 1)
 obtain⟨v2,e2,v20,_⟩:=pick_ev hb hl (p:=q+1) (by omega) (by omega) (mx (M.length:Int) 1)
 obtain⟨v3,e3,_,_⟩:=pick_ev hb hl (p:=q+1+1) (by omega) (by omega) 2
 have tail: ∀(s:Int) (r:Int),0≤r→r≤q+10→ ∃x z,Ev (fun k=>spec_l20Some.j0 k s b r V M) (V,M,x,z)∧r≤z∧z≤r+3:=by
  intro s r r0 r1
  have end1: ∀(o:Bool) (r:Int),0≤r→r≤q+20→ ∃x z,Ev (fun k=>spec_l20Some.j1 k s o b r V M) (V,M,x,z)∧r≤z∧z≤r+2:=by
   intro o r r0 r1
   obtain⟨u1,f1,_,_⟩:=pick_ev hb hl (p:=r) (by omega) (by omega) 40
   obtain⟨u2,f2,_,_⟩:=pick_ev hb hl (p:=r+1) (by omega) (by omega) 50
   cases o with
   |true=>
    refine⟨wrap64 (wrap64 ((if logicB V M=true then(if inS V s=true then((mdS V M s.toNat:Nat):Int) else -1) else -1)+wrap64 (wrap64 (Int.tdiv u1 39)*4096)) - wrap64 (wrap64 (Int.tdiv u2 49)*9000)),r+1+1,Ev.succ ?h,by omega,by omega⟩
    case h=>
     simp only [spec_l20Some.j1]
     exact Ev.ite_pos (by simp) (Ev.bind (spec_MadeBy.ev V M s) (Ev.bind f1 (Ev.bind f2 (Ev.now _))))
   |false=>
    refine⟨wrap64 (wrap64 (s+wrap64 (wrap64 (Int.tdiv u1 39)*4096)) - wrap64 (wrap64 (Int.tdiv u2 49)*9000)),r+1+1,Ev.succ ?h,by omega,by omega⟩
    case h=>
     simp only [spec_l20Some.j1]
     exact Ev.ite_neg (by simp) (Ev.bind f1 (Ev.bind f2 (Ev.now _)))
  cases hg:logicB V M with
  |false=>
   obtain⟨x,z,hz,z0,z1⟩:=end1 false r r0 (by omega)
   refine⟨x,z,Ev.succ ?_,z0,by omega⟩
   simp only [spec_l20Some.j0]
   exact Ev.bind (spec_LogicOk.ev V M) (by rw [hg];exact Ev.ite_neg (by simp) hz)
  |true=>
   obtain⟨u,f,_,_⟩:=pick_ev hb hl (p:=r) (by omega) (by omega) 2
   obtain⟨x,z,hz,z0,z1⟩:=end1 (u==0) (r+1) (by omega) (by omega)
   refine⟨x,z,Ev.succ ?_,by omega,by omega⟩
   simp only [spec_l20Some.j0]
   exact Ev.bind (spec_LogicOk.ev V M) (by rw [hg];exact Ev.ite_pos rfl (Ev.bind f hz))
 unfold spec_l20Some.f
 by_cases hv:v3=0
 ·obtain⟨v4,e4,v40,_⟩:=pick_ev hb hl (p:=q+1+1+1) (by omega) (by omega) (mx (M.length:Int) 1)
  obtain⟨x,z,hz,z0,z1⟩:=tail (Go.bits .or .i64 (Go.bits .or .i64 (shl .i64 1 v1) (shl .i64 1 v2)) (shl .i64 1 v4)) (q+1+1+1+1) (by omega) (by omega)
  exact⟨V,M,x,z,Ev.bind hd (Ev.bind e1 (Ev.ite_pos v10 (Ev.bind e2 (Ev.ite_pos v20 (Ev.bind e3 (Ev.ite_pos hv (Ev.bind e4 (Ev.ite_pos v40 hz)))))))),by omega,by omega⟩
 ·obtain⟨x,z,hz,z0,z1⟩:=tail (Go.bits .or .i64 (shl .i64 1 v1) (shl .i64 1 v2)) (q+1+1+1) (by omega) (by omega)
  exact⟨V,M,x,z,Ev.bind hd (Ev.bind e1 (Ev.ite_pos v10 (Ev.bind e2 (Ev.ite_pos v20 (Ev.bind e3 (Ev.ite_neg hv hz)))))),by omega,by omega⟩
theorem alive_ok : Ev (fun k => laws_alive.f k) true := by
 unfold laws_alive.f
 refine Ev.bind (impl_OrderOk.ev _) ?_
 rw [show orderB [[1]]=true by decide]
 refine Ev.ite_pos rfl (Ev.bind (impl_OrderOk.ev _) ?_)
 rw [show orderB [[0]]=false by decide]
 exact Ev.now _
theorem blkL_length (U : List (List Int)) (N : List Int) : (blkL U N).length = (blkN U N).length := by rw [blkL_eq, List.length_map]
theorem blkL_at (U : List (List Int)) (N : List Int) (i : Nat) : at1 (blkL U N) i = (((blkN U N).getD i 0 : Nat) : Int) := by
 rw [blkL_eq]
 simp only [at1,List.getD_eq_getElem?_getD,List.getElem?_map]
 cases (blkN U N)[i]? <;> rfl
theorem blkN_lt {U : List (List Int)} {N : List Int} (hn : U.length ≤ 12) (i : Nat) : (blkN U N).getD i 0 < 4611686018427387904 := by
 rw [List.getD_eq_getElem?_getD]
 cases h:(blkN U N)[i]? with
 |none=>simp
 |some s=>
  have h1:s ∈ blkN U N:=List.mem_of_getElem? h
  have h2:s<2 ^ U.length:=by
   have:=(List.mem_filter.1 h1).1
   simpa using this
  have:=two_pow_le (show U.length≤40 by omega)
  simp;omega
theorem blkN_len {U : List (List Int)} (N : List Int) (hn : U.length ≤ 12) : (blkN U N).length ≤ 4096 := by
 have h1:=List.length_filter_le (blkP U N) (List.range (2 ^ U.length))
 have h2:2 ^ U.length≤4096:=Nat.pow_le_pow_right (by omega) hn
 rw [List.length_range] at h1
 exact Nat.le_trans h1 h2
end Go.Proofs.Ytcbjpdaogicibaa.Print
end
