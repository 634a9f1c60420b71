/- Part 8 of what is common to several claims of this seat: StatesOfL. -/
import Derived.Test.YtcbjpdaogicibaaLG7
import Derived.Below
import Derived.Deep.Draws
import Derived.Deep.AppendLies
import Derived.Maps.AppendAt
import Derived.OwnWalk
import Derived.Laws.BytesArg
import Derived.Laws.MakeOwn
import Derived.Laws.OwnMore
import Derived.Deep.OwnRows
import Derived.Tactics
import Derived.Lib.ConvBytes
import Derived.Laws.Slices
import Derived.WalkKit
import Derived.KernelRfl
import Derived.RowKit3
import Derived.Deep.LoopGhost
import Derived.Deep.QuietTactic
import Derived.BigQuiet
import Derived.WideLaws
import Derived.Deep.DeepCutAuto
import Derived.Deep.CutBlock
import Derived.Deep.RegionHeld3
import Derived.Laws.Rows
import Derived.Lib.AppendStr
import Derived.ArgAppend
import Derived.Laws.IdiomCopy
import Derived.RowKit
import Derived.OrdersHeld
import Derived.Laws.BitsLemmas
import Derived.Test.YtcbjpdaogicibaaProg
import Derived.LaidEqlPtr
import Derived.Laws.Bits64b
set_option linter.all false
section
namespace Go.Proofs.Ytcbjpdaogicibaa.Print
open Go.RowKit Go.Proofs.YtcbjpdaogicibaaW.PrintWords Go.Proofs.YtcbjpdaogicibaaW.PrintLast Go.Proofs.YtcbjpdaogicibaaW.PrintMore
open Oml
theorem ofInt_nat (a : Nat) (ha : a < 18446744073709551616) : (BitVec.ofInt 64 (a : Int)).toNat = a := by
 rw [BitVec.ofInt_natCast, BitVec.toNat_ofNat]; exact Nat.mod_eq_of_lt (by omega)
theorem band_nat (a b : Nat) (ha : a < 4611686018427387904) (hb : b < 4611686018427387904) : Go.bits .and .i64 (a : Int) (b : Int) = ((a &&& b : Nat) : Int) := by
 have hx:a &&& b<2 ^ 62:=Nat.and_lt_two_pow _ (by omega)
 show IntKind.i64.wrap ((BitVec.ofInt 64 (a:Int) &&& BitVec.ofInt 64 (b:Int)).toNat:Int)=_
 rw [BitVec.toNat_and,ofInt_nat a (by omega),ofInt_nat b (by omega),i64_w]
 unfold wrap64;omega
theorem two_pow_le {i : Nat} (h : i ≤ 40) : (2 : Nat) ^ i ≤ 1099511627776 := Nat.pow_le_pow_right (by omega) h
theorem cast_pow (i : Nat) : (2 : Int) ^ i = ((2 ^ i : Nat) : Int) := by rw [Int.natCast_pow]; rfl
theorem shl_nat {i : Nat} (h : i ≤ 40) : shl .i64 1 (i : Int) = ((2 ^ i : Nat) : Int) := by
 unfold shl
 have h2:=two_pow_le h
 rw [Int.toNat_natCast,Nat.min_eq_left (by show i≤64;omega),Int.one_mul,cast_pow,i64_w]
 generalize 2 ^ i=x at h2 ⊢
 unfold wrap64;omega
theorem wshl_nat {i : Nat} (h : i ≤ 40) : IntKind.i64.wrap (2 ^ i) = ((2 ^ i : Nat) : Int) := by
 have:=shl_nat h
 unfold shl at this
 rwa [Int.toNat_natCast,Nat.min_eq_left (by show i≤64;omega),Int.one_mul] at this
theorem shr_nat (s : Nat) {i : Nat} (h : i ≤ 64) : shr .i64 (s : Int) (i : Int) = ((s / 2 ^ i : Nat) : Int) := by
 unfold shr
 rw [Int.toNat_natCast,Nat.min_eq_left (by show i≤64;omega),cast_pow]
 rfl
theorem testBit_div (s i : Nat) : s.testBit i = decide (s / 2 ^ i % 2 = 1) := Nat.testBit_eq_decide_div_mod_eq
theorem smod_nat (s : Nat) {i : Nat} (h : i ≤ 64) : Int.tmod (shr .i64 (s : Int) (i : Int)) 2 = if s.testBit i = true then 1 else 0 := by
 rw [shr_nat s h,testBit_div]
 have h1:Int.tmod ((s / 2 ^ i:Nat):Int) ((2:Nat):Int)=((s / 2 ^ i % 2:Nat):Int):=by first|exact(Int.ofNat_tmod _ 2).symm|rfl
 rw [show ((2:Nat):Int)=2 from rfl] at h1
 rw [h1]
 by_cases e:s / 2 ^ i % 2=1
 ·rw [e];simp
 ·have:s / 2 ^ i % 2=0:=by omega
  rw [this];simp
def setB (n : Nat) (p : Nat → Bool) : Nat :=
 match n with
 | 0 => 0
 | n + 1 => setB n p ||| (if p n = true then 2 ^ n else 0)
theorem setB_bit (n : Nat) (p : Nat → Bool) (i : Nat) : (setB n p).testBit i = (decide (i < n) && p i) := by
 induction n with
 |zero=>simp [setB]
 |succ n ih=>
  simp only [setB,Nat.testBit_or,ih]
  by_cases e:i=n
  ·subst e
   cases h:p i <;> simp [h,Nat.testBit_two_pow]
  ·have:(if p n=true then 2 ^ n else 0).testBit i=false:=by
    split
    ·rw [Nat.testBit_two_pow];simp;omega
    ·simp
   rw [this,Bool.or_false]
   congr 1
   rw [Bool.eq_iff_iff];simp;omega
theorem setB_lt (n : Nat) (p : Nat → Bool) : setB n p < 2 ^ n := by
 refine Nat.lt_pow_two_of_testBit _ fun i hi => ?_
 rw [setB_bit]; simp; omega
theorem eq_setB {n s : Nat} (h : s < 2 ^ n) : s = setB n s.testBit := by
 refine Nat.eq_of_testBit_eq fun i=>?_
 rw [setB_bit]
 by_cases hi:i<n
 ·simp [hi]
 ·rw [Nat.testBit_lt_two_pow (Nat.lt_of_lt_of_le h (Nat.pow_le_pow_right (by omega) (by omega)))];simp [hi]
theorem setB_congr {n : Nat} {p q : Nat → Bool} (h : ∀ i, i < n → p i = q i) : setB n p = setB n q := by
 refine Nat.eq_of_testBit_eq fun i=>?_
 rw [setB_bit,setB_bit]
 by_cases hi:i<n
 ·rw [h i hi]
 ·simp [hi]
end Go.Proofs.Ytcbjpdaogicibaa.Print
end
section
namespace Go.Proofs.Ytcbjpdaogicibaa.Print
open Go.RowKit Go.Proofs.YtcbjpdaogicibaaW.PrintWords Go.Proofs.YtcbjpdaogicibaaW.PrintLast Go.Proofs.YtcbjpdaogicibaaW.PrintMore
section
attribute [local go_sem] max2_int min2_int max_two min_two max_three min_three max_four min_four
def impl_has.f (a0 : Int) (a1 : Int) : Option (Bool) := if 0 ≤ a1 then (some ((Go.bits .and .i64 (shr .i64 a0 a1) 1) == 1)) else (none)
set_option maxHeartbeats 8000000 in
set_option maxRecDepth 100000 in
theorem impl_has.calls (a0 : Int) (a1 : Int) (r : Bool) (w : World) (h : impl_has.f a0 a1 = some r) :
  Calls Try.prog 88 #[.int .i64 a0, .int .i64 a1] w fun e w' => e = .returned (.bool r) ∧ Drawn0 w w' := by
 have H : (if 0 ≤ a1 then (some ((Go.bits .and .i64 (shr .i64 a0 a1) 1) == 1)) else (none)) = some r := h
 clear h
 by_cases c3 : 0 ≤ a1
 ·rw [if_pos c3] at H
  have c3b0 := eq_true c3
  have c3b1 : decide (0 ≤ a1) = true := decide_eq_true c3
  clear c3
  obtain ⟨ji4, hji4⟩ : ∃ j_ : Int, (shr .i64 a0 a1) = j_ := ⟨_, rfl⟩
  replace H : (some ((Go.bits .and .i64 (ji4) 1) == 1)) = some r := by first | (rw [hji4] at H; exact H) | (simp only [hji4] at H ⊢; exact H)
  have hji4_ : (a0 / 2 ^ min a1.toNat 64) = ji4 := hji4
  have hji4z : a1 ≤ 64 → (a0 / 2 ^ a1.toNat) = ji4 := shr_small hji4
  obtain rfl := Option.some.inj H
  go_enter Try.func88, Try.ntmps88
  go_wp2
  go_ret
  exact ⟨by first | rfl | (simp; done) | (simp only [← hji4] <;> (first | rfl | simp)) | (simp [*]; done), by repeat (first | exact Drawn0.refl _ | apply Drawn0.step)⟩
 ·rw [if_neg c3] at H
  exact absurd H (by simp)
end
end Go.Proofs.Ytcbjpdaogicibaa.Print
end
section
namespace Go.Proofs.Ytcbjpdaogicibaa.Print
open Go.RowKit Go.Proofs.YtcbjpdaogicibaaW.PrintWords Go.Proofs.YtcbjpdaogicibaaW.PrintLast Go.Proofs.YtcbjpdaogicibaaW.PrintMore
open Oml
theorem has_nat (s : Nat) (hs : s < 4611686018427387904) {i : Nat} (h : i ≤ 64) : impl_has.f (s : Int) (i : Int) = some (s.testBit i) := by
 unfold impl_has.f
 rw [if_pos (by omega),shr_nat s h,show (1:Int)=((1:Nat):Int) from rfl,band_nat _ _ (Nat.lt_of_le_of_lt (Nat.div_le_self _ _) hs) (by omega),Nat.and_one_is_mod,testBit_div]
 have h2:s / 2 ^ i % 2=0∨s / 2 ^ i % 2=1:=by omega
 rcases h2 with h2|h2 <;> rw [h2] <;> rfl
theorem has_in (s : Nat) (hs : s < 4611686018427387904) {i : Int} (h0 : 0 ≤ i) (h : i ≤ 64) : impl_has.f (s : Int) i = some (s.testBit i.toNat) := by
 obtain⟨x,rfl⟩: ∃x:Nat,i=x:=⟨i.toNat,by omega⟩
 rw [Int.toNat_natCast]
 exact has_nat s hs (by omega)
def stT (U : List (List Int)) (N : List Int) (s : Nat) (a b : Int) : Bool :=
 if s.testBit a.toNat=s.testBit (notI N a).toNat then false else if leI U a (notI N b)=false then true
 else !(s.testBit a.toNat && s.testBit b.toNat) && (s.testBit (orI U a b).toNat==(s.testBit a.toNat||s.testBit b.toNat))
def stB (U : List (List Int)) (N : List Int) (s : Nat) : Bool := s.testBit (yesI U N).toNat && allN U.length fun a => allN U.length fun b => stT U N s a b
def isSt (U : List (List Int)) (N : List Int) (x : Int) : Bool := decide (0 ≤ x) && (decide (x < ((2 ^ U.length : Nat) : Int)) && stB U N x.toNat)
theorem has_calls (s : Nat) (hs : s < 4611686018427387904) {i : Int} (h0 : 0 ≤ i) (h : i ≤ 64) (w : World) : Calls Try.prog 88 #[.int .i64 (s : Int), .int .i64 i] w fun e w' => e = .returned (.bool (s.testBit i.toNat)) ∧ Drawn0 w w' :=
 impl_has.calls _ _ _ _ (has_in s hs h0 h)
set_option maxHeartbeats 4000000 in
set_option maxRecDepth 100000 in
theorem st_c1 (g : Nat) (U : List (List Int)) (N : List Int) (v : Adr) (w : World) (L : Logic U N) (hV : View w g U N v) (gS gG : Nat) (s : Nat) (hs : s < 4611686018427387904) (a b : Int) (ia : In U a) (ib : In U b) (hS : w.heap[gS]? = some (.cells #[.int .i64 (s : Int)] 3 (0, 0))) (hG : w.heap[gG]? = some (.cells #[.pointer (some ⟨g, 0, none⟩)] 67 (0, 0))) :
 Calls Try.prog 145 #[.int .i64 a,.int .i64 b,.pointer (some ⟨gS,0,none⟩),.pointer (some ⟨gG,0,none⟩)] w fun e w'=>e= .returned (.bool (stT U N s a b))∧Below w.heap.size w w':=by
 have hu70:=Try.underlying74
 have HV:=zqm hV
 have HLg:=zqm L
 have Ia:=zqm ia
 have Ib:=zqm ib
 have hsm:=L.small
 have small: ∀i,In U i→0≤i∧i≤64:=fun i hi=>⟨hi.1,by have:=hi.2;omega⟩
 have hx_:=fun w=>has_calls s hs (small a ia).1 (small a ia).2 w
 have hy_:=fun w=>has_calls s hs (small b ib).1 (small b ib).2 w
 have hn_:=fun w=>has_calls s hs (small _ (L.in_not ia)).1 (small _ (L.in_not ia)).2 w
 have hz_:=fun w=>has_calls s hs (small _ (L.in_or ia ib)).1 (small _ (L.in_or ia ib)).2 w
 have v1:=L.le_val ia (L.in_not ib)
 unfold stT
 generalize s.testBit a.toNat=x at hx_ ⊢
 generalize s.testBit b.toNat=y at hy_ ⊢
 generalize s.testBit (notI N a).toNat=n at hn_ ⊢
 generalize s.testBit (orI U a b).toNat=z at hz_ ⊢
 generalize leI U a (notI N b)=le at v1 ⊢
 have HX:=zqm hx_
 have HY:=zqm hy_
 have HN:=zqm hn_
 have HZ:=zqm hz_
 have x0:w.cell? ⟨gS,0,none⟩=some (.int .i64 (s:Int)):=(blk_cell hS 0).trans rfl
 have x1:w.cell? ⟨gG,0,none⟩=some (.pointer (some ⟨g,0,none⟩)):=(blk_cell hG 0).trans rfl
 clear hV L ia ib hx_ hy_ hn_ hz_ hS hG hsm small
 have b0_:=eq_true Ia.out.1;have c0_:=eq_true Ia.out.2
 have hf3_:=HV.out.f3
 have n2_:=HV.out.n a Ia.out
 have b3_:=eq_true Ib.out.1;have c3_:=eq_true Ib.out.2
 have n4_:=HV.out.n b Ib.out
 have IN1_:=zqm (HLg.out.in_not Ib.out)
 have b5_:=eq_true IN1_.out.1;have c5_:=eq_true IN1_.out.2
 have hf0_:=HV.out.f0
 have r7_:=HV.out.u a Ia.out
 have U2_:=zqm True.intro
 have hf2_:=HV.out.f2
 have r10_:=HV.out.j a Ia.out
 have s11_:=HV.out.j2 a b Ia.out Ib.out
 have u2_:w.cell? ((v.rU a.toNat).add (notI N b).toNat)=some (.int .i64 (if le=true then 1 else 0)):=by rw [← v1];exact HV.out.u2 a (notI N b) Ia.out (HLg.out.in_not Ib.out)
 clear v1 U2_
 have key: ∀(P:Prop),P→P:=fun _ h=>h
 by_cases hxn:x=n
 ·subst hxn
  have hd:(x==x)=true:=by cases x <;> rfl
  rw [if_pos rfl]
  clear u2_
  go_enter Try.func145,Try.ntmps145
  go_wp2_with fail
  go_quiet ((go_at_call 88;first|(with_reducible exact Drawn0.quiet2 (HX.out _))|(with_reducible exact Drawn0.quiet2 (HY.out _))|(with_reducible exact Drawn0.quiet2 (HN.out _))|(with_reducible exact Drawn0.quiet2 (HZ.out _))|(with_reducible exact Drawn0.quiet (HX.out _))|(with_reducible exact Drawn0.quiet (HY.out _))|(with_reducible exact Drawn0.quiet (HN.out _))|(with_reducible exact Drawn0.quiet (HZ.out _))))
  go_wp2
  go_ret
  exact⟨rfl,zq148⟩
 ·have hd:(x==n)=false:=by rw [beq_eq_false_iff_ne];exact hxn
  rw [if_neg hxn]
  cases le with
  |false=>
   rw [if_neg (by simp)] at u2_
   rw [if_pos rfl]
   go_enter Try.func145,Try.ntmps145
   go_wp2_with fail
   go_quiet ((go_at_call 88;first|(with_reducible exact Drawn0.quiet2 (HX.out _))|(with_reducible exact Drawn0.quiet2 (HY.out _))|(with_reducible exact Drawn0.quiet2 (HN.out _))|(with_reducible exact Drawn0.quiet2 (HZ.out _))|(with_reducible exact Drawn0.quiet (HX.out _))|(with_reducible exact Drawn0.quiet (HY.out _))|(with_reducible exact Drawn0.quiet (HN.out _))|(with_reducible exact Drawn0.quiet (HZ.out _))))
   go_wp2
   go_quiet (fail)
   go_wp2
   go_ret
   exact⟨rfl,zq148⟩
  |true=>
   rw [if_pos rfl] at u2_
   rw [if_neg (by simp)]
   clear hxn
   cases x <;> cases y
   all_goals
    go_enter Try.func145,Try.ntmps145
    go_wp2_with fail
    go_quiet ((go_at_call 88;first|(with_reducible exact Drawn0.quiet2 (HX.out _))|(with_reducible exact Drawn0.quiet2 (HY.out _))|(with_reducible exact Drawn0.quiet2 (HN.out _))|(with_reducible exact Drawn0.quiet2 (HZ.out _))|(with_reducible exact Drawn0.quiet (HX.out _))|(with_reducible exact Drawn0.quiet (HY.out _))|(with_reducible exact Drawn0.quiet (HN.out _))|(with_reducible exact Drawn0.quiet (HZ.out _))))
    go_wp2
    go_quiet (fail)
    go_wp2
    go_quiet ((go_at_call 88;first|(with_reducible exact Drawn0.quiet2 (HX.out _))|(with_reducible exact Drawn0.quiet2 (HY.out _))|(with_reducible exact Drawn0.quiet2 (HN.out _))|(with_reducible exact Drawn0.quiet2 (HZ.out _))|(with_reducible exact Drawn0.quiet (HX.out _))|(with_reducible exact Drawn0.quiet (HY.out _))|(with_reducible exact Drawn0.quiet (HN.out _))|(with_reducible exact Drawn0.quiet (HZ.out _))))
    go_wp2
    go_quiet ((go_at_call 88;first|(with_reducible exact Drawn0.quiet2 (HX.out _))|(with_reducible exact Drawn0.quiet2 (HY.out _))|(with_reducible exact Drawn0.quiet2 (HN.out _))|(with_reducible exact Drawn0.quiet2 (HZ.out _))|(with_reducible exact Drawn0.quiet (HX.out _))|(with_reducible exact Drawn0.quiet (HY.out _))|(with_reducible exact Drawn0.quiet (HN.out _))|(with_reducible exact Drawn0.quiet (HZ.out _))))
    go_wp2
    go_ret
    exact⟨by first|rfl|(cases z <;> rfl),zq148⟩
set_option maxHeartbeats 4000000 in
set_option maxRecDepth 100000 in
theorem isState_calls (g : Nat) (U : List (List Int)) (N : List Int) (v : Adr) (x : Int) (w : World) (L : Logic U N) (hV : View w g U N v) :
 Calls Try.prog 119 #[.pointer (some ⟨g,0,none⟩),.int .i64 x] w fun e w'=>e= .returned (.bool (isSt U N x))∧Below w.heap.size w w':=by
 have hu70:=Try.underlying74
 have HV:=zqm hV
 have HLg:=zqm L
 have HSM:=zqm L.small
 obtain⟨mv,hmv⟩: ∃mv:Int,mv=((2 ^ U.length:Nat):Int):=⟨_,rfl⟩
 have e1_:wrap64 (2 ^ min U.length 64)=mv:=by rw [Nat.min_eq_left (show U.length≤64 by have:=L.small;omega),← i64_w,wshl_nat (by have:=L.small;omega),hmv]
 have e2_:IntKind.i64.wrap (2 ^ min U.length 64)=mv:=by rw [i64_w];exact e1_
 have hM2:2 ^ U.length≤4096:=Nat.pow_le_pow_right (by omega) L.small
 have HM2:=zqm hM2
 have HMV:=zqm hmv
 unfold isSt
 rw [← hmv]
 by_cases h0:x<0
 ·have d0:decide (x<0)=true:=decide_eq_true h0
  have d1:decide (0≤x)=false:=decide_eq_false (by omega)
  rw [d1]
  clear hV L hmv h0 d1 hM2
  go_enter Try.func119,Try.ntmps119
  go_wp2_with (first|((with_reducible refine gate_dst (N:=2) rfl ?_);refine box_event ?hg (N:=2) ?hd (cs:= #[.pointer (some ⟨g,0,none⟩)]) (t:=67) ?hr ?_;(case hd=>rfl);(case hg=>rfl);(case hr=> exact zq9);intro gG hg_ w1 hbox hb;have HXG:=zqm hbox;have HB1:=zqm hb;clear hbox hb hg_)|((with_reducible refine gate_dst (N:=3) rfl ?_);refine box_event ?hg (N:=3) ?hd (cs:= #[.int .i64 x]) (t:=3) ?hr ?_;(case hd=>rfl);(case hg=>rfl);(case hr=> exact zq9);intro gS hg_ w2 hbox hb;have HXS:=zqm hbox;have HB2:=zqm (below_step HB1.out hb);have HXG2:=zqm (blk_below HXG.out hb);have x0:w2.cell? ⟨gG,0,none⟩=some (.pointer (some ⟨g,0,none⟩)):=(blk_cell HXG2.out 0).trans rfl;have x1:w2.cell? ⟨gS,0,none⟩=some (.int .i64 x):=(blk_cell hbox 0).trans rfl;have hf0:=(HV.out.below HB2.out).f0;have hf5:=(HV.out.below HB2.out).f5;clear HXG HB1 hbox hb hg_))
  go_quiet (fail)
  go_wp2
  go_ret
  exact⟨rfl,zq107⟩
 ·have d0:decide (x<0)=false:=decide_eq_false h0
  have d1:decide (0≤x)=true:=decide_eq_true (by omega)
  rw [d1]
  by_cases h1:mv≤x
  ·have d2:decide (mv≤x)=true:=decide_eq_true h1
   have d3:decide (x<mv)=false:=decide_eq_false (by omega)
   rw [d3]
   clear hV L hmv h0 h1 d1 d3 hM2
   go_enter Try.func119,Try.ntmps119
   go_wp2_with (first|((with_reducible refine gate_dst (N:=2) rfl ?_);refine box_event ?hg (N:=2) ?hd (cs:= #[.pointer (some ⟨g,0,none⟩)]) (t:=67) ?hr ?_;(case hd=>rfl);(case hg=>rfl);(case hr=> exact zq9);intro gG hg_ w1 hbox hb;have HXG:=zqm hbox;have HB1:=zqm hb;clear hbox hb hg_)|((with_reducible refine gate_dst (N:=3) rfl ?_);refine box_event ?hg (N:=3) ?hd (cs:= #[.int .i64 x]) (t:=3) ?hr ?_;(case hd=>rfl);(case hg=>rfl);(case hr=> exact zq9);intro gS hg_ w2 hbox hb;have HXS:=zqm hbox;have HB2:=zqm (below_step HB1.out hb);have HXG2:=zqm (blk_below HXG.out hb);have x0:w2.cell? ⟨gG,0,none⟩=some (.pointer (some ⟨g,0,none⟩)):=(blk_cell HXG2.out 0).trans rfl;have x1:w2.cell? ⟨gS,0,none⟩=some (.int .i64 x):=(blk_cell hbox 0).trans rfl;have hf0:=(HV.out.below HB2.out).f0;have hf5:=(HV.out.below HB2.out).f5;clear HXG HB1 hbox hb hg_))
   go_quiet (fail)
   go_wp2
   go_ret
   exact⟨rfl,zq107⟩
  ·have d2:decide (mv≤x)=false:=decide_eq_false h1
   have d3:decide (x<mv)=true:=decide_eq_true (by omega)
   rw [d3]
   obtain⟨s,hsx⟩: ∃s:Nat,x=(s:Int):=⟨x.toNat,by omega⟩
   have hs:s<4611686018427387904:=by omega
   rw [show x.toNat=s by omega,Bool.true_and,Bool.true_and]
   unfold stB
   have hy_:=fun w=>has_calls s hs (i:=yesI U N) L.in_yes.1 (by have:=L.in_yes.2;have:=L.small;omega) w
   rw [← hsx] at hy_
   have HS:=zqm hs
   have HSX:=zqm hsx
   generalize s.testBit (yesI U N).toNat=y at hy_ ⊢
   have HX:=zqm hy_
   cases y with
   |false=>
    rw [Bool.false_and]
    clear hV L hmv h0 h1 d1 d3 hM2 hs hy_ hsx
    go_enter Try.func119,Try.ntmps119
    go_wp2_with (first|((with_reducible refine gate_dst (N:=2) rfl ?_);refine box_event ?hg (N:=2) ?hd (cs:= #[.pointer (some ⟨g,0,none⟩)]) (t:=67) ?hr ?_;(case hd=>rfl);(case hg=>rfl);(case hr=> exact zq9);intro gG hg_ w1 hbox hb;have HXG:=zqm hbox;have HB1:=zqm hb;clear hbox hb hg_)|((with_reducible refine gate_dst (N:=3) rfl ?_);refine box_event ?hg (N:=3) ?hd (cs:= #[.int .i64 x]) (t:=3) ?hr ?_;(case hd=>rfl);(case hg=>rfl);(case hr=> exact zq9);intro gS hg_ w2 hbox hb;have HXS:=zqm hbox;have HB2:=zqm (below_step HB1.out hb);have HXG2:=zqm (blk_below HXG.out hb);have x0:w2.cell? ⟨gG,0,none⟩=some (.pointer (some ⟨g,0,none⟩)):=(blk_cell HXG2.out 0).trans rfl;have x1:w2.cell? ⟨gS,0,none⟩=some (.int .i64 x):=(blk_cell hbox 0).trans rfl;have hf0:=(HV.out.below HB2.out).f0;have hf5:=(HV.out.below HB2.out).f5;clear HXG HB1 hbox hb hg_))
    go_quiet ((go_at_call 88;first|(with_reducible exact Drawn0.quiet (HX.out _))|(with_reducible exact Drawn0.quiet2 (HX.out _))))
    go_wp2
    go_ret
    exact⟨rfl,zq107⟩
   |true=>
    rw [Bool.true_and]
    clear hV L hmv h0 h1 d1 d3 hM2 hs hy_ hsx
    go_enter Try.func119,Try.ntmps119
    go_wp2_with (first|((with_reducible refine gate_dst (N:=2) rfl ?_);refine box_event ?hg (N:=2) ?hd (cs:= #[.pointer (some ⟨g,0,none⟩)]) (t:=67) ?hr ?_;(case hd=>rfl);(case hg=>rfl);(case hr=> exact zq9);intro gG hg_ w1 hbox hb;have HXG:=zqm hbox;have HB1:=zqm hb;clear hbox hb hg_)|((with_reducible refine gate_dst (N:=3) rfl ?_);refine box_event ?hg (N:=3) ?hd (cs:= #[.int .i64 x]) (t:=3) ?hr ?_;(case hd=>rfl);(case hg=>rfl);(case hr=> exact zq9);intro gS hg_ w2 hbox hb;have HXS:=zqm hbox;have HB2:=zqm (below_step HB1.out hb);have HXG2:=zqm (blk_below HXG.out hb);have x0:w2.cell? ⟨gG,0,none⟩=some (.pointer (some ⟨g,0,none⟩)):=(blk_cell HXG2.out 0).trans rfl;have x1:w2.cell? ⟨gS,0,none⟩=some (.int .i64 x):=(blk_cell hbox 0).trans rfl;have hf0:=(HV.out.below HB2.out).f0;have hf5:=(HV.out.below HB2.out).f5;clear HXG HB1 hbox hb hg_))
    go_quiet ((go_at_call 88;first|(with_reducible exact Drawn0.quiet (HX.out _))|(with_reducible exact Drawn0.quiet2 (HX.out _))))
    go_wp2_with (go_at_call 71;(with_reducible refine(every_pure g U N v _ HSM.out ?sV 145 _ #[.pointer (some ⟨gS,0,none⟩),.pointer (some ⟨gG,0,none⟩)] Try.func145 zqk rfl (fun a b=>stT U N s a b) ?sT).mono ?_);(case sV=>exact(HV.out.below zq107));(case sT=>exact fun a b ha hb W hW=>st_c1 g U N v W HLg.out ((HV.out.below zq107).below hW) gS gG s HS.out a b ⟨by omega,by omega⟩ ⟨by omega,by omega⟩ (by rw [← HSX.out];exact blk_below (blk_drewN HXS.out _) hW) (blk_below (blk_drewN HXG2.out _) hW));rintro e w3 ⟨rfl,hb⟩;have HB3:=zqm (below_step zq107 hb);clear hb)
    go_ret
    exact⟨rfl,zq139⟩
def stN (U : List (List Int)) (N : List Int) : List Nat := (List.range (2 ^ U.length)).filter fun (s : Nat) => isSt U N (s : Int)
def stL (U : List (List Int)) (N : List Int) : List Int := filI (2 ^ U.length) fun (s : Nat) => isSt U N (s : Int)
set_option maxHeartbeats 4000000 in
set_option maxRecDepth 100000 in
theorem states_calls (g : Nat) (U : List (List Int)) (N : List Int) (v : Adr) (w : World) (L : Logic U N) (hV : View w g U N v) :
 Calls Try.prog 109 #[.pointer (some ⟨g,0,none⟩)] w fun e w'=> ∃v0,e= .returned v0∧Kd.R (Kd.int .i64) 3 w' w.heap.size (fun _=>True) v0 (stL U N)∧Below w.heap.size w w':=by
 have hu70:=Try.underlying74
 have HV:=zqm hV
 have HLg:=zqm L
 have HSM:=zqm L.small
 obtain⟨mv,hmv⟩: ∃mv:Int,mv=((2 ^ U.length:Nat):Int):=⟨_,rfl⟩
 have e1_:wrap64 (2 ^ min U.length 64)=mv:=by rw [Nat.min_eq_left (show U.length≤64 by have:=L.small;omega),← i64_w,wshl_nat (by have:=L.small;omega),hmv]
 have e2_:IntKind.i64.wrap (2 ^ min U.length 64)=mv:=by rw [i64_w];exact e1_
 have hM2:2 ^ U.length≤4096:=Nat.pow_le_pow_right (by omega) L.small
 have HM2:=zqm hM2
 have HMV:=zqm hmv
 obtain⟨M,hM⟩: ∃M:Nat,M=2 ^ U.length:=⟨_,rfl⟩
 have HM:=zqm hM
 have HMV2:=zqm (show mv=(M:Int) by rw [hmv,hM])
 have HM3:=zqm (show M≤4096 by omega)
 clear hV L hmv hM2 hM
 go_enter Try.func109,Try.ntmps109
 go_wp2_with ((with_reducible refine gate_dst (N:=5) rfl ?_);refine Kd.R_lit (Kd.int .i64) _ 3 ?hg (N:=5) ?hd (xs:=([]:List Int)) (inner:= []) (ok:=fun _=>True) (okp:=fun _=>True) ?hr ?hp (fun _ hk=>hk) trivial (Below.refl _ _) (Nat.le_refl _) (by simp) ?_;(case hd=>rfl);(case hg=>rfl);(case hr=> exact zq9);(case hp=>exact(Reps.none _ _));intro v0 w3 ho hb hg_ hnew_;clear hg_ hnew_;have HO3:=zqm ho;have HB3:=zqm hb;have hf0:=(HV.out.below hb).f0;clear ho hb)
 go_loopg [12,3] (M+1) (fun kq v12 v3 W=> ∃s:Nat,v12= .int .i64 s∧Aside0 (s+kq=M+1)∧Aside0 (s≤M)∧Aside0 (Kd.R (Kd.int .i64) 3 W w.heap.size (fun _=>True) v3 (filI s fun(s:Nat)=>isSt U N (s:Int)))∧Aside0 (Below w.heap.size w W))
 case atStart=>exact⟨0,by first|rfl|simp,⟨by omega⟩,⟨by omega⟩,HO3,HB3⟩
 case round=>
  clear hf0
  obtain⟨s,rfl,HK,HK2,HOr,HBr⟩:=hrel
  cases gk with
  |zero=>exact absurd HK.out (by have:=HK2.out;omega)
  |succ kn=>
  by_cases hlt:s<M
  ·have hlt':decide ((s:Int)<mv)=true:=decide_eq_true (by rw [HMV2.out];omega)
   have HLT:=zqm hlt
   clear hlt
   cases ht:isSt U N (s:Int) with
   |true=>
    have HT:=zqm ht
    clear ht
    go_wp2_with (first|(go_at_call 119;(with_reducible refine(isState_calls g U N v (s:Int) _ HLg.out (HV.out.below HBr.out)).mono ?_);rintro e w5 ⟨he,hb⟩;rw [HT.out] at he;subst he;have HO5:=zqm (Kd.R_below HOr.out hb);have HB5:=zqm (below_step HBr.out hb);clear HOr HBr hb)|((with_reducible refine gate_builtin (b:= .append) (xs:= #[.tmp 18,.tmp 20]) rfl ?_);at_builtin;refine Kd.R_append (Kd.int .i64) (w0:=w) w.heap.size rfl (.tmp 18) (.tmp 20) 24 3 (.int .i64 0) 8 rfl Try.underlying24 infoInt rfl (by decide) (by omega) u3 (filI s fun(s:Nat)=>isSt U N (s:Int)) (s:Int) [.int .i64 s] (fun _=>True) (fun _=>False) rfl rfl ?aP (fun _ hk=>hk.elim) ?aF ?aO ?aB ?aS ?aL ?_;(case aP=>exact rfl);(case aB=>exact HB5.out);(case aF=>exact(fun _ _=>trivial));(case aO=>exact HO5.out);(case aS=>exact(below_size HB5.out));(case aL=>have:=filI_length s (fun(s:Nat)=>isSt U N (s:Int));have:=HLT.out;have:=HM3.out;omega);intro v3n w21 ho hb hg hat;have HB6:=zqm hb;have HO6:=zqm ho;clear ho hb hg hat HO5 HB5))
    go_roundg kn
    case measure=>omega
    case rel=>exact⟨s+1,zq168,⟨by have:=HK.out;omega⟩,⟨by have:=HLT.out;omega⟩,⟨by rw [filI_succ,if_pos HT.out];exact HO6.out⟩,HB6⟩
   |false=>
    have HT:=zqm ht
    clear ht
    go_wp2_with (go_at_call 119;(with_reducible refine(isState_calls g U N v (s:Int) _ HLg.out (HV.out.below HBr.out)).mono ?_);rintro e w5 ⟨he,hb⟩;rw [HT.out] at he;subst he;have HO5:=zqm (Kd.R_below HOr.out hb);have HB5:=zqm (below_step HBr.out hb);clear HOr HBr hb)
    go_roundg kn
    case measure=>omega
    case rel=>exact⟨s+1,zq168,⟨by have:=HK.out;omega⟩,⟨by have:=HLT.out;omega⟩,⟨by rw [filI_succ,if_neg (by rw [HT.out];simp)];exact HO5.out⟩,HB5⟩
  ·have hlt':decide ((s:Int)<mv)=false:=decide_eq_false (by rw [HMV2.out];omega)
   obtain rfl:s=M:=by have:=HK2.out;omega
   clear hlt
   go_wp2_with fail
   go_ret
   exact⟨_,rfl,by have h:=HOr.out;rw [HM.out] at h;exact h,by repeat(first|exact HBr.out|apply pw_below_drewN|apply below_drew1)⟩
def impl_StateOk.f (l0_0 : List (List Int)) (l0_1 : List Int) (a1 : Int) : Option (Bool) := some (if logicB l0_0 l0_1 = true then isSt l0_0 l0_1 a1 else false)
set_option maxHeartbeats 4000000 in
set_option maxRecDepth 100000 in
theorem impl_StateOk.calls (A0_0 : Option Addr) (c0_0 : Nat) (l0_0 : List (List Int)) (A0_1 : Option Addr) (c0_1 : Nat) (l0_1 : List Int) (a1 : Int) (r : Bool) (w : World) (hr0_0 : Kd.C (Kd.slice 3 (Kd.int .i64)) w A0_0 l0_0.length l0_0) (hc0_0 : l0_0.length ≤ c0_0) (hr0_1 : Kd.C (Kd.int .i64) w A0_1 l0_1.length l0_1) (hc0_1 : l0_1.length ≤ c0_1) (h : impl_StateOk.f l0_0 l0_1 a1 = some r) :
 Calls Try.prog 51 #[.agg #[.slice A0_0 l0_0.length c0_0,.slice A0_1 l0_1.length c0_1],.int .i64 a1] w fun e w'=>e= .returned (.bool r)∧Below w.heap.size w w':=by
 obtain⟨k,hF⟩:=told_facts l0_0
 have hu30:=Try.underlying26
 have hu70:=Try.underlying74
 have HF:=zqm hF
 have HR0:=zqm hr0_0
 have HC0:=zqm hc0_0
 have HR1:=zqm hr0_1
 have HC1:=zqm hc0_1
 simp only [impl_StateOk.f,Option.some.injEq] at h
 clear hr0_0 hc0_0 hr0_1 hc0_1 hF
 cases hL:logicB l0_0 l0_1 with
 |false=>
  rw [hL] at h
  have hr_:false=r:=by simpa using h
  subst hr_
  have HLB:=zqm hL
  clear h hL
  go_enter Try.func51,Try.ntmps51
  go_wp2_with (first|((with_reducible refine gate_dst (N:=2) rfl ?_);refine box_event ?hg (N:=2) ?hd (cs:= #[.slice A0_0 l0_0.length c0_0,.slice A0_1 l0_1.length c0_1]) (t:=26) ?hr ?_;(case hd=>rfl);(case hg=>rfl);(case hr=> exact zq9);intro gb hg_ w1 hbox hb;have HB:=zqm hb;have hx0:w1.cell? ⟨gb,0,none⟩=some (.slice A0_0 l0_0.length c0_0):=(blk_cell hbox 0).trans rfl;have hx1:w1.cell? ⟨gb,1,none⟩=some (.slice A0_1 l0_1.length c0_1):=(blk_cell hbox 1).trans rfl;have HX:=zqm hbox;clear hbox hb hg_)|(go_at_call 70;(with_reducible refine(told_n k _ _ l0_0 _ _ l0_1 _ ?s1 ?s2 ?s3 ?s4 HF.out HLB.out).mono ?_);(case s1=> exact zq143);(case s2=>exact HC0.out);(case s3=> exact zq158);(case s4=>exact HC1.out);rintro e w2 ⟨rfl,hb⟩;have HB2:=zqm (below_step HB.out hb);clear hb hx0 hx1 HX HB))
  go_ret
  exact⟨rfl,zq141⟩
 |true=>
  rw [hL] at h
  have hr_:isSt l0_0 l0_1 a1=r:=by simpa using h
  subst hr_
  have HLB:=zqm hL
  have HLg:=zqm (logicB_iff.1 hL)
  have HSM:=zqm (logicB_iff.1 hL).small
  clear h hL
  go_enter Try.func51,Try.ntmps51
  go_wp2_with (first|((with_reducible refine gate_dst (N:=2) rfl ?_);refine box_event ?hg (N:=2) ?hd (cs:= #[.slice A0_0 l0_0.length c0_0,.slice A0_1 l0_1.length c0_1]) (t:=26) ?hr ?_;(case hd=>rfl);(case hg=>rfl);(case hr=> exact zq9);intro gb hg_ w1 hbox hb;have HB:=zqm hb;have hx0:w1.cell? ⟨gb,0,none⟩=some (.slice A0_0 l0_0.length c0_0):=(blk_cell hbox 0).trans rfl;have hx1:w1.cell? ⟨gb,1,none⟩=some (.slice A0_1 l0_1.length c0_1):=(blk_cell hbox 1).trans rfl;have HX:=zqm hbox;clear hbox hb hg_)|(go_at_call 70;(with_reducible refine(told_y k _ _ l0_0 _ _ l0_1 _ ?s1 ?s2 ?s3 ?s4 HF.out HLB.out).mono ?_);(case s1=> exact zq143);(case s2=>exact HC0.out);(case s3=> exact zq158);(case s4=>exact HC1.out);rintro e w2 ⟨g,v,rfl,hv,hge,hb⟩;have HB2:=zqm (below_step HB.out hb);have HV:=zqm hv;clear hv hge hb hx0 hx1 HX HB)|(go_at_call 119;(with_reducible refine(isState_calls g l0_0 l0_1 v a1 _ HLg.out HV.out).mono ?_);rintro e w3 ⟨rfl,hb⟩;have HB3:=zqm (below_step HB2.out hb);clear hb))
  go_ret
  exact⟨rfl,zq139⟩
def impl_StatesOf.f (l0_0 : List (List Int)) (l0_1 : List Int) : Option (List Int) := some (if logicB l0_0 l0_1 = true then stL l0_0 l0_1 else [])
set_option maxHeartbeats 4000000 in
set_option maxRecDepth 100000 in
theorem impl_StatesOf.calls (A0_0 : Option Addr) (c0_0 : Nat) (l0_0 : List (List Int)) (A0_1 : Option Addr) (c0_1 : Nat) (l0_1 : List Int) (r : List Int) (w : World) (hr0_0 : Kd.C (Kd.slice 3 (Kd.int .i64)) w A0_0 l0_0.length l0_0) (hc0_0 : l0_0.length ≤ c0_0) (hr0_1 : Kd.C (Kd.int .i64) w A0_1 l0_1.length l0_1) (hc0_1 : l0_1.length ≤ c0_1) (h : impl_StatesOf.f l0_0 l0_1 = some r) :
 Calls Try.prog 49 #[.agg #[.slice A0_0 l0_0.length c0_0,.slice A0_1 l0_1.length c0_1]] w fun e w'=> ∃v0_:Value,e= .returned (v0_)∧Kd.R (Kd.int .i64) 3 w' w.heap.size (fun _=>True) v0_ r∧Below w.heap.size w w':=by
 obtain⟨k,hF⟩:=told_facts l0_0
 have hu30:=Try.underlying26
 have hu70:=Try.underlying74
 have HF:=zqm hF
 have HR0:=zqm hr0_0
 have HC0:=zqm hc0_0
 have HR1:=zqm hr0_1
 have HC1:=zqm hc0_1
 simp only [impl_StatesOf.f,Option.some.injEq] at h
 clear hr0_0 hc0_0 hr0_1 hc0_1 hF
 cases hL:logicB l0_0 l0_1 with
 |false=>
  rw [hL] at h
  have hr_: []=r:=by simpa using h
  subst hr_
  have HLB:=zqm hL
  clear h hL
  go_enter Try.func49,Try.ntmps49
  go_wp2_with (first|((with_reducible refine gate_dst (N:=1) rfl ?_);refine box_event ?hg (N:=1) ?hd (cs:= #[.slice A0_0 l0_0.length c0_0,.slice A0_1 l0_1.length c0_1]) (t:=26) ?hr ?_;(case hd=>rfl);(case hg=>rfl);(case hr=> exact zq9);intro gb hg_ w1 hbox hb;have HB:=zqm hb;have hx0:w1.cell? ⟨gb,0,none⟩=some (.slice A0_0 l0_0.length c0_0):=(blk_cell hbox 0).trans rfl;have hx1:w1.cell? ⟨gb,1,none⟩=some (.slice A0_1 l0_1.length c0_1):=(blk_cell hbox 1).trans rfl;have HX:=zqm hbox;clear hbox hb hg_)|(go_at_call 70;(with_reducible refine(told_n k _ _ l0_0 _ _ l0_1 _ ?s1 ?s2 ?s3 ?s4 HF.out HLB.out).mono ?_);(case s1=> exact zq143);(case s2=>exact HC0.out);(case s3=> exact zq158);(case s4=>exact HC1.out);rintro e w2 ⟨rfl,hb⟩;have HB2:=zqm (below_step HB.out hb);clear hb hx0 hx1 HX HB))
  go_ret
  exact⟨_,rfl,Kd.R_nil _ _ _ _ _,zq141⟩
 |true=>
  rw [hL] at h
  have hr_:stL l0_0 l0_1=r:=by simpa using h
  subst hr_
  have HLB:=zqm hL
  have HLg:=zqm (logicB_iff.1 hL)
  have HSM:=zqm (logicB_iff.1 hL).small
  clear h hL
  go_enter Try.func49,Try.ntmps49
  go_wp2_with (first|((with_reducible refine gate_dst (N:=1) rfl ?_);refine box_event ?hg (N:=1) ?hd (cs:= #[.slice A0_0 l0_0.length c0_0,.slice A0_1 l0_1.length c0_1]) (t:=26) ?hr ?_;(case hd=>rfl);(case hg=>rfl);(case hr=> exact zq9);intro gb hg_ w1 hbox hb;have HB:=zqm hb;have hx0:w1.cell? ⟨gb,0,none⟩=some (.slice A0_0 l0_0.length c0_0):=(blk_cell hbox 0).trans rfl;have hx1:w1.cell? ⟨gb,1,none⟩=some (.slice A0_1 l0_1.length c0_1):=(blk_cell hbox 1).trans rfl;have HX:=zqm hbox;clear hbox hb hg_)|(go_at_call 70;(with_reducible refine(told_y k _ _ l0_0 _ _ l0_1 _ ?s1 ?s2 ?s3 ?s4 HF.out HLB.out).mono ?_);(case s1=> exact zq143);(case s2=>exact HC0.out);(case s3=> exact zq158);(case s4=>exact HC1.out);rintro e w2 ⟨g,v,rfl,hv,hge,hb⟩;have HB2:=zqm (below_step HB.out hb);have HV:=zqm hv;clear hv hge hb hx0 hx1 HX HB)|(go_at_call 109;(with_reducible refine(states_calls g l0_0 l0_1 v _ HLg.out HV.out).mono ?_);rintro e w3 ⟨vs,rfl,ho,hb⟩;have HO3:=zqm (Kd.R_lower ho (below_size HB2.out));have HB3:=zqm (below_step HB2.out hb);clear ho hb))
  go_ret
  exact⟨_,rfl,HO3.out,zq139⟩
end Go.Proofs.Ytcbjpdaogicibaa.Print
end
section
namespace Go.Proofs.Ytcbjpdaogicibaa.Print
open Go.RowKit Go.Proofs.YtcbjpdaogicibaaW.PrintWords Go.Proofs.YtcbjpdaogicibaaW.PrintLast Go.Proofs.YtcbjpdaogicibaaW.PrintMore
section
attribute [local go_sem] max2_int min2_int max_two min_two max_three min_three max_four min_four
def laws_FnStatesOf.l0 : Nat → List Int → Int → List (List Int) → List Int → Option (Bool)
 | 0, _, _, _, _ => none
 | k + 1, x4, x5, x1006000, x1006001 => if x5 < (x4.length : Int) then (if 0 ≤ x5 then ((impl_StateOk.f x1006000 x1006001 (rd x4 x5)).bind fun t1014 => (if t1014 = true then (laws_FnStatesOf.l0 k x4 (wrap64 (x5 + 1)) x1006000 x1006001) else (some false))) else (none)) else ((impl_SetsOf.f 2).bind fun bt1015 => ((impl_GluedOf.f bt1015.1 bt1015.2.1 bt1015.1 bt1015.2.1).bind fun bt1023 => ((laws_ascend.f k x4).bind fun t1031 => (if t1031 = true then ((impl_BooleanOk.f x1006000 x1006001).bind fun t1032 => (if t1032 = true then ((impl_AtomsOf.f k x1006000).bind fun t1033 => (if (x4.length : Int) = (t1033.length : Int) then (if bt1015.2.2 = true then (if bt1023.2.2 = true then ((impl_StatesOf.f bt1023.1 bt1023.2.1).bind fun t1036 => (some ((t1036.length : Int) == 4))) else (some false)) else (some false)) else (some false))) else (if bt1015.2.2 = true then (if bt1023.2.2 = true then ((impl_StatesOf.f bt1023.1 bt1023.2.1).bind fun t1039 => (some ((t1039.length : Int) == 4))) else (some false)) else (some false)))) else (some false)))))
def laws_FnStatesOf.f (k : Nat) (l0 : List Int) : Option (Bool) := if (l0.length : Int) > 1048576 then (some true) else ((spec_DrawStatesOf.f k l0).bind fun bt999 => ((impl_StatesOf.f bt999.1 bt999.2).bind fun t1006 => ((spec_StatesOf.f k bt999.1 bt999.2).bind fun t1009 => ((laws_sameInts.f k t1006 t1009).bind fun t1012 => (if t1012 = true then (laws_FnStatesOf.l0 k t1006 0 bt999.1 bt999.2) else (some false))))))
set_option maxHeartbeats 8000000 in
set_option maxRecDepth 100000 in
theorem laws_FnStatesOf.calls (k : Nat) (A0 : Option Addr) (c0 : Nat) (l0 : List Int) (r : Bool) (hrt : r = true) (w : World) (hr0 : Kd.C (Kd.int .u8) w A0 l0.length l0) (hc0 : l0.length ≤ c0) (h : laws_FnStatesOf.f k l0 = some r) :
  Calls Try.prog 9 #[.slice A0 l0.length c0] w fun e w' => e = .returned (.bool r) ∧ Below w.heap.size w w' := by
 have hu26:=Try.underlying26;have v2:=zqm hr0;have v1:=zqm hc0;clear hr0 hc0;have HB:=zqm (Below.refl w.heap.size w);have H:(if(l0.length:Int)>1048576 then(some true) else((spec_DrawStatesOf.f k l0).bind fun g9=>((impl_StatesOf.f g9.1 g9.2).bind fun b5=>((spec_StatesOf.f k g9.1 g9.2).bind fun h0=>((laws_sameInts.f k b5 h0).bind fun h9=>(if h9=true then(laws_FnStatesOf.l0 k b5 0 g9.1 g9.2) else(some false)))))))=some r:=h;clear h
 by_cases c2:(l0.length:Int)>1048576
 ·rw [if_pos c2] at H;have l8:decide (1048576<(l0.length:Int))=true:=decide_eq_true c2;have l9:decide (1048576<l0.length)=true:=decide_eq_true (by omega);clear c2;obtain rfl:=Option.some.inj H
  go_enter Try.func9,Try.ntmps9
  go_wp2
  go_ret
  exact⟨zq13,zq2⟩
 ·rw [if_neg c2] at H;have l8:decide (1048576<(l0.length:Int))=false:=decide_eq_false c2;have l9:decide (1048576<l0.length)=false:=decide_eq_false (by omega);clear c2;replace H:=Option.bind_eq_some_iff.mp H;obtain⟨⟨b3,a6⟩,i1,H⟩:=H;(try dsimp only at H);have A3:=zqm i1;clear i1;replace H:=Option.bind_eq_some_iff.mp H;obtain⟨b5,o4,H⟩:=H;(try dsimp only at H);have A4:=zqm o4;clear o4;replace H:=Option.bind_eq_some_iff.mp H;obtain⟨h0,o5,H⟩:=H;(try dsimp only at H);have A5:=zqm o5;clear o5;replace H:=Option.bind_eq_some_iff.mp H;obtain⟨h9,o6,H⟩:=H;(try dsimp only at H);have A6:=zqm o6;clear o6
  by_cases c7:h9=true
  ·subst c7;rw [if_pos rfl] at H;have H':=zqm H;clear H
   go_enter Try.func9,Try.ntmps9
   go_wp2_with (first|((with_reducible refine gate_callee (f:=48) rfl ?_);refine goesL_ (some 14) rfl rfl Try.func48 zqk rfl #[.slice A0 l0.length c0] rfl zq5 ?_;(with_reducible refine(spec_DrawStatesOf.calls k _ _ l0 b3 a6 _ ?side1 ?side2 A3.out).mono ?_);(case side1=>repeat(first|exact v2.out|(with_reducible refine Kd.C_alloc ?_ _)|(with_reducible refine Kd.C_drewN ?_ _)|(with_reducible refine Kd.C_drew ?_)));(case side2=>exact v1.out);rintro e w8 ⟨x1,x2,rfl,b8,e0,hb⟩;refine⟨_,rfl,?_⟩;have f0:=zqm (Kd.S_lower b8 (below_size zq2));have d9:=zqm (Kd.Q_lower e0 (below_size zq2));replace HB:=zqm (below_step zq2 hb);clear hb b8 e0)|((with_reducible refine gate_dst (N:=3) rfl ?_);(try(refine gate_guard (by rfl) ?_;dsimp only));refine box_event ?hg (N:=3) ?hd (cs:= #[.slice none 0 0,.slice none 0 0]) (t:=26) ?hr ?_;(case hd=>rfl);(case hg=>rfl);(case hr=> exact zq9);intro a5 hg w9 hbox hb;replace f0:=zqm (Kd.S_below (zqfS f0.out) hb);replace d9:=zqm (Kd.Q_below (zqfQ d9.out) hb);have e7:=zqm (below_step zq2 hb);have a1:=zqm (hbox);have v0:=zqm ((by rw [hg];exact(below_size zq2):w.heap.size≤a5));have b0:=zqm ((by rw [hg];exact(below_size zq2):w.heap.size≤a5));clear HB;have HB:=e7;clear e7 hb hbox hg;obtain⟨b9,b6,p7⟩:=Kd.S_slice f0.out;subst p7;have j6:w9.cell? ⟨a5,0,none⟩=some (.slice none 0 0):=(blk_cell a1.out 0).trans rfl;have j7:w9.cell? ⟨a5,1,none⟩=some (.slice none 0 0):=(blk_cell a1.out 1).trans rfl;have k0:=blk_frozen a1.out 0;have k2:=blk_frozen a1.out 1;obtain⟨b4,b1,p8,_⟩:=Kd.Q_slice d9.out;subst p8)|((with_reducible refine gate_callee (f:=49) rfl ?_);refine goesL_ (some 16) rfl rfl Try.func49 zqk rfl #[.agg #[.slice b9 b3.length b6,.slice b4 a6.length b1]] rfl zq5 ?_;(with_reducible refine(impl_StatesOf.calls _ _ b3 _ _ a6 b5 _ ?side1 ?side2 ?side3 ?side4 A4.out).mono ?_);(case side1=>refine(Kd.S_reads' (e:=24) (base:=w.heap.size) (ok:=fun k_=>some k_≠(.slice b4 a6.length b1:Value).ownBlock) (n:=b3.length) (c:=b6) ?_).2.2;exact zq94);(case side2=>exact(Kd.S_reads' f0.out).2.1);(case side3=>refine(Kd.Q_reads' (e:=3) (base:=w.heap.size) (ok:=fun k_=>True) (n:=a6.length) (c:=b1) ?_).2.2;exact zq58);(case side4=>exact(Kd.Q_reads' d9.out).2.1);rintro e o8 ⟨x3,rfl,b8,hb⟩;refine⟨_,rfl,?_⟩;replace f0:=zqm (Kd.S_elder' zq94 (Kd.R_base b8) hb);have g0:=zqm (Kd.Q_elder' zq58 (Kd.R_base b8) hb);have f9:=zqm (Kd.R_lower (Kd.R_new' b8 (Kd.Q_lt zq58)) (below_size zq16));replace a1:=zqm (blk_below (g:=a5) (o:= .cells #[.slice b9 b3.length b6,.slice b4 a6.length b1] 26 (0,0)) (by refine zqe ?_;refine blk_put (cs:= #[.slice b9 b3.length b6,.slice none 0 0]) ?_ 1 _ rfl;refine zqe ?_;refine blk_put (cs:= #[.slice none 0 0,.slice none 0 0]) ?_ 0 _ rfl;refine zqe ?_;exact a1.out) hb);replace HB:=zqm (below_step zq16 hb);clear d9;have d9:=g0;clear g0 hb b8;have j8:o8.cell? ⟨a5,0,none⟩=some (.slice b9 b3.length b6):=(blk_cell a1.out 0).trans rfl;have j9:o8.cell? ⟨a5,1,none⟩=some (.slice b4 a6.length b1):=(blk_cell a1.out 1).trans rfl;have k3:=blk_frozen a1.out 0;have k4:=blk_frozen a1.out 1)|((with_reducible refine gate_callee (f:=50) rfl ?_);refine goesL_ (some 19) rfl rfl Try.func50 zqk rfl #[.agg #[.slice b9 b3.length b6,.slice b4 a6.length b1]] rfl zq5 ?_;(with_reducible refine(spec_StatesOf.calls k _ _ b3 _ _ a6 h0 _ ?side1 ?side2 ?side3 ?side4 A5.out).mono ?_);(case side1=>repeat(first|exact(Kd.S_reads' f0.out).2.2|(with_reducible refine Kd.C_alloc ?_ _)|(with_reducible refine Kd.C_drewN ?_ _)|(with_reducible refine Kd.C_drew ?_)));(case side2=>exact(Kd.S_reads' f0.out).2.1);(case side3=>repeat(first|exact(Kd.Q_reads' d9.out).2.2|(with_reducible refine Kd.C_alloc ?_ _)|(with_reducible refine Kd.C_drewN ?_ _)|(with_reducible refine Kd.C_drew ?_)));(case side4=>exact(Kd.Q_reads' d9.out).2.1);rintro e y5 ⟨x4,rfl,b8,hb⟩;refine⟨_,rfl,?_⟩;replace f0:=zqm (Kd.S_elder' (zqfS f0.out) (Kd.R_base b8) hb);have g0:=zqm (Kd.Q_elder' (zqfQ d9.out) (Kd.R_base b8) hb);have e7:=zqm (Kd.R_elder' (zqfR f9.out) (Kd.R_base b8) hb);have h2:=zqm (Kd.R_lower (Kd.R_new' (Kd.R_new' b8 (Kd.Q_lt (zqfQ d9.out))) (Kd.R_lt (zqfR f9.out))) (below_size zq16));replace a1:=zqm (blk_below (g:=a5) (o:= .cells #[.slice b9 b3.length b6,.slice b4 a6.length b1] 26 (0,0)) (zqe a1.out) hb);replace HB:=zqm (below_step zq16 hb);clear d9 f9;have d9:=g0;have f9:=e7;clear g0 e7 hb b8;obtain⟨f1,e6,p9⟩:=Kd.R_slice f9.out;subst p9;obtain⟨p4,p6,q0⟩:=Kd.R_slice h2.out;subst q0)|((with_reducible refine gate_callee (f:=31) rfl ?_);refine goesL_ (some 20) rfl rfl Try.func31 zqk rfl #[.slice f1 b5.length e6,.slice p4 h0.length p6] rfl zq5 ?_;(with_reducible refine(laws_sameInts.calls k _ _ b5 _ _ h0 true _ ?side1 ?side2 ?side3 ?side4 A6.out).mono ?_);(case side1=>repeat(first|exact(Kd.R_reads' f9.out).2.2|(with_reducible refine Kd.C_alloc ?_ _)|(with_reducible refine Kd.C_drewN ?_ _)|(with_reducible refine Kd.C_drew ?_)));(case side2=>exact(Kd.R_reads' f9.out).2.1);(case side3=>repeat(first|exact(Kd.R_reads' h2.out).2.2|(with_reducible refine Kd.C_alloc ?_ _)|(with_reducible refine Kd.C_drewN ?_ _)|(with_reducible refine Kd.C_drew ?_)));(case side4=>exact(Kd.R_reads' h2.out).2.1);rintro e w' ⟨rfl,⟨nd,rfl⟩⟩;refine⟨_,rfl,?_⟩))
   go_loopg [5] k (fun kq v5 w'=> ∃(f7:Int),v5= .int .i64 f7∧Aside0 (laws_FnStatesOf.l0 kq b5 f7 b3 a6=some r)∧Aside0 (kq≤k)∧Aside0 (Kd.R (Kd.int .i64) 3 w' w.heap.size (fun k_=>some k_≠((.slice b4 a6.length b1):Value).ownBlock) (.slice f1 b5.length e6) b5)∧Aside0 (Kd.S (Kd.slice 3 (Kd.int .i64)) 24 w' w.heap.size (fun k_=>some k_≠((.slice f1 b5.length e6):Value).ownBlock∧some k_≠((.slice b4 a6.length b1):Value).ownBlock) (.slice b9 b3.length b6) b3)∧Aside0 (Kd.Q (Kd.int .i64) 3 w' w.heap.size (fun k_=>some k_≠((.slice f1 b5.length e6):Value).ownBlock) (.slice b4 a6.length b1) a6)∧Aside0 (w'.heap[a5]? =some (.cells #[(.slice b9 b3.length b6),(.slice b4 a6.length b1)] 26 (0,0)))∧Aside0 (Below w.heap.size w w'))
   case atStart=>exact⟨(0),zq6,H',⟨Nat.le_refl _⟩,⟨by refine zqfR ?_;exact Kd.R_mono f9.out (fun _ hk=>hk.1.2)⟩,⟨by refine zqfS ?_;exact Kd.S_mono f0.out (fun _ hk=>⟨hk.1.2,hk.1.1⟩)⟩,⟨by refine zqfQ ?_;exact Kd.Q_mono d9.out (fun _ hk=>hk.1.2)⟩,⟨zqe a1.out⟩,⟨zq16⟩⟩
   case round=>
    clear H';(try clear c2);(try clear l8);(try clear l9);(try clear p2);(try clear c3);(try clear c4);(try clear c5);(try clear c7);(try clear c9);(try clear j6);(try clear j7);(try clear j8);(try clear j9);(try clear k0);(try clear k2);(try clear k3);(try clear k4);obtain⟨f7,rfl,HA,o7,HO_4,HO_1006000,HO_1006001,a1,HB⟩:=hrel
    cases gk with
    |zero=>exact absurd HA.out (by simp [laws_FnStatesOf.l0])
    |succ k1=>
     have H:=HA.out;clear HA;simp only [laws_FnStatesOf.l0] at H
     by_cases h4:f7<(b5.length:Int)
     ·rw [if_pos h4] at H;have m2:decide (f7<(b5.length:Int))=true:=decide_eq_true h4;clear h4
      by_cases i7:0≤f7
      ·rw [if_pos i7] at H;have w1:decide (0≤f7)=true:=decide_eq_true i7;clear i7;replace H:=Option.bind_eq_some_iff.mp H;obtain⟨n2,k5,H⟩:=H;(try dsimp only at H);have u6:=zqm k5;clear k5
       by_cases i8:n2=true
       ·subst i8;rw [if_pos rfl] at H;have H':=zqm H;clear H;(try go_wp2);replace HO_4:=zqm (Kd.R_drew HO_4.out);replace HO_1006000:=zqm (Kd.S_drew HO_1006000.out);replace HO_1006001:=zqm (Kd.Q_drew HO_1006001.out);replace a1:=zqm (blk_drew a1.out);replace HB:=zqm (below_drew1 HB.out);have h7:0≤(f7:Int):=zqo;have h8:f7<(b5.length:Int):=zqo;obtain⟨l7,m6,h3⟩:=Kd.at_int (Kd.R_reads' HO_4.out).2.2 f7 h7 h8
        cases m6
        replace h7:=eq_true h7;replace h8:=eq_true h8;refine start_ (n:=7) (S:=fun w'=>w'.cell? ⟨a5,0,none⟩=some (.slice b9 b3.length b6)∧w'.cell? ⟨a5,1,none⟩=some (.slice b4 a6.length b1)∧w'.cell? (l7.add (f7).toNat)=some (.int .i64 (rd b5 f7))) (ds:= []) (zqb 7 0) zqk rfl rfl ⟨(blk_cell a1.out 0).trans rfl,(blk_cell a1.out 1).trans rfl,h3⟩ (fun hHeld=>?_);generalize wr.drew=y6 at HO_4 HO_1006000 HO_1006001 a1 HB h3 hHeld ⊢;refine pure_ (i:=1) (N:=some 29) (v:=?_) (a':=?_) (zqb 7 2) rfl rfl zqk (fun _ _ _ h=>h) (Or.inl ⟨by rfl,?_⟩) ?_ ?_;rotate_left
        ·exact zqt
        rotate_left
        ·exact zqs
        refine pure_ (i:=2) (N:=some 30) (v:=?_) (a':=?_) (zqb 7 6) rfl rfl zqk (fun _ _ _ h=>h) (Or.inl ⟨by rfl,?_⟩) ?_ ?_;rotate_left
        ·exact zqt
        rotate_left
        ·exact zqs
        refine pure_ (i:=3) (N:=some 31) (v:=?_) (a':=?_) (zqb 7 14) rfl rfl zqk (fun _ _ _ h=>h) (Or.inl ⟨by rfl,?_⟩) ?_ ?_;rotate_left
        ·exact zqt
        rotate_left
        ·exact zqs
        refine take_ (i:=0) (N:=some 28) (v:=?_) (a':=?_) (zqb 7 15) rfl rfl zqk (fun _ _ _ h=>h) (Or.inl ⟨by rfl,?_⟩) hHeld ?_ ?_;rotate_left
        ·rintro w' ⟨s0,s1,s2⟩;go_simp;with_reducible rfl
        rotate_left
        ·exact zqs
        refine take_ (i:=4) (N:=some 32) (v:=?_) (a':=?_) (zqb 7 31) rfl rfl zqk (fun _ _ _ h=>h) (Or.inl ⟨by rfl,?_⟩) hHeld ?_ ?_;rotate_left
        ·rintro w' ⟨s0,s1,s2⟩;go_simp;with_reducible rfl
        rotate_left
        ·exact zqs
        refine one_ (i:=5) (N:=some 33) (zqb 7 63) rfl rfl zqk (by decide) (fun K hK=>?_);refine goes_ Try.func51 zqk rfl #[.agg #[.slice b9 b3.length b6,.slice b4 a6.length b1],.int .i64 (rd b5 f7)] (by rfl) rfl rfl zq5 ?_;(with_reducible refine(impl_StateOk.calls _ _ b3 _ _ a6 (rd b5 f7) true _ ?side1 ?side2 ?side3 ?side4 u6.out).mono ?_);(case side1=> exact zq118);(case side2=> exact zq181);(case side3=>repeat(first|exact(Kd.Q_reads' HO_1006001.out).2.2|(with_reducible refine Kd.C_alloc ?_ _)|(with_reducible refine Kd.C_drewN ?_ _)|(with_reducible refine Kd.C_drew ?_)));(case side4=> exact zq201);rintro e y7 ⟨rfl,hb⟩;have p5:=(hb.cell (World.block_lt_of_cell? _ _ (hHeld.2.2))).trans (hHeld.2.2);refine⟨_,rfl,?_⟩;replace HO_4:=zqm (Kd.R_below (zqfR HO_4.out) hb);replace HO_1006000:=zqm (Kd.S_below (zqfS HO_1006000.out) hb);replace HO_1006001:=zqm (Kd.Q_below (zqfQ HO_1006001.out) hb);replace a1:=zqm (blk_below (g:=a5) (o:= .cells #[.slice b9 b3.length b6,.slice b4 a6.length b1] 26 (0,0)) (zqe a1.out) hb);replace HB:=zqm (below_step zq16 hb);clear hb;refine hK.out _ _ ⟨(blk_cell a1.out 0).trans rfl,(blk_cell a1.out 1).trans rfl,p5⟩ (fun hHeld=>?_);clear hK K;refine norm_ (a':=?_) ?_ ?_;rotate_left
        ·show Act.put _ (some 33) _=_;exact zqs
        refine pure_ (i:=6) (N:=some 34) (v:=?_) (a':=?_) (zqb 7 127) rfl rfl zqk (fun _ _ _ h=>h) (Or.inl ⟨by rfl,?_⟩) ?_ ?_;rotate_left
        ·exact zqt
        rotate_left
        ·exact zqs
        refine done_ zqk ?_;try go_wp2
        go_roundg k1
        (case measure=>have:=o7.out;omega);case rel=>exact⟨(wrap64 (f7+1)),zq6,H',⟨by have:=o7.out;omega⟩,⟨zqfR HO_4.out⟩,⟨zqfS HO_1006000.out⟩,⟨zqfQ HO_1006001.out⟩,⟨zqe a1.out⟩,⟨zq16⟩⟩
       ·replace i8:=Bool.eq_false_iff.mpr i8;subst i8;rw [if_neg (show¬(false=true) by decide)] at H;exact absurd ((Option.some.inj H).trans hrt) (by decide)
      ·rw [if_neg i7] at H;exact absurd H (by simp)
     ·rw [if_neg h4] at H;have m2:decide (f7<(b5.length:Int))=false:=decide_eq_false h4;clear h4;replace H:=Option.bind_eq_some_iff.mp H;obtain⟨⟨a7,a4,j3⟩,k6,H⟩:=H;(try dsimp only at H);have o1:=zqm k6;clear k6;replace H:=Option.bind_eq_some_iff.mp H;obtain⟨⟨c1,b7,j4⟩,k7,H⟩:=H;(try dsimp only at H);have o2:=zqm k7;clear k7;replace H:=Option.bind_eq_some_iff.mp H;obtain⟨n3,k8,H⟩:=H;(try dsimp only at H);have o3:=zqm k8;clear k8
      by_cases i9:n3=true
      ·subst i9;rw [if_pos rfl] at H;replace H:=Option.bind_eq_some_iff.mp H;obtain⟨n4,k9,H⟩:=H;(try dsimp only at H);have i1:=zqm k9;clear k9
       by_cases j0:n4=true
       ·subst j0;rw [if_pos rfl] at H;replace H:=Option.bind_eq_some_iff.mp H;obtain⟨g3,l1,H⟩:=H;(try dsimp only at H);have u7:=zqm l1;clear l1
        by_cases g8:(b5.length:Int)=(g3.length:Int)
        ·rw [if_pos g8] at H;have m3:((b5.length:Int)==(g3.length:Int))=true:=beq_iff_eq.mpr g8;have m4:((b5.length:Int) !=(g3.length:Int))=false:=bne_eq_false_iff_eq.mpr g8;(have m5:(b5.length==g3.length)=true:=by first|simpa using g8|(simp at g8 ⊢;omega));clear g8
         by_cases j1:j3=true
         ·subst j1;rw [if_pos rfl] at H
          by_cases j2:j4=true
          ·subst j2;rw [if_pos rfl] at H;replace H:=Option.bind_eq_some_iff.mp H;obtain⟨n5,l2,H⟩:=H;(try dsimp only at H);have u9:=zqm l2;clear l2;obtain rfl:=Option.some.inj H
           go_wp2_with (first|((with_reducible refine gate_callee (f:=46) rfl ?_);refine goesL_ (some 36) rfl rfl Try.func46 zqk rfl #[.int .i64 2] rfl zq5 ?_;(with_reducible refine(impl_SetsOf.calls 2 a7 a4 true _ o1.out).mono ?_);rintro e y8 ⟨n7,n8,rfl,b8,e0,hb⟩;refine⟨_,rfl,?_⟩;have f8:=zqm (Kd.R_elder' (zqfR HO_4.out) (Kd.R_base e0) hb);have g0:=zqm (Kd.S_mono (Kd.S_told (Kd.S_told (Kd.S_old (zqfS HO_1006000.out) hb) (Kd.S_base b8)) (Kd.R_base e0)) (fun _ h_=>h_.1));have e7:=zqm (Kd.Q_elder' (zqfQ HO_1006001.out) (Kd.R_base e0) hb);have b2:=zqm (Kd.S_lower (Kd.S_new' (Kd.S_new' (Kd.S_new' b8 (Kd.R_lt (zqfR HO_4.out))) (Kd.S_lt (zqfS HO_1006000.out))) (Kd.Q_lt (zqfQ HO_1006001.out))) (below_size zq16));have a9:=zqm (Kd.R_lower (Kd.R_new' (Kd.R_new' e0 (Kd.R_lt (zqfR HO_4.out))) (Kd.Q_lt (zqfQ HO_1006001.out))) (below_size zq16));replace a1:=zqm (blk_below (g:=a5) (o:= .cells #[.slice b9 b3.length b6,.slice b4 a6.length b1] 26 (0,0)) (zqe a1.out) hb);replace HB:=zqm (below_step zq16 hb);clear HO_4 HO_1006000 HO_1006001;have HO_4:=f8;have HO_1006000:=g0;have HO_1006001:=e7;clear f8 g0 e7 hb b8 e0)|((with_reducible refine gate_dst (N:=6) rfl ?_);(try(refine gate_guard (by rfl) ?_;dsimp only));refine box_event ?hg (N:=6) ?hd (cs:= #[.slice none 0 0,.slice none 0 0]) (t:=26) ?hr ?_;(case hd=>rfl);(case hg=>rfl);(case hr=> exact zq9);intro a0 hg o9 hbox hb;replace HO_4:=zqm (Kd.R_below (zqfR HO_4.out) hb);replace HO_1006000:=zqm (Kd.S_below (zqfS HO_1006000.out) hb);replace HO_1006001:=zqm (Kd.Q_below (zqfQ HO_1006001.out) hb);replace b2:=zqm (Kd.S_below (zqfS b2.out) hb);replace a9:=zqm (Kd.R_below (zqfR a9.out) hb);have i3:=zqm (blk_below (g:=a5) (o:= .cells #[.slice b9 b3.length b6,.slice b4 a6.length b1] 26 (0,0)) (zqe a1.out) hb);have g2:=zqm (below_step zq16 hb);have a2:=zqm (hbox);have l3:=zqm ((by rw [hg];exact(below_size zq16):w.heap.size≤a0));have d2:=zqm ((by rw [hg];exact(below_size zq16):w.heap.size≤a0));have e1:=zqm ((by rw [hg];exact Nat.ne_of_lt (blk_lt (g:=a5) (o:= .cells #[.slice b9 b3.length b6,.slice b4 a6.length b1] 26 (0,0)) (zqe a1.out)):a5≠a0));have g4:=zqm ((by rw [hg];exact Nat.ne_of_gt (blk_lt (g:=a5) (o:= .cells #[.slice b9 b3.length b6,.slice b4 a6.length b1] 26 (0,0)) (zqe a1.out)):a0≠a5));clear a1 HB;have a1:=i3;have HB:=g2;clear i3 g2 hb hbox hg;obtain⟨d8,d7,q1⟩:=Kd.S_slice b2.out;subst q1;have w3:=g4.out;have w6:=e1.out;have s6:o9.cell? ⟨a0,0,none⟩=some (.slice none 0 0):=(blk_cell a2.out 0).trans rfl;have s7:o9.cell? ⟨a0,1,none⟩=some (.slice none 0 0):=(blk_cell a2.out 1).trans rfl;have t6:=blk_frozen a2.out 0;have t7:=blk_frozen a2.out 1;obtain⟨d6,d4,q2⟩:=Kd.R_slice a9.out;subst q2)|((with_reducible refine gate_callee (f:=47) rfl ?_);refine goesL_ (some 42) rfl rfl Try.func47 zqk rfl #[.agg #[.slice d8 a7.length d7,.slice d6 a4.length d4],.agg #[.slice d8 a7.length d7,.slice d6 a4.length d4]] rfl zq5 ?_;(with_reducible refine(impl_GluedOf.calls _ _ a7 _ _ a4 _ _ a7 _ _ a4 c1 b7 true _ ?side1 ?side2 ?side3 ?side4 ?side5 ?side6 ?side7 ?side8 o2.out).mono ?_);(case side1=> exact zq35);(case side2=> exact zq200);(case side3=> exact zq45);(case side4=> exact zq199);(case side5=> exact zq35);(case side6=> exact zq200);(case side7=> exact zq45);(case side8=> exact zq199);rintro e y9 ⟨n9,o0,rfl,b8,e0,hb⟩;refine⟨_,rfl,?_⟩;have f8:=zqm (Kd.R_elder' zq56 (Kd.R_base e0) hb);have g0:=zqm (Kd.S_mono (Kd.S_told (Kd.S_told (Kd.S_old zq89 hb) (Kd.S_base b8)) (Kd.R_base e0)) (fun _ h_=>h_.1));have e7:=zqm (Kd.Q_elder' zq54 (Kd.R_base e0) hb);have i2:=zqm (Kd.S_mono (Kd.S_told (Kd.S_told (Kd.S_old zq43 hb) (Kd.S_base b8)) (Kd.R_base e0)) (fun _ h_=>h_.1));have g1:=zqm (Kd.R_elder' zq32 (Kd.R_base e0) hb);have d5:=zqm (Kd.S_lower (Kd.S_new' (Kd.S_new' (Kd.S_new' (Kd.S_new' (Kd.S_new' b8 (Kd.R_lt zq56)) (Kd.S_lt zq89)) (Kd.Q_lt zq54)) (Kd.S_lt zq43)) (Kd.R_lt zq32)) (below_size zq20));have c6:=zqm (Kd.R_lower (Kd.R_new' (Kd.R_new' (Kd.R_new' e0 (Kd.R_lt zq56)) (Kd.Q_lt zq54)) (Kd.R_lt zq32)) (below_size zq20));replace a1:=zqm (blk_below (g:=a5) (o:= .cells #[.slice b9 b3.length b6,.slice b4 a6.length b1] 26 (0,0)) zq150 hb);replace a2:=zqm (blk_below (g:=a0) (o:= .cells #[.slice d8 a7.length d7,.slice d6 a4.length d4] 26 (0,0)) (by refine zqe ?_;refine blk_put (cs:= #[.slice d8 a7.length d7,.slice none 0 0]) ?_ 1 _ rfl;refine zqe ?_;refine blk_put (cs:= #[.slice none 0 0,.slice none 0 0]) ?_ 0 _ rfl;refine zqe ?_;exact a2.out) hb);replace HB:=zqm (below_step zq20 hb);clear HO_4 HO_1006000 HO_1006001 b2 a9;have HO_4:=f8;have HO_1006000:=g0;have HO_1006001:=e7;have b2:=i2;have a9:=g1;clear f8 g0 e7 i2 g1 hb b8 e0)|((with_reducible refine gate_dst (N:=8) rfl ?_);(try(refine gate_guard (by rfl) ?_;dsimp only));refine box_event ?hg (N:=8) ?hd (cs:= #[.slice none 0 0,.slice none 0 0]) (t:=26) ?hr ?_;(case hd=>rfl);(case hg=>rfl);(case hr=> exact zq9);intro a3 hg j5 hbox hb;replace HO_4:=zqm (Kd.R_below (zqfR HO_4.out) hb);replace HO_1006000:=zqm (Kd.S_below (zqfS HO_1006000.out) hb);replace HO_1006001:=zqm (Kd.Q_below (zqfQ HO_1006001.out) hb);replace b2:=zqm (Kd.S_below (zqfS b2.out) hb);replace a9:=zqm (Kd.R_below (zqfR a9.out) hb);replace d5:=zqm (Kd.S_below (zqfS d5.out) hb);replace c6:=zqm (Kd.R_below (zqfR c6.out) hb);have h1:=zqm (blk_below (g:=a5) (o:= .cells #[.slice b9 b3.length b6,.slice b4 a6.length b1] 26 (0,0)) (zqe a1.out) hb);have i4:=zqm (blk_below (g:=a0) (o:= .cells #[.slice d8 a7.length d7,.slice d6 a4.length d4] 26 (0,0)) (zqe a2.out) hb);have i5:=zqm (below_step zq20 hb);have a8:=zqm (hbox);have l4:=zqm ((by rw [hg];exact(below_size zq20):w.heap.size≤a3));have f3:=zqm ((by rw [hg];exact(below_size zq20):w.heap.size≤a3));have e2:=zqm ((by rw [hg];exact Nat.ne_of_lt (blk_lt (g:=a5) (o:= .cells #[.slice b9 b3.length b6,.slice b4 a6.length b1] 26 (0,0)) (zqe a1.out)):a5≠a3));have g5:=zqm ((by rw [hg];exact Nat.ne_of_gt (blk_lt (g:=a5) (o:= .cells #[.slice b9 b3.length b6,.slice b4 a6.length b1] 26 (0,0)) (zqe a1.out)):a3≠a5));have e3:=zqm ((by rw [hg];exact Nat.ne_of_lt (blk_lt (g:=a0) (o:= .cells #[.slice d8 a7.length d7,.slice d6 a4.length d4] 26 (0,0)) (zqe a2.out)):a0≠a3));have g6:=zqm ((by rw [hg];exact Nat.ne_of_gt (blk_lt (g:=a0) (o:= .cells #[.slice d8 a7.length d7,.slice d6 a4.length d4] 26 (0,0)) (zqe a2.out)):a3≠a0));clear a1 a2 HB;have a1:=h1;have a2:=i4;have HB:=i5;clear h1 i4 i5 hb hbox hg;obtain⟨f5,f6,q3⟩:=Kd.S_slice d5.out;subst q3;have w4:=g5.out;have w7:=e2.out;have w5:=g6.out;have x0:=e3.out;have s8:j5.cell? ⟨a3,0,none⟩=some (.slice none 0 0):=(blk_cell a8.out 0).trans rfl;have s9:j5.cell? ⟨a3,1,none⟩=some (.slice none 0 0):=(blk_cell a8.out 1).trans rfl;have t8:=blk_frozen a8.out 0;have t9:=blk_frozen a8.out 1;obtain⟨f2,f4,q4⟩:=Kd.R_slice c6.out;subst q4)|((with_reducible refine gate_callee (f:=38) rfl ?_);refine goesL_ (some 46) rfl rfl Try.func38 zqk rfl #[.slice f1 b5.length e6] rfl zq5 ?_;(with_reducible refine(laws_ascend.calls k1 _ _ b5 true _ ?side1 ?side2 o3.out).mono ?_);(case side1=>refine(Kd.R_reads' (e:=3) (base:=w.heap.size) (ok:=fun k_=>((some k_≠(.slice b4 a6.length b1:Value).ownBlock∧some k_≠(.slice d6 a4.length d4:Value).ownBlock)∧some k_≠(.slice f2 b7.length f4:Value).ownBlock)) (n:=b5.length) (c:=e6) ?_).2.2;exact zq93);(case side2=>exact(Kd.R_reads' HO_4.out).2.1);rintro e w' ⟨rfl,⟨nd,rfl⟩⟩;refine⟨_,rfl,?_⟩;have t0:j5.cell? ⟨a5,0,none⟩=some (.slice b9 b3.length b6):=(blk_cell a1.out 0).trans rfl;have t1:j5.cell? ⟨a5,1,none⟩=some (.slice b4 a6.length b1):=(blk_cell a1.out 1).trans rfl;have u0:=blk_frozen a1.out 0;have u1:=blk_frozen a1.out 1)|(go_at_call 15;(with_reducible refine(impl_BooleanOk.calls _ _ b3 _ _ a6 true _ ?side1 ?side2 ?side3 ?side4 i1.out).mono ?_);(case side1=>refine(Kd.S_reads' (e:=24) (base:=w.heap.size) (ok:=fun k_=>(((((some k_≠(.slice f1 b5.length e6:Value).ownBlock∧some k_≠(.slice b4 a6.length b1:Value).ownBlock)∧some k_≠(.slice d8 a7.length d7:Value).ownBlock)∧some k_≠(.slice d6 a4.length d4:Value).ownBlock)∧some k_≠(.slice f5 c1.length f6:Value).ownBlock)∧some k_≠(.slice f2 b7.length f4:Value).ownBlock)) (n:=b3.length) (c:=b6) ?_).2.2;exact zq91);(case side2=> exact zq181);(case side3=>refine(Kd.Q_reads' (e:=3) (base:=w.heap.size) (ok:=fun k_=>((some k_≠(.slice f1 b5.length e6:Value).ownBlock∧some k_≠(.slice d6 a4.length d4:Value).ownBlock)∧some k_≠(.slice f2 b7.length f4:Value).ownBlock)) (n:=a6.length) (c:=b1) ?_).2.2;exact zq87);(case side4=> exact zq201);rintro e p0 ⟨rfl,hb⟩;replace HO_4:=zqm (Kd.R_below zq93 hb);replace HO_1006000:=zqm (Kd.S_below zq91 hb);replace HO_1006001:=zqm (Kd.Q_below zq87 hb);replace b2:=zqm (Kd.S_below (by refine zqfS ?_;exact(Kd.S_mono (Kd.S_far (p:=⟨a3,1,none⟩) (Kd.S_far (p:=⟨a3,0,none⟩) (Kd.S_types b2.out a8.out (by decide)) (fun _ hk=>hk.2) (.slice f5 c1.length f6)) (fun _ hk=>hk.2) (.slice f2 b7.length f4)) (fun _ h_=>h_.1))) hb);replace a9:=zqm (Kd.R_below (by refine zqfR ?_;exact(Kd.R_mono (Kd.R_far (p:=⟨a3,1,none⟩) (Kd.R_far (p:=⟨a3,0,none⟩) (Kd.R_types a9.out a8.out (by decide)) (fun _ hk=>hk.2) (.slice f5 c1.length f6)) (fun _ hk=>hk.2) (.slice f2 b7.length f4)) (fun _ h_=>h_.1))) hb);replace d5:=zqm (Kd.S_below (by refine zqfS ?_;exact(Kd.S_mono (Kd.S_far (p:=⟨a3,1,none⟩) (Kd.S_far (p:=⟨a3,0,none⟩) (Kd.S_types d5.out a8.out (by decide)) (fun _ hk=>hk.2) (.slice f5 c1.length f6)) (fun _ hk=>hk.2) (.slice f2 b7.length f4)) (fun _ h_=>h_.1))) hb);replace c6:=zqm (Kd.R_below (by refine zqfR ?_;exact(Kd.R_mono (Kd.R_far (p:=⟨a3,1,none⟩) (Kd.R_far (p:=⟨a3,0,none⟩) (Kd.R_types c6.out a8.out (by decide)) (fun _ hk=>hk.2) (.slice f5 c1.length f6)) (fun _ hk=>hk.2) (.slice f2 b7.length f4)) (fun _ h_=>h_.1))) hb);replace a1:=zqm (blk_below (g:=a5) (o:= .cells #[.slice b9 b3.length b6,.slice b4 a6.length b1] 26 (0,0)) zq151 hb);replace a2:=zqm (blk_below (g:=a0) (o:= .cells #[.slice d8 a7.length d7,.slice d6 a4.length d4] 26 (0,0)) zq152 hb);replace a8:=zqm (blk_below (g:=a3) (o:= .cells #[.slice f5 c1.length f6,.slice f2 b7.length f4] 26 (0,0)) (by refine zqe ?_;refine blk_put (cs:= #[.slice f5 c1.length f6,.slice none 0 0]) ?_ 1 _ rfl;refine zqe ?_;refine blk_put (cs:= #[.slice none 0 0,.slice none 0 0]) ?_ 0 _ rfl;refine zqe ?_;exact a8.out) hb);replace HB:=zqm (below_step zq21 hb);clear hb;have t2:p0.cell? ⟨a5,0,none⟩=some (.slice b9 b3.length b6):=(blk_cell a1.out 0).trans rfl;have t3:p0.cell? ⟨a5,1,none⟩=some (.slice b4 a6.length b1):=(blk_cell a1.out 1).trans rfl;have u2:=blk_frozen a1.out 0;have u3:=blk_frozen a1.out 1)|(go_at_call 21;(with_reducible refine(impl_AtomsOf.calls k1 _ _ b3 g3 _ ?side1 ?side2 u7.out).mono ?_);(case side1=> exact zq118);(case side2=> exact zq181);rintro e p1 ⟨x5,rfl,b8,hb⟩;have f8:=zqm (Kd.R_elder' (zqfR HO_4.out) (Kd.R_base b8) hb);replace HO_1006000:=zqm (Kd.S_elder' (zqfS HO_1006000.out) (Kd.R_base b8) hb);have e7:=zqm (Kd.Q_elder' (zqfQ HO_1006001.out) (Kd.R_base b8) hb);replace b2:=zqm (Kd.S_elder' (zqfS b2.out) (Kd.R_base b8) hb);have g1:=zqm (Kd.R_elder' (zqfR a9.out) (Kd.R_base b8) hb);replace d5:=zqm (Kd.S_elder' (zqfS d5.out) (Kd.R_base b8) hb);have g2:=zqm (Kd.R_elder' (zqfR c6.out) (Kd.R_base b8) hb);have g7:=zqm (Kd.R_lower (Kd.R_new' (Kd.R_new' (Kd.R_new' (Kd.R_new' b8 (Kd.R_lt (zqfR HO_4.out))) (Kd.Q_lt (zqfQ HO_1006001.out))) (Kd.R_lt (zqfR a9.out))) (Kd.R_lt (zqfR c6.out))) (below_size zq21));replace a1:=zqm (blk_below (g:=a5) (o:= .cells #[.slice b9 b3.length b6,.slice b4 a6.length b1] 26 (0,0)) (zqe a1.out) hb);replace a2:=zqm (blk_below (g:=a0) (o:= .cells #[.slice d8 a7.length d7,.slice d6 a4.length d4] 26 (0,0)) (zqe a2.out) hb);replace a8:=zqm (blk_below (g:=a3) (o:= .cells #[.slice f5 c1.length f6,.slice f2 b7.length f4] 26 (0,0)) (zqe a8.out) hb);replace HB:=zqm (below_step zq21 hb);clear HO_4 HO_1006001 a9 c6;have HO_4:=f8;have HO_1006001:=e7;have a9:=g1;have c6:=g2;clear f8 e7 g1 g2 hb b8;obtain⟨x8,y0,q5⟩:=Kd.R_slice g7.out;subst q5;have t4:p1.cell? ⟨a3,0,none⟩=some (.slice f5 c1.length f6):=(blk_cell a8.out 0).trans rfl;have t5:p1.cell? ⟨a3,1,none⟩=some (.slice f2 b7.length f4):=(blk_cell a8.out 1).trans rfl;have u4:=blk_frozen a8.out 0;have u5:=blk_frozen a8.out 1)|(go_at_call 49;(with_reducible refine(impl_StatesOf.calls _ _ c1 _ _ b7 n5 _ ?side1 ?side2 ?side3 ?side4 u9.out).mono ?_);(case side1=> exact zq127);(case side2=>exact(Kd.S_reads' d5.out).2.1);(case side3=> exact zq126);(case side4=>exact(Kd.R_reads' c6.out).2.1);rintro e z0 ⟨x6,rfl,b8,hb⟩;have f8:=zqm (Kd.R_elder' (zqfR HO_4.out) (Kd.R_base b8) hb);replace HO_1006000:=zqm (Kd.S_elder' (zqfS HO_1006000.out) (Kd.R_base b8) hb);have e7:=zqm (Kd.Q_elder' (zqfQ HO_1006001.out) (Kd.R_base b8) hb);replace b2:=zqm (Kd.S_elder' (zqfS b2.out) (Kd.R_base b8) hb);have g1:=zqm (Kd.R_elder' (zqfR a9.out) (Kd.R_base b8) hb);replace d5:=zqm (Kd.S_elder' (zqfS d5.out) (Kd.R_base b8) hb);have g2:=zqm (Kd.R_elder' (zqfR c6.out) (Kd.R_base b8) hb);have h1:=zqm (Kd.R_elder' (zqfR g7.out) (Kd.R_base b8) hb);have l5:=zqm (Kd.R_lower (Kd.R_new' (Kd.R_new' (Kd.R_new' (Kd.R_new' (Kd.R_new' b8 (Kd.R_lt (zqfR HO_4.out))) (Kd.Q_lt (zqfQ HO_1006001.out))) (Kd.R_lt (zqfR a9.out))) (Kd.R_lt (zqfR c6.out))) (Kd.R_lt (zqfR g7.out))) (below_size zq21));replace a1:=zqm (blk_below (g:=a5) (o:= .cells #[.slice b9 b3.length b6,.slice b4 a6.length b1] 26 (0,0)) (zqe a1.out) hb);replace a2:=zqm (blk_below (g:=a0) (o:= .cells #[.slice d8 a7.length d7,.slice d6 a4.length d4] 26 (0,0)) (zqe a2.out) hb);replace a8:=zqm (blk_below (g:=a3) (o:= .cells #[.slice f5 c1.length f6,.slice f2 b7.length f4] 26 (0,0)) (zqe a8.out) hb);replace HB:=zqm (below_step zq21 hb);clear HO_4 HO_1006001 a9 c6 g7;have HO_4:=f8;have HO_1006001:=e7;have a9:=g1;have c6:=g2;have g7:=h1;clear f8 e7 g1 g2 h1 hb b8;obtain⟨x9,y1,q6⟩:=Kd.R_slice l5.out;subst q6))
           go_ret
           exact⟨zq13,zq21⟩
          ·replace j2:=Bool.eq_false_iff.mpr j2;subst j2;rw [if_neg (show¬(false=true) by decide)] at H;exact absurd ((Option.some.inj H).trans hrt) (by decide)
         ·replace j1:=Bool.eq_false_iff.mpr j1;subst j1;rw [if_neg (show¬(false=true) by decide)] at H;exact absurd ((Option.some.inj H).trans hrt) (by decide)
        ·rw [if_neg g8] at H;have m3:((b5.length:Int)==(g3.length:Int))=false:=beq_eq_false_iff_ne.mpr g8;have m4:((b5.length:Int) !=(g3.length:Int))=true:=bne_iff_ne.mpr g8;(have m5:(b5.length==g3.length)=false:=by first|simpa using g8|(simp at g8 ⊢;omega));exact absurd ((Option.some.inj H).trans hrt) (by decide)
       ·replace j0:=Bool.eq_false_iff.mpr j0;subst j0;rw [if_neg (show¬(false=true) by decide)] at H
        by_cases h5:j3=true
        ·subst h5;rw [if_pos rfl] at H
         by_cases h6:j4=true
         ·subst h6;rw [if_pos rfl] at H;replace H:=Option.bind_eq_some_iff.mp H;obtain⟨n6,i6,H⟩:=H;(try dsimp only at H);have p3:=zqm i6;clear i6;obtain rfl:=Option.some.inj H
          go_wp2_with (first|((with_reducible refine gate_callee (f:=46) rfl ?_);refine goesL_ (some 36) rfl rfl Try.func46 zqk rfl #[.int .i64 2] rfl zq5 ?_;(with_reducible refine(impl_SetsOf.calls 2 a7 a4 true _ o1.out).mono ?_);rintro e y2 ⟨n7,n8,rfl,b8,e0,hb⟩;refine⟨_,rfl,?_⟩;have f8:=zqm (Kd.R_elder' (zqfR HO_4.out) (Kd.R_base e0) hb);have g0:=zqm (Kd.S_mono (Kd.S_told (Kd.S_told (Kd.S_old (zqfS HO_1006000.out) hb) (Kd.S_base b8)) (Kd.R_base e0)) (fun _ h_=>h_.1));have e7:=zqm (Kd.Q_elder' (zqfQ HO_1006001.out) (Kd.R_base e0) hb);have b2:=zqm (Kd.S_lower (Kd.S_new' (Kd.S_new' (Kd.S_new' b8 (Kd.R_lt (zqfR HO_4.out))) (Kd.S_lt (zqfS HO_1006000.out))) (Kd.Q_lt (zqfQ HO_1006001.out))) (below_size zq16));have a9:=zqm (Kd.R_lower (Kd.R_new' (Kd.R_new' e0 (Kd.R_lt (zqfR HO_4.out))) (Kd.Q_lt (zqfQ HO_1006001.out))) (below_size zq16));replace a1:=zqm (blk_below (g:=a5) (o:= .cells #[.slice b9 b3.length b6,.slice b4 a6.length b1] 26 (0,0)) (zqe a1.out) hb);replace HB:=zqm (below_step zq16 hb);clear HO_4 HO_1006000 HO_1006001;have HO_4:=f8;have HO_1006000:=g0;have HO_1006001:=e7;clear f8 g0 e7 hb b8 e0)|((with_reducible refine gate_dst (N:=6) rfl ?_);(try(refine gate_guard (by rfl) ?_;dsimp only));refine box_event ?hg (N:=6) ?hd (cs:= #[.slice none 0 0,.slice none 0 0]) (t:=26) ?hr ?_;(case hd=>rfl);(case hg=>rfl);(case hr=> exact zq9);intro a0 hg m0 hbox hb;replace HO_4:=zqm (Kd.R_below (zqfR HO_4.out) hb);replace HO_1006000:=zqm (Kd.S_below (zqfS HO_1006000.out) hb);replace HO_1006001:=zqm (Kd.Q_below (zqfQ HO_1006001.out) hb);replace b2:=zqm (Kd.S_below (zqfS b2.out) hb);replace a9:=zqm (Kd.R_below (zqfR a9.out) hb);have i3:=zqm (blk_below (g:=a5) (o:= .cells #[.slice b9 b3.length b6,.slice b4 a6.length b1] 26 (0,0)) (zqe a1.out) hb);have g2:=zqm (below_step zq16 hb);have a2:=zqm (hbox);have l3:=zqm ((by rw [hg];exact(below_size zq16):w.heap.size≤a0));have d2:=zqm ((by rw [hg];exact(below_size zq16):w.heap.size≤a0));have e1:=zqm ((by rw [hg];exact Nat.ne_of_lt (blk_lt (g:=a5) (o:= .cells #[.slice b9 b3.length b6,.slice b4 a6.length b1] 26 (0,0)) (zqe a1.out)):a5≠a0));have g4:=zqm ((by rw [hg];exact Nat.ne_of_gt (blk_lt (g:=a5) (o:= .cells #[.slice b9 b3.length b6,.slice b4 a6.length b1] 26 (0,0)) (zqe a1.out)):a0≠a5));clear a1 HB;have a1:=i3;have HB:=g2;clear i3 g2 hb hbox hg;obtain⟨d3,d1,m7⟩:=Kd.S_slice b2.out;subst m7;have v3:=g4.out;have v7:=e1.out;have q7:m0.cell? ⟨a0,0,none⟩=some (.slice none 0 0):=(blk_cell a2.out 0).trans rfl;have q8:m0.cell? ⟨a0,1,none⟩=some (.slice none 0 0):=(blk_cell a2.out 1).trans rfl;have r5:=blk_frozen a2.out 0;have r6:=blk_frozen a2.out 1;obtain⟨d0,c8,m8⟩:=Kd.R_slice a9.out;subst m8)|((with_reducible refine gate_callee (f:=47) rfl ?_);refine goesL_ (some 42) rfl rfl Try.func47 zqk rfl #[.agg #[.slice d3 a7.length d1,.slice d0 a4.length c8],.agg #[.slice d3 a7.length d1,.slice d0 a4.length c8]] rfl zq5 ?_;(with_reducible refine(impl_GluedOf.calls _ _ a7 _ _ a4 _ _ a7 _ _ a4 c1 b7 true _ ?side1 ?side2 ?side3 ?side4 ?side5 ?side6 ?side7 ?side8 o2.out).mono ?_);(case side1=> exact zq34);(case side2=> exact zq200);(case side3=> exact zq44);(case side4=> exact zq199);(case side5=> exact zq34);(case side6=> exact zq200);(case side7=> exact zq44);(case side8=> exact zq199);rintro e y3 ⟨n9,o0,rfl,b8,e0,hb⟩;refine⟨_,rfl,?_⟩;have f8:=zqm (Kd.R_elder' zq55 (Kd.R_base e0) hb);have g0:=zqm (Kd.S_mono (Kd.S_told (Kd.S_told (Kd.S_old zq88 hb) (Kd.S_base b8)) (Kd.R_base e0)) (fun _ h_=>h_.1));have e7:=zqm (Kd.Q_elder' zq53 (Kd.R_base e0) hb);have i2:=zqm (Kd.S_mono (Kd.S_told (Kd.S_told (Kd.S_old zq42 hb) (Kd.S_base b8)) (Kd.R_base e0)) (fun _ h_=>h_.1));have g1:=zqm (Kd.R_elder' zq31 (Kd.R_base e0) hb);have d5:=zqm (Kd.S_lower (Kd.S_new' (Kd.S_new' (Kd.S_new' (Kd.S_new' (Kd.S_new' b8 (Kd.R_lt zq55)) (Kd.S_lt zq88)) (Kd.Q_lt zq53)) (Kd.S_lt zq42)) (Kd.R_lt zq31)) (below_size zq20));have c6:=zqm (Kd.R_lower (Kd.R_new' (Kd.R_new' (Kd.R_new' e0 (Kd.R_lt zq55)) (Kd.Q_lt zq53)) (Kd.R_lt zq31)) (below_size zq20));replace a1:=zqm (blk_below (g:=a5) (o:= .cells #[.slice b9 b3.length b6,.slice b4 a6.length b1] 26 (0,0)) zq150 hb);replace a2:=zqm (blk_below (g:=a0) (o:= .cells #[.slice d3 a7.length d1,.slice d0 a4.length c8] 26 (0,0)) (by refine zqe ?_;refine blk_put (cs:= #[.slice d3 a7.length d1,.slice none 0 0]) ?_ 1 _ rfl;refine zqe ?_;refine blk_put (cs:= #[.slice none 0 0,.slice none 0 0]) ?_ 0 _ rfl;refine zqe ?_;exact a2.out) hb);replace HB:=zqm (below_step zq20 hb);clear HO_4 HO_1006000 HO_1006001 b2 a9;have HO_4:=f8;have HO_1006000:=g0;have HO_1006001:=e7;have b2:=i2;have a9:=g1;clear f8 g0 e7 i2 g1 hb b8 e0)|((with_reducible refine gate_dst (N:=8) rfl ?_);(try(refine gate_guard (by rfl) ?_;dsimp only));refine box_event ?hg (N:=8) ?hd (cs:= #[.slice none 0 0,.slice none 0 0]) (t:=26) ?hr ?_;(case hd=>rfl);(case hg=>rfl);(case hr=> exact zq9);intro a3 hg i0 hbox hb;replace HO_4:=zqm (Kd.R_below (zqfR HO_4.out) hb);replace HO_1006000:=zqm (Kd.S_below (zqfS HO_1006000.out) hb);replace HO_1006001:=zqm (Kd.Q_below (zqfQ HO_1006001.out) hb);replace b2:=zqm (Kd.S_below (zqfS b2.out) hb);replace a9:=zqm (Kd.R_below (zqfR a9.out) hb);replace d5:=zqm (Kd.S_below (zqfS d5.out) hb);replace c6:=zqm (Kd.R_below (zqfR c6.out) hb);have h1:=zqm (blk_below (g:=a5) (o:= .cells #[.slice b9 b3.length b6,.slice b4 a6.length b1] 26 (0,0)) (zqe a1.out) hb);have i4:=zqm (blk_below (g:=a0) (o:= .cells #[.slice d3 a7.length d1,.slice d0 a4.length c8] 26 (0,0)) (zqe a2.out) hb);have i5:=zqm (below_step zq20 hb);have a8:=zqm (hbox);have l4:=zqm ((by rw [hg];exact(below_size zq20):w.heap.size≤a3));have f3:=zqm ((by rw [hg];exact(below_size zq20):w.heap.size≤a3));have e2:=zqm ((by rw [hg];exact Nat.ne_of_lt (blk_lt (g:=a5) (o:= .cells #[.slice b9 b3.length b6,.slice b4 a6.length b1] 26 (0,0)) (zqe a1.out)):a5≠a3));have g5:=zqm ((by rw [hg];exact Nat.ne_of_gt (blk_lt (g:=a5) (o:= .cells #[.slice b9 b3.length b6,.slice b4 a6.length b1] 26 (0,0)) (zqe a1.out)):a3≠a5));have e3:=zqm ((by rw [hg];exact Nat.ne_of_lt (blk_lt (g:=a0) (o:= .cells #[.slice d3 a7.length d1,.slice d0 a4.length c8] 26 (0,0)) (zqe a2.out)):a0≠a3));have g6:=zqm ((by rw [hg];exact Nat.ne_of_gt (blk_lt (g:=a0) (o:= .cells #[.slice d3 a7.length d1,.slice d0 a4.length c8] 26 (0,0)) (zqe a2.out)):a3≠a0));clear a1 a2 HB;have a1:=h1;have a2:=i4;have HB:=i5;clear h1 i4 i5 hb hbox hg;obtain⟨e8,e9,m9⟩:=Kd.S_slice d5.out;subst m9;have v4:=g5.out;have v8:=e2.out;have v6:=g6.out;have v9:=e3.out;have q9:i0.cell? ⟨a3,0,none⟩=some (.slice none 0 0):=(blk_cell a8.out 0).trans rfl;have r0:i0.cell? ⟨a3,1,none⟩=some (.slice none 0 0):=(blk_cell a8.out 1).trans rfl;have r7:=blk_frozen a8.out 0;have r8:=blk_frozen a8.out 1;obtain⟨e4,e5,n0⟩:=Kd.R_slice c6.out;subst n0)|((with_reducible refine gate_callee (f:=38) rfl ?_);refine goesL_ (some 46) rfl rfl Try.func38 zqk rfl #[.slice f1 b5.length e6] rfl zq5 ?_;(with_reducible refine(laws_ascend.calls k1 _ _ b5 true _ ?side1 ?side2 o3.out).mono ?_);(case side1=>refine(Kd.R_reads' (e:=3) (base:=w.heap.size) (ok:=fun k_=>((some k_≠(.slice b4 a6.length b1:Value).ownBlock∧some k_≠(.slice d0 a4.length c8:Value).ownBlock)∧some k_≠(.slice e4 b7.length e5:Value).ownBlock)) (n:=b5.length) (c:=e6) ?_).2.2;exact zq92);(case side2=>exact(Kd.R_reads' HO_4.out).2.1);rintro e w' ⟨rfl,⟨nd,rfl⟩⟩;refine⟨_,rfl,?_⟩;have r1:i0.cell? ⟨a5,0,none⟩=some (.slice b9 b3.length b6):=(blk_cell a1.out 0).trans rfl;have r2:i0.cell? ⟨a5,1,none⟩=some (.slice b4 a6.length b1):=(blk_cell a1.out 1).trans rfl;have r9:=blk_frozen a1.out 0;have s3:=blk_frozen a1.out 1)|(go_at_call 15;(with_reducible refine(impl_BooleanOk.calls _ _ b3 _ _ a6 false _ ?side1 ?side2 ?side3 ?side4 i1.out).mono ?_);(case side1=>refine(Kd.S_reads' (e:=24) (base:=w.heap.size) (ok:=fun k_=>(((((some k_≠(.slice f1 b5.length e6:Value).ownBlock∧some k_≠(.slice b4 a6.length b1:Value).ownBlock)∧some k_≠(.slice d3 a7.length d1:Value).ownBlock)∧some k_≠(.slice d0 a4.length c8:Value).ownBlock)∧some k_≠(.slice e8 c1.length e9:Value).ownBlock)∧some k_≠(.slice e4 b7.length e5:Value).ownBlock)) (n:=b3.length) (c:=b6) ?_).2.2;exact zq90);(case side2=> exact zq181);(case side3=>refine(Kd.Q_reads' (e:=3) (base:=w.heap.size) (ok:=fun k_=>((some k_≠(.slice f1 b5.length e6:Value).ownBlock∧some k_≠(.slice d0 a4.length c8:Value).ownBlock)∧some k_≠(.slice e4 b7.length e5:Value).ownBlock)) (n:=a6.length) (c:=b1) ?_).2.2;exact zq86);(case side4=> exact zq201);rintro e m1 ⟨rfl,hb⟩;replace HO_4:=zqm (Kd.R_below zq92 hb);replace HO_1006000:=zqm (Kd.S_below zq90 hb);replace HO_1006001:=zqm (Kd.Q_below zq86 hb);replace b2:=zqm (Kd.S_below (by refine zqfS ?_;exact(Kd.S_mono (Kd.S_far (p:=⟨a3,1,none⟩) (Kd.S_far (p:=⟨a3,0,none⟩) (Kd.S_types b2.out a8.out (by decide)) (fun _ hk=>hk.2) (.slice e8 c1.length e9)) (fun _ hk=>hk.2) (.slice e4 b7.length e5)) (fun _ h_=>h_.1))) hb);replace a9:=zqm (Kd.R_below (by refine zqfR ?_;exact(Kd.R_mono (Kd.R_far (p:=⟨a3,1,none⟩) (Kd.R_far (p:=⟨a3,0,none⟩) (Kd.R_types a9.out a8.out (by decide)) (fun _ hk=>hk.2) (.slice e8 c1.length e9)) (fun _ hk=>hk.2) (.slice e4 b7.length e5)) (fun _ h_=>h_.1))) hb);replace d5:=zqm (Kd.S_below (by refine zqfS ?_;exact(Kd.S_mono (Kd.S_far (p:=⟨a3,1,none⟩) (Kd.S_far (p:=⟨a3,0,none⟩) (Kd.S_types d5.out a8.out (by decide)) (fun _ hk=>hk.2) (.slice e8 c1.length e9)) (fun _ hk=>hk.2) (.slice e4 b7.length e5)) (fun _ h_=>h_.1))) hb);replace c6:=zqm (Kd.R_below (by refine zqfR ?_;exact(Kd.R_mono (Kd.R_far (p:=⟨a3,1,none⟩) (Kd.R_far (p:=⟨a3,0,none⟩) (Kd.R_types c6.out a8.out (by decide)) (fun _ hk=>hk.2) (.slice e8 c1.length e9)) (fun _ hk=>hk.2) (.slice e4 b7.length e5)) (fun _ h_=>h_.1))) hb);replace a1:=zqm (blk_below (g:=a5) (o:= .cells #[.slice b9 b3.length b6,.slice b4 a6.length b1] 26 (0,0)) zq151 hb);replace a2:=zqm (blk_below (g:=a0) (o:= .cells #[.slice d3 a7.length d1,.slice d0 a4.length c8] 26 (0,0)) zq152 hb);replace a8:=zqm (blk_below (g:=a3) (o:= .cells #[.slice e8 c1.length e9,.slice e4 b7.length e5] 26 (0,0)) (by refine zqe ?_;refine blk_put (cs:= #[.slice e8 c1.length e9,.slice none 0 0]) ?_ 1 _ rfl;refine zqe ?_;refine blk_put (cs:= #[.slice none 0 0,.slice none 0 0]) ?_ 0 _ rfl;refine zqe ?_;exact a8.out) hb);replace HB:=zqm (below_step zq21 hb);clear hb;have r3:m1.cell? ⟨a3,0,none⟩=some (.slice e8 c1.length e9):=(blk_cell a8.out 0).trans rfl;have r4:m1.cell? ⟨a3,1,none⟩=some (.slice e4 b7.length e5):=(blk_cell a8.out 1).trans rfl;have s4:=blk_frozen a8.out 0;have s5:=blk_frozen a8.out 1)|(go_at_call 49;(with_reducible refine(impl_StatesOf.calls _ _ c1 _ _ b7 n6 _ ?side1 ?side2 ?side3 ?side4 p3.out).mono ?_);(case side1=> exact zq127);(case side2=>exact(Kd.S_reads' d5.out).2.1);(case side3=> exact zq126);(case side4=>exact(Kd.R_reads' c6.out).2.1);rintro e y4 ⟨x7,rfl,b8,hb⟩;have f8:=zqm (Kd.R_elder' (zqfR HO_4.out) (Kd.R_base b8) hb);replace HO_1006000:=zqm (Kd.S_elder' (zqfS HO_1006000.out) (Kd.R_base b8) hb);have e7:=zqm (Kd.Q_elder' (zqfQ HO_1006001.out) (Kd.R_base b8) hb);replace b2:=zqm (Kd.S_elder' (zqfS b2.out) (Kd.R_base b8) hb);have g1:=zqm (Kd.R_elder' (zqfR a9.out) (Kd.R_base b8) hb);replace d5:=zqm (Kd.S_elder' (zqfS d5.out) (Kd.R_base b8) hb);have g2:=zqm (Kd.R_elder' (zqfR c6.out) (Kd.R_base b8) hb);have l6:=zqm (Kd.R_lower (Kd.R_new' (Kd.R_new' (Kd.R_new' (Kd.R_new' b8 (Kd.R_lt (zqfR HO_4.out))) (Kd.Q_lt (zqfQ HO_1006001.out))) (Kd.R_lt (zqfR a9.out))) (Kd.R_lt (zqfR c6.out))) (below_size zq21));replace a1:=zqm (blk_below (g:=a5) (o:= .cells #[.slice b9 b3.length b6,.slice b4 a6.length b1] 26 (0,0)) (zqe a1.out) hb);replace a2:=zqm (blk_below (g:=a0) (o:= .cells #[.slice d3 a7.length d1,.slice d0 a4.length c8] 26 (0,0)) (zqe a2.out) hb);replace a8:=zqm (blk_below (g:=a3) (o:= .cells #[.slice e8 c1.length e9,.slice e4 b7.length e5] 26 (0,0)) (zqe a8.out) hb);replace HB:=zqm (below_step zq21 hb);clear HO_4 HO_1006001 a9 c6;have HO_4:=f8;have HO_1006001:=e7;have a9:=g1;have c6:=g2;clear f8 e7 g1 g2 hb b8;obtain⟨w0,w2,n1⟩:=Kd.R_slice l6.out;subst n1))
          go_ret
          exact⟨zq13,zq21⟩
         ·replace h6:=Bool.eq_false_iff.mpr h6;subst h6;rw [if_neg (show¬(false=true) by decide)] at H;exact absurd ((Option.some.inj H).trans hrt) (by decide)
        ·replace h5:=Bool.eq_false_iff.mpr h5;subst h5;rw [if_neg (show¬(false=true) by decide)] at H;exact absurd ((Option.some.inj H).trans hrt) (by decide)
      ·replace i9:=Bool.eq_false_iff.mpr i9;subst i9;rw [if_neg (show¬(false=true) by decide)] at H;exact absurd ((Option.some.inj H).trans hrt) (by decide)
  ·replace c7:=Bool.eq_false_iff.mpr c7;subst c7;rw [if_neg (show¬(false=true) by decide)] at H;exact absurd ((Option.some.inj H).trans hrt) (by decide)
def laws_FnStatesOf.Pure : Prop := ∀ (l0 : List Int), l0.length ≤ maxLen → l0.length * 1 ≤ 140737488351232 → (∀ x ∈ l0, (Lit.int .u8 x).wf = true) → ∃ k, laws_FnStatesOf.f k l0 = some true
theorem laws_FnStatesOf.walk (P : laws_FnStatesOf.Pure) (a0 : Option Addr) (len0 cap0 : Nat) (z0 : List Int) (w : World) (w0 : (a0 = none ∧ len0 = 0 ∧ cap0 = 0 ∧ z0 = []) ∨ ∃ x, a0 = some x ∧ len0 ≤ cap0 ∧ cap0 ≤ maxLen ∧ z0.length = cap0 ∧ (∀ i, i < z0.length → w.cell? (x.add i) = some (.int .u8 (z0.getD i 0))) ∧ ∀ n ∈ z0, (Lit.int .u8 n).wf = true) (y0 : len0 * 1 ≤ 140737488351232) :
  Calls Try.prog 9 #[.slice a0 len0 cap0] w fun e w' => e = .returned (.bool true) ∧ Below w.heap.size w w' := by
 obtain ⟨l0, rfl, hr0, hm0, hw0, hc0⟩ := ReadsInt.ofRowC w0
 obtain ⟨k, h⟩ := P l0 hm0 y0 hw0
 refine (laws_FnStatesOf.calls k _ _ l0 true rfl w (Kd.C_of_reads (d := (0 : Int)) (h1 := fun _ => rfl) hr0) hc0 h).mono ?_
 rintro e w' ⟨rfl, hd⟩
 exact ⟨rfl, hd⟩
end
end Go.Proofs.Ytcbjpdaogicibaa.Print
end
section
namespace Go.Proofs.Ytcbjpdaogicibaa.Print
open Go.RowKit Go.Proofs.YtcbjpdaogicibaaW.PrintWords Go.Proofs.YtcbjpdaogicibaaW.PrintLast Go.Proofs.YtcbjpdaogicibaaW.PrintMore
open Oml
section
section
variable {U : List (List Int)} {N : List Int} (L : Logic U N)
theorem fin_inj {x y : Fin U.length} : (((x.1 : Nat) : Int) = ((y.1 : Nat) : Int)) ↔ x = y := by
 constructor
 ·intro h; exact Fin.ext (by omega)
 ·intro h; rw [h]
theorem fin_beq (x y : Fin U.length) : (((x.1 : Nat) : Int) == ((y.1 : Nat) : Int)) = decide (x = y) := by
 rw [Bool.eq_iff_iff, beq_iff_eq, decide_eq_true_eq]; exact fin_inj
theorem and_fin (x y : Fin U.length) : andI U x.1 y.1 = (((L.ol.meet x y).1 : Nat) : Int) := by
 show mI U ((x.1:Nat):Int).toNat ((y.1:Nat):Int).toNat=_
 unfold mI;rw [Int.toNat_natCast,Int.toNat_natCast,L.mt_eq];rfl
theorem or_fin (x y : Fin U.length) : orI U x.1 y.1 = (((L.ol.join x y).1 : Nat) : Int) := by
 show jI U ((x.1:Nat):Int).toNat ((y.1:Nat):Int).toNat=_
 unfold jI;rw [Int.toNat_natCast,Int.toNat_natCast,L.jn_eq];rfl
theorem not_fin (x : Fin U.length) : notI N x.1 = (((L.ol.neg x).1 : Nat) : Int) := by
 show at1 N ((x.1 : Nat) : Int).toNat = _
 rw [Int.toNat_natCast, L.ng_eq]; rfl
theorem no_fin : noI U = (((L.ol.bot).1 : Nat) : Int) := by
 unfold noI; rw [L.no_eq]; rfl
theorem yes_fin : yesI U N = (((L.ol.top).1 : Nat) : Int) := by
 unfold yesI; rw [no_fin L, not_fin L]; rfl
theorem le_fin (x y : Fin U.length) : leI U x.1 y.1 = true ↔ L.ol.le x y := by
 show leB U ((x.1:Nat):Int).toNat ((y.1:Nat):Int).toNat=true↔_
 rw [Int.toNat_natCast,Int.toNat_natCast];rfl
theorem allN_fin {n : Nat} {p : Nat → Bool} : allN n p = true ↔ ∀ x : Fin n, p x.1 = true := by
 rw [allN_iff]
 exact ⟨fun h x => h x.1 x.2, fun h i hi => h ⟨i, hi⟩⟩
end
end
section
def stS (U : List (List Int)) (N : List Int) (s : Nat) : Bool := s.testBit (yesI U N).toNat && allN U.length fun a => (s.testBit a != s.testBit (notI N a).toNat) && allN a fun b => !leI U a (notI N b) || (!(s.testBit a && s.testBit b) && (s.testBit (orI U a b).toNat == (s.testBit a || s.testBit b)))
section
variable {U : List (List Int)} {N : List Int} (L : Logic U N)
theorem stT_fin (s : Nat) (x y : Fin U.length) : stT U N s x.1 y.1 = true ↔ s.testBit (L.ol.neg x).1 = (!s.testBit x.1) ∧ (L.ol.le x (L.ol.neg y) → s.testBit (L.ol.join x y).1 = (s.testBit x.1 || s.testBit y.1) ∧ (s.testBit x.1 && s.testBit y.1) = false) := by
 unfold stT
 rw [not_fin L,not_fin L,or_fin L]
 simp only [Int.toNat_natCast]
 have hle:leI U ((x.1:Nat):Int) (((L.ol.neg y).1:Nat):Int)=false↔ ¬L.ol.le x (L.ol.neg y):=by
  rw [← le_fin L,Bool.not_eq_true]
 generalize s.testBit (L.ol.neg x).1=n
 generalize s.testBit (L.ol.join x y).1=z
 generalize s.testBit x.1=p
 generalize s.testBit y.1=q
 by_cases h:L.ol.le x (L.ol.neg y)
 ·have h2: ¬leI U ((x.1:Nat):Int) (((L.ol.neg y).1:Nat):Int)=false:=fun e=>hle.1 e h
  rw [if_neg h2]
  cases n <;> cases z <;> cases p <;> cases q <;> simp [h]
 ·rw [if_pos (hle.2 h)]
  cases n <;> cases p <;> simp [h]
theorem stB_iff (s : Nat) : stB U N s = true ↔ L.ol.State (fun x : Fin U.length => s.testBit x.1) := by
 unfold stB
 rw [Bool.and_eq_true,yes_fin L,Int.toNat_natCast,allN_fin]
 constructor
 ·rintro ⟨h1,h2⟩
  have h3: ∀x y:Fin U.length,stT U N s x.1 y.1=true:=fun x y=>allN_fin.1 (h2 x) y
  exact { top:=h1,neg:=fun a=>((stT_fin L s a a).1 (h3 a a)).1,join:=fun a b h=>((stT_fin L s a b).1 (h3 a b)).2 h }
 ·intro S
  exact⟨S.top,fun x=>allN_fin.2 fun y=>(stT_fin L s x y).2 ⟨S.neg x,S.join x y⟩⟩
theorem stS_iff (s : Nat) : stS U N s = true ↔ L.ol.State (fun x : Fin U.length => s.testBit x.1) := by
 unfold stS
 rw [Bool.and_eq_true,yes_fin L,Int.toNat_natCast,allN_fin]
 have key: ∀x y:Fin U.length,(!leI U ((x.1:Nat):Int) (notI N ((y.1:Nat):Int))||(!(s.testBit x.1 && s.testBit y.1) && (s.testBit (orI U ((x.1:Nat):Int) ((y.1:Nat):Int)).toNat==(s.testBit x.1||s.testBit y.1))))=true↔(L.ol.le x (L.ol.neg y)→s.testBit (L.ol.join x y).1=(s.testBit x.1||s.testBit y.1)∧(s.testBit x.1 && s.testBit y.1)=false):=by
  intro x y
  rw [not_fin L,or_fin L,Int.toNat_natCast,← le_fin L]
  generalize s.testBit (L.ol.join x y).1=z
  generalize s.testBit x.1=p
  generalize s.testBit y.1=q
  generalize leI U ((x.1:Nat):Int) (((L.ol.neg y).1:Nat):Int)=le
  cases le <;> cases z <;> cases p <;> cases q <;> simp
 have neg: ∀x:Fin U.length,(s.testBit x.1 !=s.testBit (notI N ((x.1:Nat):Int)).toNat)=true↔s.testBit (L.ol.neg x).1=(!s.testBit x.1):=by
  intro x
  rw [not_fin L,Int.toNat_natCast]
  generalize s.testBit (L.ol.neg x).1=n
  generalize s.testBit x.1=p
  cases n <;> cases p <;> simp
 constructor
 ·rintro ⟨h1,h2⟩
  have hn: ∀x:Fin U.length,s.testBit (L.ol.neg x).1=(!s.testBit x.1):=fun x=>(neg x).1 (Bool.and_eq_true_iff.1 (h2 x)).1
  have hb:s.testBit (L.ol.bot).1=false:=by
   have:=hn L.ol.top
   rw [L.ol.neg_top,h1] at this
   exact this
  have hj: ∀x y:Fin U.length,y.1<x.1→L.ol.le x (L.ol.neg y)→s.testBit (L.ol.join x y).1=(s.testBit x.1||s.testBit y.1)∧(s.testBit x.1 && s.testBit y.1)=false:=fun x y hlt=>(key x y).1 (allN_iff.1 (Bool.and_eq_true_iff.1 (h2 x)).2 y.1 hlt)
  refine { top:=h1,neg:=hn,join:=fun x y h=>?_ }
  rcases Nat.lt_trichotomy y.1 x.1 with hlt|heq|hgt
  ·exact hj x y hlt h
  ·obtain rfl:y=x:=Fin.ext heq
   have h3:y=L.ol.bot:=by
    have:=L.ol.meet_neg y
    rwa [(L.ol.meet_eq_l y (L.ol.neg y)).2 h] at this
   show s.testBit (L.ol.join y y).1=(s.testBit y.1||s.testBit y.1)∧(s.testBit y.1 && s.testBit y.1)=false
   rw [L.ol.join_self,h3,hb]
   exact⟨rfl,rfl⟩
  ·have h':L.ol.le y (L.ol.neg x):=by
    have:=L.ol.neg_anti _ _ h
    rwa [L.ol.neg_neg] at this
   obtain⟨e1,e2⟩:=hj y x hgt h'
   show s.testBit (L.ol.join x y).1=(s.testBit x.1||s.testBit y.1)∧(s.testBit x.1 && s.testBit y.1)=false
   rw [L.ol.join_comm,e1,Bool.or_comm,Bool.and_comm]
   exact⟨rfl,e2⟩
 ·intro S
  refine⟨S.top,fun x=>?_⟩
  rw [Bool.and_eq_true,neg x,allN_iff]
  refine⟨S.neg x,fun b hb=>?_⟩
  exact(key x ⟨b,by have:=x.2;omega⟩).2 (S.join x _)
include L in
theorem stS_eq (s : Nat) : stS U N s = stB U N s := by rw [Bool.eq_iff_iff, stS_iff L, stB_iff L]
end
end
section
def Best (n : Nat) (lb : Nat → Bool) (le : Nat → Nat → Bool) (i : Nat) (x : Int) : Prop :=
 (x= -1∧ ∀j,j<i→lb j=false)∨ ∃c:Nat,x=c∧c<i∧lb c=true∧ ∀j,j<i→lb j=true→(∀d,d<n→lb d=true→le d j=true)→j=c
theorem Best.zero {n : Nat} {lb : Nat → Bool} {le : Nat → Nat → Bool} : Best n lb le 0 (-1) := .inl ⟨rfl, fun _ h => absurd h (Nat.not_lt_zero _)⟩
theorem Best.skip {n i : Nat} {lb : Nat → Bool} {le : Nat → Nat → Bool} {x : Int} (h : Best n lb le i x) (hi : lb i = false) : Best n lb le (i + 1) x := by
 rcases h with ⟨h1,h2⟩|⟨c,h1,h2,h3,h4⟩
 ·refine .inl ⟨h1,fun j hj=>?_⟩
  rcases Nat.lt_or_ge j i with h|h
  ·exact h2 j h
  ·obtain rfl:j=i:=by omega
   exact hi
 ·refine .inr ⟨c,h1,by omega,h3,fun j hj k1 k2=>?_⟩
  rcases Nat.lt_or_ge j i with h|h
  ·exact h4 j h k1 k2
  ·obtain rfl:j=i:=by omega
   rw [hi] at k1;exact absurd k1 (by simp)
theorem Best.first {n i : Nat} {lb : Nat → Bool} {le : Nat → Nat → Bool} (h : Best n lb le i (-1)) (hi : lb i = true) : Best n lb le (i + 1) (i : Int) := by
 rcases h with ⟨h1,h2⟩|⟨c,h1,h2,h3,h4⟩
 ·refine .inr ⟨i,rfl,by omega,hi,fun j hj k1 _=>?_⟩
  rcases Nat.lt_or_ge j i with h|h
  ·rw [h2 j h] at k1;exact absurd k1 (by simp)
  ·omega
 ·omega
theorem Best.up {n i c : Nat} {lb : Nat → Bool} {le : Nat → Nat → Bool} (ha : ∀ a b, a < n → b < n → le a b = true → le b a = true → a = b) (hn : i < n) (h : Best n lb le i (c : Int)) (hi : lb i = true) (hc : le c i = true) : Best n lb le (i + 1) (i : Int) := by
 rcases h with ⟨h1,h2⟩|⟨c',h1,h2,h3,h4⟩
 ·omega
 ·obtain rfl:c=c':=by omega
  refine .inr ⟨i,rfl,by omega,hi,fun j hj k1 k2=>?_⟩
  rcases Nat.lt_or_ge j i with h|h
  ·obtain rfl:=h4 j h k1 k2
   exact ha j i (by omega) hn hc (k2 i hn hi)
  ·omega
theorem Best.stay {n i c : Nat} {lb : Nat → Bool} {le : Nat → Nat → Bool} (hn : i < n) (h : Best n lb le i (c : Int)) (hc : le c i = false) : Best n lb le (i + 1) (c : Int) := by
 rcases h with ⟨h1,h2⟩|⟨c',h1,h2,h3,h4⟩
 ·omega
 ·obtain rfl:c=c':=by omega
  refine .inr ⟨c,rfl,by omega,h3,fun j hj k1 k2=>?_⟩
  rcases Nat.lt_or_ge j i with h|h
  ·exact h4 j h k1 k2
  ·obtain rfl:j=i:=by omega
   have:=k2 c (by omega) h3
   rw [hc] at this;exact absurd this (by simp)
section
variable {U : List (List Int)} (O : Order U)
include O
theorem spec_l1Meet.ev {a b : Nat} (ha : a < U.length) (hb : b < U.length) : Ev (fun k => spec_l1Meet.f k U a b) (mI U a b) := by
 have hs:=O.small
 unfold spec_l1Meet.f
 refine Ev.loop (g:=fun k s i=>spec_l1Meet.l0 k U a b s i) U.length (Best U.length (fun i=>leB U i a && leB U i b) (leB U)) (by omega) (fun s h=>?_) (fun i s hi h=>?_) (-1) Best.zero
 ·refine Ev.succ ?_
  simp only [spec_l1Meet.l0]
  repeat(with_reducible first|refine Ev.ip ?_|refine Ev.iq ?_)
  rcases h with ⟨rfl,h⟩|⟨c,rfl,hc,h1,h2⟩
  ·have e:meetO U a b=none:=findN_none.2 fun i hi=>by
    have:(leB U i a && leB U i b)=false:=h i hi
    unfold meetP;rw [← Bool.and_assoc,this];rfl
   unfold mI
   rw [e]
   refine Ev.eq (Ev.all (n:=U.length) (g:=fun k i=>spec_l1Meet.l1 k U a b (-1) i) (fun _=>true) (go:= -1) (stop:= -1) (by omega) (fun _=>?_) fun i hi _ R hR=>?_) (by split <;> rfl)
   ·refine Ev.succ ?_
    simp only [spec_l1Meet.l1]
    repeat(with_reducible first|refine Ev.ip ?_|refine Ev.iq ?_)
    exact Ev.now _
   ·refine Ev.succ ?_
    have hrow:=O.row i hi
    have va:=O.val hi ha
    have vb:=O.val hi hb
    have hab:(leB U i a && leB U i b)=false:=h i hi
    simp only [spec_l1Meet.l1,rdL_nat,rd_nat,rd_row,hrow,va,vb]
    repeat(with_reducible first|refine Ev.ip ?_|refine Ev.iq ?_)
    cases xa:leB U i a with
    |false=>
     repeat(with_reducible first|refine Ev.ip ?_|refine Ev.iq ?_)
     exact hR rfl
    |true=>
     cases xb:leB U i b with
     |false=>
      repeat(with_reducible first|refine Ev.ip ?_|refine Ev.iq ?_)
      exact hR rfl
     |true=>rw [xa,xb] at hab;exact absurd hab (by simp)
  ·replace h1:(leB U c a && leB U c b)=true:=h1
   refine Ev.eq (Ev.all (n:=U.length) (g:=fun k i=>spec_l1Meet.l1 k U a b c i) (fun d=>!(leB U d a && leB U d b)||leB U d c) (go:=(c:Int)) (stop:= -1) (by omega) (fun _=>?_) fun i hi _ R hR=>?_) ?_
   ·refine Ev.succ ?_
    simp only [spec_l1Meet.l1]
    repeat(with_reducible first|refine Ev.ip ?_|refine Ev.iq ?_)
    exact Ev.now _
   ·refine Ev.succ ?_
    have hrow:=O.row i hi
    have va:=O.val hi ha
    have vb:=O.val hi hb
    have vc:=O.val hi hc
    simp only [spec_l1Meet.l1,rdL_nat,rd_nat,rd_row,hrow,va,vb,vc]
    repeat(with_reducible first|refine Ev.ip ?_|refine Ev.iq ?_)
    cases xa:leB U i a with
    |false=>
     repeat(with_reducible first|refine Ev.ip ?_|refine Ev.iq ?_)
     exact hR (by simp [xa])
    |true=>
     repeat(with_reducible first|refine Ev.ip ?_|refine Ev.iq ?_)
     cases xb:leB U i b with
     |false=>
      repeat(with_reducible first|refine Ev.ip ?_|refine Ev.iq ?_)
      exact hR (by simp [xa,xb])
     |true=>
      repeat(with_reducible first|refine Ev.ip ?_|refine Ev.iq ?_)
      cases xc:leB U i c with
      |false=>
       repeat(with_reducible first|refine Ev.ip ?_|refine Ev.iq ?_)
       exact Ev.now _
      |true=>
       repeat(with_reducible first|refine Ev.ip ?_|refine Ev.iq ?_)
       exact hR (by simp [xc])
   ·unfold mI
    have hP:meetP U a b c=allN U.length fun d=>!(leB U d a && leB U d b)||leB U d c:=by unfold meetP;rw [← Bool.and_assoc,h1];rfl
    rw [← hP]
    cases hp:meetP U a b c with
    |true=>rw [O.meet_eq hc hp];rfl
    |false=>
     cases e:meetO U a b with
     |none=>rfl
     |some m=>
      obtain⟨k1,k2⟩:=findN_some e
      obtain⟨q1,q2,q3⟩:=meetP_iff.1 k2
      have:=h2 m k1 (by simp [q1,q2]) fun d hd kd=>by
       rw [Bool.and_eq_true] at kd
       exact q3 d hd kd.1 kd.2
      rw [← this,k2] at hp
      exact absurd hp (by simp)
 ·have hrow:=O.row i hi
  have va:=O.val hi ha
  have vb:=O.val hi hb
  cases xa:leB U i a with
  |false=>
   refine⟨s,h.skip (by simp [xa]),fun K=>Ev.succ ?_⟩
   rw [xa] at va
   simp only [spec_l1Meet.l0,rdL_nat,rd_nat,rd_row,hrow,va,vb]
   repeat(with_reducible first|refine Ev.ip ?_|refine Ev.iq ?_)
   exact K
  |true=>
   cases xb:leB U i b with
   |false=>
    refine⟨s,h.skip (by simp [xb]),fun K=>Ev.succ ?_⟩
    rw [xa] at va;rw [xb] at vb
    simp only [spec_l1Meet.l0,rdL_nat,rd_nat,rd_row,hrow,va,vb]
    repeat(with_reducible first|refine Ev.ip ?_|refine Ev.iq ?_)
    exact K
   |true=>
    rw [xa] at va;rw [xb] at vb
    by_cases hneg:s= -1
    ·subst hneg
     refine⟨(i:Int),h.first (by simp [xa,xb]),fun K=>Ev.succ ?_⟩
     simp only [spec_l1Meet.l0,rdL_nat,rd_nat,rd_row,hrow,va,vb]
     repeat(with_reducible first|refine Ev.ip ?_|refine Ev.iq ?_)
     exact K
    ·obtain⟨c,rfl,hc⟩: ∃c:Nat,s=c∧c<i:=by
      rcases h with ⟨h1,_⟩|⟨c,h1,h2,_⟩
      ·exact absurd h1 hneg
      ·exact⟨c,h1,h2⟩
     have vc:=O.val (show c<U.length by omega) hi
     have hrowc:=O.row c (by omega)
     cases xc:leB U c i with
     |true=>
      refine⟨(i:Int),h.up O.anti hi (by simp [xa,xb]) xc,fun K=>Ev.succ ?_⟩
      rw [xc] at vc
      simp only [spec_l1Meet.l0,rdL_nat,rd_nat,rd_row,hrow,hrowc,va,vb,vc]
      repeat(with_reducible first|refine Ev.ip ?_|refine Ev.iq ?_)
      exact K
     |false=>
      refine⟨(c:Int),h.stay hi xc,fun K=>Ev.succ ?_⟩
      rw [xc] at vc
      simp only [spec_l1Meet.l0,rdL_nat,rd_nat,rd_row,hrow,hrowc,va,vb,vc]
      repeat(with_reducible first|refine Ev.ip ?_|refine Ev.iq ?_)
      exact K
theorem spec_l1Join.ev {a b : Nat} (ha : a < U.length) (hb : b < U.length) : Ev (fun k => spec_l1Join.f k U a b) (jI U a b) := by
 have hs:=O.small
 have hra:=O.row a ha
 have hrb:=O.row b hb
 unfold spec_l1Join.f
 refine Ev.loop (g:=fun k s i=>spec_l1Join.l0 k U a b s i) U.length (Best U.length (fun i=>leB U a i && leB U b i) (fun x y=>leB U y x)) (by omega) (fun s h=>?_) (fun i s hi h=>?_) (-1) Best.zero
 ·refine Ev.succ ?_
  simp only [spec_l1Join.l0]
  repeat(with_reducible first|refine Ev.ip ?_|refine Ev.iq ?_)
  rcases h with ⟨rfl,h⟩|⟨c,rfl,hc,h1,h2⟩
  ·have e:joinO U a b=none:=findN_none.2 fun i hi=>by
    have:(leB U a i && leB U b i)=false:=h i hi
    unfold joinP;rw [← Bool.and_assoc,this];rfl
   unfold jI
   rw [e]
   refine Ev.eq (Ev.all (n:=U.length) (g:=fun k i=>spec_l1Join.l1 k U a b (-1) i) (fun _=>true) (go:= -1) (stop:= -1) (by omega) (fun _=>?_) fun i hi _ R hR=>?_) (by split <;> rfl)
   ·refine Ev.succ ?_
    simp only [spec_l1Join.l1]
    repeat(with_reducible first|refine Ev.ip ?_|refine Ev.iq ?_)
    exact Ev.now _
   ·refine Ev.succ ?_
    have va:=O.val ha hi
    have vb:=O.val hb hi
    have hab:(leB U a i && leB U b i)=false:=h i hi
    simp only [spec_l1Join.l1,rdL_nat,rd_nat,rd_row,hra,hrb,va,vb]
    repeat(with_reducible first|refine Ev.ip ?_|refine Ev.iq ?_)
    cases xa:leB U a i with
    |false=>
     repeat(with_reducible first|refine Ev.ip ?_|refine Ev.iq ?_)
     exact hR rfl
    |true=>
     cases xb:leB U b i with
     |false=>
      repeat(with_reducible first|refine Ev.ip ?_|refine Ev.iq ?_)
      exact hR rfl
     |true=>rw [xa,xb] at hab;exact absurd hab (by simp)
  ·have hrc:=O.row c hc
   replace h1:(leB U a c && leB U b c)=true:=h1
   refine Ev.eq (Ev.all (n:=U.length) (g:=fun k i=>spec_l1Join.l1 k U a b c i) (fun d=>!(leB U a d && leB U b d)||leB U c d) (go:=(c:Int)) (stop:= -1) (by omega) (fun _=>?_) fun i hi _ R hR=>?_) ?_
   ·refine Ev.succ ?_
    simp only [spec_l1Join.l1]
    repeat(with_reducible first|refine Ev.ip ?_|refine Ev.iq ?_)
    exact Ev.now _
   ·refine Ev.succ ?_
    have va:=O.val ha hi
    have vb:=O.val hb hi
    have vc:=O.val hc hi
    simp only [spec_l1Join.l1,rdL_nat,rd_nat,rd_row,hra,hrb,hrc,va,vb,vc]
    repeat(with_reducible first|refine Ev.ip ?_|refine Ev.iq ?_)
    cases xa:leB U a i with
    |false=>
     repeat(with_reducible first|refine Ev.ip ?_|refine Ev.iq ?_)
     exact hR (by simp [xa])
    |true=>
     repeat(with_reducible first|refine Ev.ip ?_|refine Ev.iq ?_)
     cases xb:leB U b i with
     |false=>
      repeat(with_reducible first|refine Ev.ip ?_|refine Ev.iq ?_)
      exact hR (by simp [xa,xb])
     |true=>
      repeat(with_reducible first|refine Ev.ip ?_|refine Ev.iq ?_)
      cases xc:leB U c i with
      |false=>
       repeat(with_reducible first|refine Ev.ip ?_|refine Ev.iq ?_)
       exact Ev.now _
      |true=>
       repeat(with_reducible first|refine Ev.ip ?_|refine Ev.iq ?_)
       exact hR (by simp [xc])
   ·unfold jI
    have hP:joinP U a b c=allN U.length fun d=>!(leB U a d && leB U b d)||leB U c d:=by unfold joinP;rw [← Bool.and_assoc,h1];rfl
    rw [← hP]
    cases hp:joinP U a b c with
    |true=>rw [O.join_eq hc hp];rfl
    |false=>
     cases e:joinO U a b with
     |none=>rfl
     |some m=>
      obtain⟨k1,k2⟩:=findN_some e
      obtain⟨q1,q2,q3⟩:=joinP_iff.1 k2
      have:=h2 m k1 (by simp [q1,q2]) fun d hd kd=>by
       rw [Bool.and_eq_true] at kd
       exact q3 d hd kd.1 kd.2
      rw [← this,k2] at hp
      exact absurd hp (by simp)
 ·have hrow:=O.row i hi
  have va:=O.val ha hi
  have vb:=O.val hb hi
  cases xa:leB U a i with
  |false=>
   refine⟨s,h.skip (by simp [xa]),fun K=>Ev.succ ?_⟩
   rw [xa] at va
   simp only [spec_l1Join.l0,rdL_nat,rd_nat,rd_row,hra,hrb,va,vb]
   repeat(with_reducible first|refine Ev.ip ?_|refine Ev.iq ?_)
   exact K
  |true=>
   cases xb:leB U b i with
   |false=>
    refine⟨s,h.skip (by simp [xb]),fun K=>Ev.succ ?_⟩
    rw [xa] at va;rw [xb] at vb
    simp only [spec_l1Join.l0,rdL_nat,rd_nat,rd_row,hra,hrb,va,vb]
    repeat(with_reducible first|refine Ev.ip ?_|refine Ev.iq ?_)
    exact K
   |true=>
    rw [xa] at va;rw [xb] at vb
    by_cases hneg:s= -1
    ·subst hneg
     refine⟨(i:Int),h.first (by simp [xa,xb]),fun K=>Ev.succ ?_⟩
     simp only [spec_l1Join.l0,rdL_nat,rd_nat,rd_row,hra,hrb,va,vb]
     repeat(with_reducible first|refine Ev.ip ?_|refine Ev.iq ?_)
     exact K
    ·obtain⟨c,rfl,hc⟩: ∃c:Nat,s=c∧c<i:=by
      rcases h with ⟨h1,_⟩|⟨c,h1,h2,_⟩
      ·exact absurd h1 hneg
      ·exact⟨c,h1,h2⟩
     have vc:=O.val hi (show c<U.length by omega)
     cases xc:leB U i c with
     |true=>
      refine⟨(i:Int),h.up (fun x y hx hy e1 e2=>O.anti x y hx hy e2 e1) hi (by simp [xa,xb]) xc,fun K=>Ev.succ ?_⟩
      rw [xc] at vc
      simp only [spec_l1Join.l0,rdL_nat,rd_nat,rd_row,hrow,hra,hrb,va,vb,vc]
      repeat(with_reducible first|refine Ev.ip ?_|refine Ev.iq ?_)
      exact K
     |false=>
      refine⟨(c:Int),h.stay hi xc,fun K=>Ev.succ ?_⟩
      rw [xc] at vc
      simp only [spec_l1Join.l0,rdL_nat,rd_nat,rd_row,hrow,hra,hrb,va,vb,vc]
      repeat(with_reducible first|refine Ev.ip ?_|refine Ev.iq ?_)
      exact K
end
end
theorem l1In_eq (a b c : Int) : spec_l1In.f a b c = some (decide (b ≤ a) && decide (a ≤ c)) := by
 unfold spec_l1In.f
 by_cases h : a ≥ b
 ·rw [if_pos h]; simp [h]
 ·rw [if_neg h]; simp [h]
def rowS (U : List (List Int)) (i : Nat) : Bool := (U.getD i []).length == U.length && allN U.length fun j => at2 U i j == 0 || at2 U i j == 1
def relS (U : List (List Int)) (i : Nat) : Bool := allN U.length fun j => !(if i = j then !leB U i j else leB U i j && leB U j i) && allN U.length fun c => !(leB U i j && leB U j c) || leB U i c
theorem orderB_spec (U : List (List Int)) : orderB U = (decide (1 ≤ U.length) && (decide (U.length ≤ 12) && (allN U.length (rowS U) && allN U.length (relS U)))) := by
 rw [Bool.eq_iff_iff,orderB_iff]
 unfold rowS relS
 simp only [Bool.and_eq_true,decide_eq_true_eq,allN_iff,Bool.or_eq_true,beq_iff_eq,Bool.not_eq_true']
 constructor
 ·intro O
  refine⟨O.pos,O.small,fun i hi=>⟨O.row i hi,fun j hj=>O.bit i j hi hj⟩,fun i hi j hj=>⟨?_,fun c hc=>?_⟩⟩
  ·by_cases e:i=j
   ·rw [if_pos e,← e,O.refl i hi];rfl
   ·rw [if_neg e]
    cases k1:leB U i j
    ·rfl
    ·cases k2:leB U j i
     ·rfl
     ·exact absurd (O.anti i j hi hj k1 k2) e
  ·cases k1:leB U i j
   ·simp
   ·cases k2:leB U j c
    ·simp
    ·exact .inr (O.trans i j c hi hj hc k1 k2)
 ·rintro ⟨h1,h2,h3,h4⟩
  refine⟨h1,h2,fun a ha=>(h3 a ha).1,fun a b ha hb=>(h3 a ha).2 b hb,fun a ha=>?_,fun a b ha hb k1 k2=>?_,fun a b c ha hb hc k1 k2=>?_⟩
  ·have:=(h4 a ha a ha).1
   rw [if_pos rfl] at this
   simpa using this
  ·by_cases e:a=b
   ·exact e
   ·have:=(h4 a ha b hb).1
    rw [if_neg e,k1,k2] at this
    exact absurd this (by simp)
  ·rcases (h4 a ha b hb).2 c hc with e|e
   ·rw [k1,k2] at e;exact absurd e (by simp)
   ·exact e
theorem spec_OrderOk.ev (U : List (List Int)) : Ev (fun k => spec_OrderOk.f k U) (orderB U) := by
 rw [orderB_spec]
 unfold spec_OrderOk.f
 refine Ev.pbind (l1In_eq _ _ _) ?_
 by_cases h1:1≤U.length
 ·by_cases h2:U.length≤12
  ·rw [show (decide ((1:Int)≤U.length) && decide ((U.length:Int)≤12))=true by simp;omega]
   simp only [h1,h2,decide_true,Bool.true_and]
   repeat(with_reducible first|refine Ev.ip ?_|refine Ev.iq ?_)
   refine Ev.eq (Ev.all (n:=U.length) (g:=fun k i=>spec_OrderOk.l0 k U U.length i) (rowS U) (go:=allN U.length (relS U)) (stop:=false) (by omega) (fun hr=>?_) fun i hi _ R hR=>?_) (by cases allN U.length (rowS U) <;> rfl)
   ·have row: ∀i,i<U.length→(U.getD i []).length=U.length:=fun i hi=>by
     have:=hr i hi
     unfold rowS at this
     simp only [Bool.and_eq_true,beq_iff_eq] at this
     exact this.1
    have bit: ∀i j,i<U.length→j<U.length→at2 U i j=if leB U i j=true then 1 else 0:=fun i j hi hj=>by
     have:=hr i hi
     unfold rowS at this
     simp only [Bool.and_eq_true,beq_iff_eq,allN_iff,Bool.or_eq_true] at this
     unfold leB
     rcases this.2 j hj with e|e <;> simp [e]
    refine Ev.succ ?_
    simp only [spec_OrderOk.l0]
    repeat(with_reducible first|refine Ev.ip ?_|refine Ev.iq ?_)
    refine Ev.eq (Ev.all (n:=U.length) (g:=fun k i=>spec_OrderOk.l2 k U U.length i) (relS U) (go:=true) (stop:=false) (by omega) (fun _=>?_) fun a ha _ R hR=>?_) (by cases allN U.length _ <;> rfl)
    ·refine Ev.succ ?_
     simp only [spec_OrderOk.l2]
     repeat(with_reducible first|refine Ev.ip ?_|refine Ev.iq ?_)
     exact Ev.now _
    ·refine Ev.succ ?_
     simp only [spec_OrderOk.l2]
     repeat(with_reducible first|refine Ev.ip ?_|refine Ev.iq ?_)
     refine Ev.all (n:=U.length) (g:=fun k i=>spec_OrderOk.l3 k U U.length a i) _ (by omega) (fun h=>?_) fun b hb _ R2 hR2=>?_
     ·refine Ev.succ ?_
      simp only [spec_OrderOk.l3]
      repeat(with_reducible first|refine Ev.ip ?_|refine Ev.iq ?_)
      exact hR (allN_iff.2 h)
     ·have vab:=bit a b ha hb
      have vba:=bit b a hb ha
      have j4:Ev (fun k=>spec_OrderOk.j4 k U U.length a b (if a=b then !leB U a b else leB U a b && leB U b a)) (if(!(if a=b then !leB U a b else leB U a b && leB U b a) && allN U.length fun c=>!(leB U a b && leB U b c)||leB U a c)=true then R2 else false):=by
       refine Ev.succ ?_
       simp only [spec_OrderOk.j4]
       cases hx:(if a=b then !leB U a b else leB U a b && leB U b a) with
       |true=>
        repeat(with_reducible first|refine Ev.ip ?_|refine Ev.iq ?_)
        exact Ev.now _
       |false=>
        rw [hx,Bool.not_false,Bool.true_and] at hR2
        rw [Bool.not_false,Bool.true_and]
        repeat(with_reducible first|refine Ev.ip ?_|refine Ev.iq ?_)
        refine Ev.all (n:=U.length) (g:=fun k i=>spec_OrderOk.l4 k U U.length a b i) _ (by omega) (fun h=>?_) fun c hc _ R3 hR3=>?_
        ·refine Ev.succ ?_
         simp only [spec_OrderOk.l4]
         repeat(with_reducible first|refine Ev.ip ?_|refine Ev.iq ?_)
         exact hR2 (allN_iff.2 h)
        ·refine Ev.succ ?_
         have vbc:=bit b c hb hc
         have vac:=bit a c ha hc
         have ra:=row a ha
         have rb:=row b hb
         simp only [spec_OrderOk.l4,rdL_nat,rd_nat,rd_row,ra,rb,vab,vbc,vac]
         repeat(with_reducible first|refine Ev.ip ?_|refine Ev.iq ?_)
         cases f1:leB U a b with
         |false=>
          repeat(with_reducible first|refine Ev.ip ?_|refine Ev.iq ?_)
          exact hR3 (by simp [f1])
         |true=>
          repeat(with_reducible first|refine Ev.ip ?_|refine Ev.iq ?_)
          cases f2:leB U b c with
          |false=>
           repeat(with_reducible first|refine Ev.ip ?_|refine Ev.iq ?_)
           exact hR3 (by simp [f2])
          |true=>
           repeat(with_reducible first|refine Ev.ip ?_|refine Ev.iq ?_)
           cases f3:leB U a c with
           |false=>
            repeat(with_reducible first|refine Ev.ip ?_|refine Ev.iq ?_)
            exact Ev.now _
           |true=>
            repeat(with_reducible first|refine Ev.ip ?_|refine Ev.iq ?_)
            exact hR3 (by simp [f3])
      refine Ev.succ ?_
      have ra:=row a ha
      have rb:=row b hb
      simp only [spec_OrderOk.l3,rdL_nat,rd_nat,rd_row,ra,rb,vab,vba]
      repeat(with_reducible first|refine Ev.ip ?_|refine Ev.iq ?_)
      by_cases e:a=b
      ·rw [if_pos e] at j4 ⊢
       repeat(with_reducible first|refine Ev.ip ?_|refine Ev.iq ?_)
       cases f1:leB U a b with
       |false=>
        rw [f1] at j4
        repeat(with_reducible first|refine Ev.ip ?_|refine Ev.iq ?_)
        exact j4
       |true=>
        rw [f1] at j4
        repeat(with_reducible first|refine Ev.ip ?_|refine Ev.iq ?_)
        exact j4
      ·rw [if_neg e] at j4 ⊢
       repeat(with_reducible first|refine Ev.ip ?_|refine Ev.iq ?_)
       cases f1:leB U a b with
       |false=>
        rw [f1] at j4
        repeat(with_reducible first|refine Ev.ip ?_|refine Ev.iq ?_)
        exact j4
       |true=>
        rw [f1] at j4
        repeat(with_reducible first|refine Ev.ip ?_|refine Ev.iq ?_)
        rw [show ((if leB U b a=true then(1:Int) else 0)==1)=leB U b a by cases leB U b a <;> rfl]
        exact j4
   ·refine Ev.succ ?_
    simp only [spec_OrderOk.l0,rdL_nat]
    repeat(with_reducible first|refine Ev.ip ?_|refine Ev.iq ?_)
    by_cases e1:(U.getD i []).length=U.length
    ·repeat(with_reducible first|refine Ev.ip ?_|refine Ev.iq ?_)
     refine Ev.eq (Ev.all (n:=U.length) (g:=fun k j=>spec_OrderOk.l1 k U U.length i j) (fun j=>at2 U i j==0||at2 U i j==1) (go:=R) (stop:=false) (by omega) (fun h=>?_) fun j hj _ R2 hR2=>?_) (by unfold rowS;simp [-List.getD_eq_getElem?_getD,e1])
     ·refine Ev.succ ?_
      simp only [spec_OrderOk.l1]
      repeat(with_reducible first|refine Ev.ip ?_|refine Ev.iq ?_)
      exact hR (by unfold rowS;simp only [e1,BEq.rfl,Bool.true_and];exact allN_iff.2 h)
     ·refine Ev.succ ?_
      simp only [spec_OrderOk.l1,rdL_nat,rd_nat,rd_row,l1In_eq]
      repeat(with_reducible first|refine Ev.ip ?_|refine Ev.iq ?_)
      refine Ev.pbind rfl ?_
      have e:(decide (0≤at2 U i j) && decide (at2 U i j≤1))=(at2 U i j==0||at2 U i j==1):=by
       rw [Bool.eq_iff_iff];simp only [Bool.and_eq_true,decide_eq_true_eq,Bool.or_eq_true,beq_iff_eq];omega
      rw [e]
      cases hb:(at2 U i j==0||at2 U i j==1) with
      |true=>
       repeat(with_reducible first|refine Ev.ip ?_|refine Ev.iq ?_)
       exact hR2 hb
      |false=>
       repeat(with_reducible first|refine Ev.ip ?_|refine Ev.iq ?_)
       exact Ev.now _
    ·repeat(with_reducible first|refine Ev.ip ?_|refine Ev.iq ?_)
     exact Ev.eq (Ev.now _) (by unfold rowS;simp [-List.getD_eq_getElem?_getD,e1])
  ·rw [show (decide ((1:Int)≤U.length) && decide ((U.length:Int)≤12))=false by simp;omega]
   simp only [h1,h2,decide_true,decide_false,Bool.true_and,Bool.false_and]
   repeat(with_reducible first|refine Ev.ip ?_|refine Ev.iq ?_)
   exact Ev.now _
 ·rw [show (decide ((1:Int)≤U.length) && decide ((U.length:Int)≤12))=false by simp;omega]
  simp only [h1,decide_false,Bool.false_and]
  repeat(with_reducible first|refine Ev.ip ?_|refine Ev.iq ?_)
  exact Ev.now _
theorem meetO_comm (U : List (List Int)) (a b : Nat) : meetO U a b = meetO U b a := by
 unfold meetO
 refine findN_congr fun c _=>?_
 rw [Bool.eq_iff_iff,meetP_iff,meetP_iff]
 constructor <;> rintro ⟨h1,h2,h3⟩ <;> exact⟨h2,h1,fun d hd k1 k2=>h3 d hd k2 k1⟩
theorem joinO_comm (U : List (List Int)) (a b : Nat) : joinO U a b = joinO U b a := by
 unfold joinO
 refine findN_congr fun c _=>?_
 rw [Bool.eq_iff_iff,joinP_iff,joinP_iff]
 constructor <;> rintro ⟨h1,h2,h3⟩ <;> exact⟨h2,h1,fun d hd k1 k2=>h3 d hd k2 k1⟩
theorem lattice_half {U : List (List Int)} (O : Order U) : (allN U.length fun a => allN U.length fun b => (meetO U a b).isSome && (joinO U a b).isSome) = allN U.length fun a => allN a fun b => (meetO U a b).isSome && (joinO U a b).isSome := by
 rw [Bool.eq_iff_iff]
 simp only [allN_iff]
 constructor
 ·intro h a ha b hb
  exact h a ha b (by omega)
 ·intro h a ha b hb
  rcases Nat.lt_trichotomy b a with hlt|rfl|hlt
  ·exact h a ha b hlt
  ·rw [O.meet_eq (a:=b) (b:=b) hb (meetP_iff.2 ⟨O.refl b hb,O.refl b hb,fun d _ h _=>h⟩),O.join_eq (a:=b) (b:=b) hb (joinP_iff.2 ⟨O.refl b hb,O.refl b hb,fun d _ h _=>h⟩)]
   rfl
  ·rw [meetO_comm,joinO_comm]
   exact h b hb a hlt
theorem spec_LatticeOk.ev (U : List (List Int)) : Ev (fun k => spec_LatticeOk.f k U) (latticeB U) := by
 unfold spec_LatticeOk.f latticeB
 have ho:=spec_OrderOk.ev U
 cases hb:orderB U with
 |false=>
  rw [hb] at ho
  have fin:Ev (fun k=>spec_LatticeOk.j1 k U 0 false) false:=by
   refine Ev.succ ?_
   simp only [spec_LatticeOk.j1]
   repeat(with_reducible first|refine Ev.ip ?_|refine Ev.iq ?_)
   exact Ev.bind ho (Ev.now _)
  refine Ev.succ ?_
  simp only [spec_LatticeOk.l0]
  by_cases h0:(0:Int)<(U.length:Int)
  ·repeat(with_reducible first|refine Ev.ip ?_|refine Ev.iq ?_)
   exact Ev.bind ho fin
  ·repeat(with_reducible first|refine Ev.ip ?_|refine Ev.iq ?_)
   exact fin
 |true=>
  rw [hb] at ho
  have O:=orderB_iff.1 hb
  have hs:=O.small
  refine Ev.eq (Ev.all (n:=U.length) (g:=fun k i=>spec_LatticeOk.l0 k U i) (fun a=>allN a fun b=>(meetO U a b).isSome && (joinO U a b).isSome) (go:=true) (stop:=false) (by omega) (fun _=>?_) fun a ha _ R hR=>?_) (by rw [Bool.true_and,lattice_half O];cases allN U.length _ <;> rfl)
  ·refine Ev.succ ?_
   simp only [spec_LatticeOk.l0]
   repeat(with_reducible first|refine Ev.ip ?_|refine Ev.iq ?_)
   refine Ev.succ ?_
   simp only [spec_LatticeOk.j1]
   repeat(with_reducible first|refine Ev.ip ?_|refine Ev.iq ?_)
   exact Ev.bind ho (Ev.now _)
  ·refine Ev.succ ?_
   simp only [spec_LatticeOk.l0]
   repeat(with_reducible first|refine Ev.ip ?_|refine Ev.iq ?_)
   refine Ev.bind ho ?_
   refine Ev.succ ?_
   simp only [spec_LatticeOk.j1]
   repeat(with_reducible first|refine Ev.ip ?_|refine Ev.iq ?_)
   refine Ev.all (n:=a) (g:=fun k i=>spec_LatticeOk.l1 k U a i) _ (by omega) (fun h=>?_) fun b hb' _ R2 hR2=>?_
   ·refine Ev.succ ?_
    simp only [spec_LatticeOk.l1]
    repeat(with_reducible first|refine Ev.ip ?_|refine Ev.iq ?_)
    exact hR (allN_iff.2 h)
   ·refine Ev.succ ?_
    have hb:b<U.length:=by omega
    simp only [spec_LatticeOk.l1]
    repeat(with_reducible first|refine Ev.ip ?_|refine Ev.iq ?_)
    refine Ev.bind (spec_l1Meet.ev O ha hb) ?_
    unfold mI
    cases em:meetO U a b with
    |none=>
     refine Ev.ite_pos (by simp [optI]) ?_
     exact Ev.eq (Ev.now _) (by simp)
    |some m=>
     refine Ev.ite_neg (by have:=optI_neg (some 0);simp [optI]) ?_
     refine Ev.bind (spec_l1Join.ev O ha hb) ?_
     unfold jI
     cases ej:joinO U a b with
     |none=>
      refine Ev.ite_pos (by simp [optI]) ?_
      exact Ev.eq (Ev.now _) (by simp)
     |some j=>
      refine Ev.ite_neg (by have:=optI_neg (some 0);simp [optI]) ?_
      exact Ev.eq (hR2 (by simp [em,ej])) (by simp)
theorem spec_LeastOf.ev (U : List (List Int)) : Ev (fun k => spec_LeastOf.f k U) (if orderB U = true then (optI (leastO U), (leastO U).isSome) else (-1, false)) := by
 unfold spec_LeastOf.f
 have ho:=spec_OrderOk.ev U
 cases hb:orderB U with
 |false=>
  rw [hb] at ho
  have fin:Ev (fun k=>spec_LeastOf.j1 k U 0 false) (-1,false):=by
   refine Ev.succ ?_
   simp only [spec_LeastOf.j1]
   repeat(with_reducible first|refine Ev.ip ?_|refine Ev.iq ?_)
   exact Ev.now _
  repeat(with_reducible first|refine Ev.ip ?_|refine Ev.iq ?_)
  refine Ev.succ ?_
  simp only [spec_LeastOf.l0]
  by_cases h0:(0:Int)<(U.length:Int)
  ·repeat(with_reducible first|refine Ev.ip ?_|refine Ev.iq ?_)
   exact Ev.eq (Ev.bind ho fin) (by simp)
  ·repeat(with_reducible first|refine Ev.ip ?_|refine Ev.iq ?_)
   exact Ev.eq fin (by simp)
 |true=>
  rw [hb] at ho
  have O:=orderB_iff.1 hb
  have hs:=O.small
  refine Ev.eq (Ev.find (n:=U.length) (g:=fun k i=>spec_LeastOf.l0 k U i) (fun a=>allN U.length fun b=>leB U a b) (none':=(-1,false)) (some':=fun i=>((i:Int),true)) (by omega) (fun _=>?_) fun a ha _ R hR=>?_) (by rw [if_pos rfl];unfold leastO;cases findN U.length _ <;> rfl)
  ·refine Ev.succ ?_
   simp only [spec_LeastOf.l0]
   repeat(with_reducible first|refine Ev.ip ?_|refine Ev.iq ?_)
   refine Ev.succ ?_
   simp only [spec_LeastOf.j1]
   repeat(with_reducible first|refine Ev.ip ?_|refine Ev.iq ?_)
   exact Ev.now _
  ·refine Ev.succ ?_
   simp only [spec_LeastOf.l0]
   repeat(with_reducible first|refine Ev.ip ?_|refine Ev.iq ?_)
   refine Ev.bind ho ?_
   refine Ev.succ ?_
   simp only [spec_LeastOf.j1]
   repeat(with_reducible first|refine Ev.ip ?_|refine Ev.iq ?_)
   have key: ∀d i,i+d=U.length→ ∀fl:Bool,(fl && allFrom U.length (fun b=>leB U a b) i)=allN U.length (fun b=>leB U a b)→Ev (fun k=>spec_LeastOf.l1 k U a fl i) (if allN U.length (fun b=>leB U a b)=true then((a:Int),true) else R):=by
    intro d
    induction d with
    |zero=>
     intro i hi fl hfl
     refine Ev.succ ?_
     simp only [spec_LeastOf.l1]
     rw [allFrom_ge (by omega),Bool.and_true] at hfl
     rw [hfl]
     repeat(with_reducible first|refine Ev.ip ?_|refine Ev.iq ?_)
     cases ha':allN U.length (fun b=>leB U a b) with
     |true=>
      repeat(with_reducible first|refine Ev.ip ?_|refine Ev.iq ?_)
      exact Ev.now _
     |false=>
      repeat(with_reducible first|refine Ev.ip ?_|refine Ev.iq ?_)
      exact hR ha'
    |succ d ih=>
     intro i hi fl hfl
     rw [allFrom_lt (by omega)] at hfl
     refine Ev.succ ?_
     have rl:=O.row a ha
     simp only [spec_LeastOf.l1,rdL_nat,rd_nat,rd_row,wrap_nat (show i<4611686018427387904 by omega),rl]
     repeat(with_reducible first|refine Ev.ip ?_|refine Ev.iq ?_)
     cases fl with
     |true=>
      repeat(with_reducible first|refine Ev.ip ?_|refine Ev.iq ?_)
      exact ih (i+1) (by omega) _ hfl
     |false=>
      repeat(with_reducible first|refine Ev.ip ?_|refine Ev.iq ?_)
      exact ih (i+1) (by omega) _ (by rw [← hfl];simp)
   exact key U.length 0 (by omega) true (by rw [allFrom_zero,Bool.true_and])
def negS (U : List (List Int)) (N : List Int) (a : Nat) : Bool :=
 at1 N (at1 N a).toNat==(a:Int) && (mI U a (at1 N a).toNat==optI (leastO U) && allN U.length fun b=>!leB U a b||leB U (at1 N b).toNat (at1 N a).toNat)
theorem logicB_spec (U : List (List Int)) (N : List Int) : logicB U N = (latticeB U && (N.length == U.length && (allN U.length (fun a => decide (0 ≤ at1 N a) && decide (at1 N a < U.length)) && allN U.length (negS U N)))) := by
 unfold logicB negS mI
 have e: ∀x y:Option Nat,(optI x==optI y)=(x==y):=by
  intro x y
  rw [Bool.eq_iff_iff,beq_iff_eq,beq_iff_eq]
  exact⟨optI_inj,fun h=>by rw [h]⟩
 simp only [e]
theorem spec_LogicOk.ev (U : List (List Int)) (N : List Int) : Ev (fun k => spec_LogicOk.f k U N) (logicB U N) := by
 rw [logicB_spec]
 unfold spec_LogicOk.f
 refine Ev.bind (spec_LatticeOk.ev U) ?_
 have jf:Ev (fun k=>spec_LogicOk.j0 k U.length true U N) false:=by
  refine Ev.succ ?_
  simp only [spec_LogicOk.j0]
  repeat(with_reducible first|refine Ev.ip ?_|refine Ev.iq ?_)
  exact Ev.now _
 cases hl:latticeB U with
 |false=>
  repeat(with_reducible first|refine Ev.ip ?_|refine Ev.iq ?_)
  exact Ev.eq jf (by simp)
 |true=>
  have O:=latticeB_order hl
  have hs:=O.small
  repeat(with_reducible first|refine Ev.ip ?_|refine Ev.iq ?_)
  by_cases hn:N.length=U.length
  ·rw [show ((N.length:Int) !=(U.length:Int))=false by rw [hn];simp,show (N.length==U.length)=true by simp [hn]]
   simp only [Bool.true_and]
   refine Ev.succ ?_
   simp only [spec_LogicOk.j0]
   repeat(with_reducible first|refine Ev.ip ?_|refine Ev.iq ?_)
   refine Ev.eq (Ev.all (n:=U.length) (g:=fun k i=>spec_LogicOk.l0 k U.length i U N) (fun a=>decide (0≤at1 N a) && decide (at1 N a<U.length)) (go:=allN U.length (negS U N)) (stop:=false) (by omega) (fun hr=>?_) fun i hi _ R hR=>?_) (by cases allN U.length fun a=>decide (0≤at1 N a) && decide (at1 N a<U.length) <;> rfl)
   ·have ran: ∀a,a<U.length→ ∃m:Nat,at1 N a=m∧m<U.length:=fun a ha=>by
     have:=hr a ha
     simp only [Bool.and_eq_true,decide_eq_true_eq] at this
     exact⟨(at1 N a).toNat,by omega,by omega⟩
    refine Ev.succ ?_
    simp only [spec_LogicOk.l0]
    repeat(with_reducible first|refine Ev.ip ?_|refine Ev.iq ?_)
    refine Ev.bind (spec_LeastOf.ev U) ?_
    rw [if_pos (orderB_iff.2 O)]
    refine Ev.eq (Ev.all (n:=U.length) (g:=fun k i=>spec_LogicOk.l1 k U.length (optI (leastO U)) i U N) (negS U N) (go:=true) (stop:=false) (by omega) (fun _=>?_) fun a ha _ R hR=>?_) (by cases allN U.length (negS U N) <;> rfl)
    ·refine Ev.succ ?_
     simp only [spec_LogicOk.l1]
     repeat(with_reducible first|refine Ev.ip ?_|refine Ev.iq ?_)
     exact Ev.now _
    ·obtain⟨m,hm,hmn⟩:=ran a ha
     have fal:Ev (fun k=>spec_LogicOk.j3 k U.length (optI (leastO U)) a true U N) false:=by
      refine Ev.succ ?_
      simp only [spec_LogicOk.j3]
      repeat(with_reducible first|refine Ev.ip ?_|refine Ev.iq ?_)
      exact Ev.now _
     refine Ev.succ ?_
     simp only [spec_LogicOk.l1,rd_nat,hm]
     have hneg:negS U N a=(at1 N m==(a:Int) && (mI U a m==optI (leastO U) && allN U.length fun b=>!leB U a b||leB U (at1 N b).toNat m)):=by unfold negS;rw [hm,Int.toNat_natCast]
     repeat(with_reducible first|refine Ev.ip ?_|refine Ev.iq ?_)
     by_cases e1:at1 N m=a
     ·repeat(with_reducible first|refine Ev.ip ?_|refine Ev.iq ?_)
      refine Ev.bind (spec_l1Meet.ev O ha hmn) ?_
      by_cases e2:mI U a m=optI (leastO U)
      ·rw [show (mI U a m !=optI (leastO U))=false by simp [e2]]
       refine Ev.succ ?_
       simp only [spec_LogicOk.j3]
       repeat(with_reducible first|refine Ev.ip ?_|refine Ev.iq ?_)
       have hneg2:negS U N a=allN U.length fun b=>!leB U a b||leB U (at1 N b).toNat m:=by rw [hneg,show (at1 N m==(a:Int))=true by simp [e1],show (mI U a m==optI (leastO U))=true by simp [e2],Bool.true_and,Bool.true_and]
       rw [hneg2]
       refine Ev.all (n:=U.length) (g:=fun k i=>spec_LogicOk.l2 k U.length (optI (leastO U)) a i U N) _ (by omega) (fun h=>?_) fun b hb _ R3 hR3=>?_
       ·refine Ev.succ ?_
        simp only [spec_LogicOk.l2]
        repeat(with_reducible first|refine Ev.ip ?_|refine Ev.iq ?_)
        exact hR (by rw [hneg2];exact allN_iff.2 h)
       ·obtain⟨q,hq,hqn⟩:=ran b hb
        have vab:=O.val ha hb
        have vqm:=O.val hqn hmn
        have ra:=O.row a ha
        have rq:=O.row q hqn
        refine Ev.succ ?_
        simp only [spec_LogicOk.l2,rdL_nat,rd_nat,rd_row,hq,hm,ra,rq,vab,vqm,Int.toNat_natCast]
        rw [hq,Int.toNat_natCast] at hR3
        repeat(with_reducible first|refine Ev.ip ?_|refine Ev.iq ?_)
        cases f1:leB U a b with
        |false=>
         repeat(with_reducible first|refine Ev.ip ?_|refine Ev.iq ?_)
         exact hR3 (by simp [f1])
        |true=>
         repeat(with_reducible first|refine Ev.ip ?_|refine Ev.iq ?_)
         cases f2:leB U q m with
         |false=>
          repeat(with_reducible first|refine Ev.ip ?_|refine Ev.iq ?_)
          exact Ev.now _
         |true=>
          repeat(with_reducible first|refine Ev.ip ?_|refine Ev.iq ?_)
          exact hR3 (by simp [f2])
      ·rw [show (mI U a m !=optI (leastO U))=true by simp [e2]]
       exact Ev.eq fal (by rw [hneg];simp [e2])
     ·repeat(with_reducible first|refine Ev.ip ?_|refine Ev.iq ?_)
      exact Ev.eq fal (by rw [hneg];simp [e1])
   ·refine Ev.succ ?_
    simp only [spec_LogicOk.l0,rd_nat,l1In_eq]
    repeat(with_reducible first|refine Ev.ip ?_|refine Ev.iq ?_)
    refine Ev.pbind rfl ?_
    have e:(decide (0≤at1 N i) && decide (at1 N i≤wrap64 ((U.length:Int) - 1)))=(decide (0≤at1 N i) && decide (at1 N i<U.length)):=by
     rw [wrap_small (by omega) (by omega)]
     congr 1
     rw [decide_eq_decide];omega
    rw [e]
    cases hb:(decide (0≤at1 N i) && decide (at1 N i<U.length)) with
    |true=>
     repeat(with_reducible first|refine Ev.ip ?_|refine Ev.iq ?_)
     exact hR hb
    |false=>
     repeat(with_reducible first|refine Ev.ip ?_|refine Ev.iq ?_)
     exact Ev.now _
  ·rw [show ((N.length:Int) !=(U.length:Int))=true by rw [bne_iff_ne];omega,show (N.length==U.length)=false by simp [hn]]
   exact Ev.eq jf (by simp)
theorem spec_l2Both.ev (U : List (List Int)) (N : List Int) (a b : Int) : Ev (fun k => spec_l2Both.f k U N a b) (logicB U N && (inR U.length a && inR U.length b)) := by
 unfold spec_l2Both.f
 refine Ev.bind (spec_LogicOk.ev U N) ?_
 cases hl:logicB U N with
 |false=>
  repeat(with_reducible first|refine Ev.ip ?_|refine Ev.iq ?_)
  exact Ev.now _
 |true=>
  have L:=logicB_iff.1 hl
  have hs:=L.small
  have hp:=L.pos
  have hln:=L.len
  have e: ∀c:Int,(decide (0≤c) && decide (c≤wrap64 ((N.length:Int) - 1)))=inR U.length c:=by
   intro c
   unfold inR
   rw [wrap_small (by omega) (by omega)]
   congr 1
   rw [decide_eq_decide];omega
  repeat(with_reducible first|refine Ev.ip ?_|refine Ev.iq ?_)
  simp only [l1In_eq,e]
  refine Ev.pbind rfl ?_
  cases ha:inR U.length a with
  |false=>
   repeat(with_reducible first|refine Ev.ip ?_|refine Ev.iq ?_)
   exact Ev.eq (Ev.now _) (by simp)
  |true=>
   repeat(with_reducible first|refine Ev.ip ?_|refine Ev.iq ?_)
   exact Ev.eq (Ev.now _) (by simp)
theorem spec_NoOf.ev (U : List (List Int)) (N : List Int) : Ev (fun k => spec_NoOf.f k U N) (if logicB U N = true then noI U else -1) := by
 unfold spec_NoOf.f
 refine Ev.bind (spec_LogicOk.ev U N) ?_
 cases hl:logicB U N with
 |false=>
  repeat(with_reducible first|refine Ev.ip ?_|refine Ev.iq ?_)
  exact Ev.now _
 |true=>
  have L:=logicB_iff.1 hl
  have ho:orderB U=true:=orderB_iff.2 L.toOrder
  repeat(with_reducible first|refine Ev.ip ?_|refine Ev.iq ?_)
  refine Ev.bind (spec_LeastOf.ev U) ?_
  rw [ho]
  exact Ev.now _
theorem spec_NotOf.ev (U : List (List Int)) (N : List Int) (a : Int) : Ev (fun k => spec_NotOf.f k U N a) (if logicB U N = true then (if inR U.length a = true then notI N a else -1) else -1) := by
 unfold spec_NotOf.f
 refine Ev.bind (spec_l2Both.ev U N a a) ?_
 cases hl:logicB U N with
 |false=>
  repeat(with_reducible first|refine Ev.ip ?_|refine Ev.iq ?_)
  exact Ev.now _
 |true=>
  have L:=logicB_iff.1 hl
  cases ha:inR U.length a with
  |false=>
   repeat(with_reducible first|refine Ev.ip ?_|refine Ev.iq ?_)
   exact Ev.now _
  |true=>
   have ia:=inR_iff.1 ha
   have h0:=ia.1
   have h1:=ia.2
   have hl2:=L.len
   obtain⟨x,rfl⟩: ∃x:Nat,a=x:=⟨a.toNat,by omega⟩
   repeat(with_reducible first|refine Ev.ip ?_|refine Ev.iq ?_)
   exact Ev.eq (Ev.now _) (by rw [rd_nat];rfl)
section
section
variable {U : List (List Int)} {N : List Int} (L : Logic U N)
include L
theorem join_in {a b : Int} (ha : In U a) (hb : In U b) : Ev (fun k => spec_l1Join.f k U a b) (orI U a b) := by
 obtain⟨x,rfl⟩: ∃x:Nat,a=x:=⟨a.toNat,by have:=ha.1;omega⟩
 obtain⟨y,rfl⟩: ∃y:Nat,b=y:=⟨b.toNat,by have:=hb.1;omega⟩
 exact spec_l1Join.ev L.toOrder (by have:=ha.2;omega) (by have:=hb.2;omega)
end
end
theorem spec_YesOf.ev (U : List (List Int)) (N : List Int) : Ev (fun k => spec_YesOf.f k U N) (if logicB U N = true then yesI U N else -1) := by
 unfold spec_YesOf.f
 refine Ev.bind (spec_NoOf.ev U N) ?_
 cases hl:logicB U N with
 |false=>
  rw [if_neg (by simp),if_neg (by simp)]
  refine Ev.bind (spec_NotOf.ev U N _) ?_
  rw [hl]
  exact Ev.now _
 |true=>
  have L:=logicB_iff.1 hl
  rw [if_pos rfl,if_pos rfl]
  refine Ev.bind (spec_NotOf.ev U N _) ?_
  rw [hl,if_pos rfl,if_pos (inR_iff.2 L.in_no)]
  exact Ev.now _
theorem spec_l9State.ev {U : List (List Int)} {N : List Int} (L : Logic U N) (s : Nat) : Ev (fun k => spec_l9State.f k U N (s : Int) (yesI U N)) (stB U N s) := by
 rw [← stS_eq L]
 unfold spec_l9State.f stS
 have hs:=L.small
 have hln:=L.len
 have O:=L.toOrder
 rw [yes_fin L,smod_nat s (show (L.ol.top).1≤64 by have:=(L.ol.top).2;omega),Int.toNat_natCast]
 repeat(with_reducible first|refine Ev.ip ?_|refine Ev.iq ?_)
 cases ht:s.testBit (L.ol.top).1 with
 |false=>
  rw [if_neg (by simp)]
  repeat(with_reducible first|refine Ev.ip ?_|refine Ev.iq ?_)
  rw [Bool.false_and]
  exact Ev.now _
 |true=>
  rw [if_pos rfl,Bool.true_and]
  repeat(with_reducible first|refine Ev.ip ?_|refine Ev.iq ?_)
  refine Ev.eq (Ev.all (n:=U.length) (g:=fun k a=>spec_l9State.l0 k (s:Int) a U N) (fun a=>(s.testBit a !=s.testBit (notI N a).toNat) && allN a fun b=>!leI U a (notI N b)||(!(s.testBit a && s.testBit b) && (s.testBit (orI U a b).toNat==(s.testBit a||s.testBit b)))) (go:=true) (stop:=false) (by omega) (fun _=>?_) fun a ha _ R hR=>?_) (by cases allN U.length _ <;> rfl)
  ·refine Ev.succ ?_
   simp only [spec_l9State.l0]
   repeat(with_reducible first|refine Ev.ip ?_|refine Ev.iq ?_)
   exact Ev.now _
  ·have hra:=O.row a ha
   have hna:at1 N a=(((L.ol.neg ⟨a,ha⟩).1:Nat):Int):=L.ng_eq ⟨a,ha⟩
   have hna2:(notI N (a:Int)).toNat=(L.ol.neg ⟨a,ha⟩).1:=by
    have:=not_fin L (⟨a,ha⟩:Fin U.length)
    rw [this,Int.toNat_natCast]
   have hnl:=(L.ol.neg ⟨a,ha⟩).2
   refine Ev.succ ?_
   simp only [spec_l9State.l0,rd_nat,hna,smod_nat s (show a≤64 by omega),smod_nat s (show (L.ol.neg ⟨a,ha⟩).1≤64 by omega)]
   rw [hna2] at hR ⊢
   repeat(with_reducible first|refine Ev.ip ?_|refine Ev.iq ?_)
   generalize hn:s.testBit (L.ol.neg ⟨a,ha⟩).1=n at hR ⊢
   generalize hp:s.testBit a=p at hR ⊢
   by_cases hne:p=n
   ·subst hne
    have hw: ¬wrap64 ((if p=true then 1 else 0)+(if p=true then 1 else 0))=1:=by cases p <;> simp [wrap64]
    repeat(with_reducible first|refine Ev.ip ?_|refine Ev.iq ?_)
    exact Ev.eq (Ev.now _) (by cases p <;> rfl)
   ·have hw:wrap64 ((if p=true then 1 else 0)+(if n=true then 1 else 0))=1:=by cases p <;> cases n <;> simp_all [wrap64]
    have hb:(p !=n)=true:=by cases p <;> cases n <;> simp_all
    rw [hb,Bool.true_and] at hR ⊢
    repeat(with_reducible first|refine Ev.ip ?_|refine Ev.iq ?_)
    refine Ev.eq (Ev.all (n:=a) (g:=fun k b=>spec_l9State.l1 k (s:Int) (a:Int) b U N) (fun b=>!leI U a (notI N b)||(!(p && s.testBit b) && (s.testBit (orI U a b).toNat==(p||s.testBit b)))) (go:=R) (stop:=false) (by omega) (fun hall=>?_) fun b hb2 _ R2 hR2=>?_) rfl
    ·refine Ev.succ ?_
     simp only [spec_l9State.l1]
     repeat(with_reducible first|refine Ev.ip ?_|refine Ev.iq ?_)
     exact hR (allN_iff.2 hall)
    ·have hbn:b<U.length:=by omega
     have hnb:at1 N b=(((L.ol.neg ⟨b,hbn⟩).1:Nat):Int):=L.ng_eq ⟨b,hbn⟩
     have hnb2:notI N (b:Int)=(((L.ol.neg ⟨b,hbn⟩).1:Nat):Int):=not_fin L (⟨b,hbn⟩:Fin U.length)
     have hnbl:=(L.ol.neg ⟨b,hbn⟩).2
     have hjo:orI U (a:Int) (b:Int)=(((L.ol.join ⟨a,ha⟩ ⟨b,hbn⟩).1:Nat):Int):=or_fin L ⟨a,ha⟩ ⟨b,hbn⟩
     have hjl:=(L.ol.join ⟨a,ha⟩ ⟨b,hbn⟩).2
     have hev:Ev (fun k=>spec_l1Join.f k U (a:Int) (b:Int)) (((L.ol.join ⟨a,ha⟩ ⟨b,hbn⟩).1:Nat):Int):=by rw [← hjo];exact join_in L ⟨by omega,by omega⟩ ⟨by omega,by omega⟩
     have hv:=O.val ha hnbl
     have hle:leI U (a:Int) (((L.ol.neg ⟨b,hbn⟩).1:Nat):Int)=leB U a (L.ol.neg ⟨b,hbn⟩).1:=by simp [leI]
     refine Ev.succ ?_
     simp only [spec_l9State.l1,rd_nat,rdL_nat,hnb,rd_row,hra]
     rw [hnb2,hjo,Int.toNat_natCast,hle] at hR2 ⊢
     rw [hv]
     repeat(with_reducible first|refine Ev.ip ?_|refine Ev.iq ?_)
     generalize leB U a (L.ol.neg ⟨b,hbn⟩).1=le at hR2 ⊢
     cases le with
     |false=>
      repeat(with_reducible first|refine Ev.ip ?_|refine Ev.iq ?_)
      exact Ev.eq (hR2 rfl) rfl
     |true=>
      repeat(with_reducible first|refine Ev.ip ?_|refine Ev.iq ?_)
      refine Ev.bind hev ?_
      rw [smod_nat s (show a≤64 by omega),smod_nat s (show b≤64 by omega),smod_nat s (show (L.ol.join ⟨a,ha⟩ ⟨b,hbn⟩).1≤64 by omega),hp]
      generalize s.testBit b=q at hR2 ⊢
      generalize s.testBit (L.ol.join ⟨a,ha⟩ ⟨b,hbn⟩).1=z at hR2 ⊢
      repeat(with_reducible first|refine Ev.ip ?_|refine Ev.iq ?_)
      by_cases hs2:(!(p && q) && (z==(p||q)))=true
      ·have hw2:wrap64 ((if p=true then 1 else 0)+(if q=true then 1 else 0))=(if z=true then 1 else 0):=by revert hs2;cases p <;> cases q <;> cases z <;> simp [wrap64]
       repeat(with_reducible first|refine Ev.ip ?_|refine Ev.iq ?_)
       exact Ev.eq (hR2 (by rw [hs2];rfl)) (by rw [hs2];rfl)
      ·have hw2: ¬wrap64 ((if p=true then 1 else 0)+(if q=true then 1 else 0))=(if z=true then 1 else 0):=by revert hs2;cases p <;> cases q <;> cases z <;> simp [wrap64]
       repeat(with_reducible first|refine Ev.ip ?_|refine Ev.iq ?_)
       exact Ev.eq (Ev.now _) (by rw [show (!(p && q) && (z==(p||q)))=false by simpa using hs2];rfl)
theorem isSt_nat {U : List (List Int)} {N : List Int} {s : Nat} (h : s < 2 ^ U.length) : isSt U N (s : Int) = stB U N s := by
 unfold isSt
 rw [decide_eq_true (by omega),decide_eq_true (by omega),Int.toNat_natCast];rfl
theorem spec_StatesOf.ev (U : List (List Int)) (N : List Int) : Ev (fun k => spec_StatesOf.f k U N) (if logicB U N = true then stL U N else []) := by
 unfold spec_StatesOf.f
 refine Ev.pbind rfl (Ev.bind (spec_LogicOk.ev U N) ?_)
 cases hl:logicB U N with
 |false=>
  repeat(with_reducible first|refine Ev.ip ?_|refine Ev.iq ?_)
  exact Ev.now _
 |true=>
  have L:=logicB_iff.1 hl
  have hs:=L.small
  rw [if_pos rfl]
  repeat(with_reducible first|refine Ev.ip ?_|refine Ev.iq ?_)
  refine Ev.bind (spec_YesOf.ev U N) ?_
  rw [hl,if_pos rfl]
  have hM1:1≤2 ^ U.length:=Nat.one_le_two_pow
  have hM2:2 ^ U.length≤4096:=Nat.pow_le_pow_right (by omega) hs
  have key: ∀d s,s+d=2 ^ U.length→Ev (fun k=>spec_StatesOf.l0 k (filI s fun(s:Nat)=>isSt U N (s:Int)) (yesI U N) (s:Int) U N) (stL U N):=by
   intro d
   induction d with
   |zero=>
    intro s hsd
    refine Ev.succ ?_
    simp only [spec_StatesOf.l0,L.len,shl_nat (show U.length≤40 by omega)]
    repeat(with_reducible first|refine Ev.ip ?_|refine Ev.iq ?_)
    rw [show s=2 ^ U.length by omega]
    exact Ev.now _
   |succ d ih=>
    intro s hsd
    have K:=ih (s+1) (by omega)
    refine Ev.succ ?_
    simp only [spec_StatesOf.l0,L.len,shl_nat (show U.length≤40 by omega),wrap_nat (show s<4611686018427387904 by omega)]
    repeat(with_reducible first|refine Ev.ip ?_|refine Ev.iq ?_)
    refine Ev.bind (spec_l9State.ev L s) ?_
    rw [filI_succ,isSt_nat (show s<2 ^ U.length by omega)] at K
    have hlen:(filI s fun(s:Nat)=>isSt U N (s:Int)).length<17592186044416:=by have:=filI_length s (fun(s:Nat)=>isSt U N (s:Int));omega
    cases hb:stB U N s with
    |true=>
     rw [hb,if_pos rfl] at K
     repeat(with_reducible first|refine Ev.ip ?_|refine Ev.iq ?_)
     exact K
    |false=>
     rw [hb,if_neg (by simp)] at K
     repeat(with_reducible first|refine Ev.ip ?_|refine Ev.iq ?_)
     exact K
  have h0:(filI 1 fun(s:Nat)=>isSt U N (s:Int))= []:=by
   rw [filI_succ,filI_zero,if_neg]
   ·have:isSt U N ((0:Nat):Int)=false:=by
     unfold isSt stB
     rw [show (((0:Nat):Int)).toNat=0 from rfl,Nat.zero_testBit];simp
    rw [this];simp
  have:=key (2 ^ U.length - 1) 1 (by omega)
  rw [h0] at this
  exact this
section
def hiP (U : List (List Int)) (f : Nat → Nat) (a : Nat) : Nat → Nat
 | 0 => 0
 | i + 1 => if i ≠ a ∧ leB U i a = true then (if hiP U f a i < f i + 1 then f i + 1 else hiP U f a i) else hiP U f a i
def hiF (U : List (List Int)) : Nat → Nat → Nat
 | 0, _ => 0
 | k + 1, a => hiP U (hiF U k) a U.length
theorem hiP_congr {U : List (List Int)} {f f' : Nat → Nat} {a : Nat} : ∀ i, (∀ b, b < i → b ≠ a → leB U b a = true → f b = f' b) → hiP U f a i = hiP U f' a i
 |0,_=>rfl
 |i+1,h=>by
  have e:=hiP_congr i (fun b hb=>h b (by omega))
  unfold hiP
  by_cases c:i≠a∧leB U i a=true
  ·rw [if_pos c,if_pos c,e,h i (by omega) c.1 c.2]
  ·rw [if_neg c,if_neg c,e]
theorem hiP_none {U : List (List Int)} {f : Nat → Nat} {a : Nat} : ∀ i, (∀ b, b < i → b ≠ a → leB U b a = false) → hiP U f a i = 0
 |0,_=>rfl
 |i+1,h=>by
  unfold hiP
  rw [if_neg (fun c=>by rw [h i (by omega) c.1] at c;exact absurd c.2 (by simp))]
  exact hiP_none i (fun b hb=>h b (by omega))
def Deep (U : List (List Int)) : Nat → Nat → Prop
 | 0, a => ∀ b, b < U.length → b ≠ a → leB U b a = false
 | k + 1, a => ∀ b, b < U.length → b ≠ a → leB U b a = true → Deep U k b
theorem filt_lt {p q : Nat → Bool} : ∀ l : List Nat, (∀ x, x ∈ l → p x = true → q x = true) → (∃ x, x ∈ l ∧ q x = true ∧ p x = false) → (l.filter p).length < (l.filter q).length
 | [],_,⟨x,hx,_⟩=>absurd hx (by simp)
 |y :: l,h,⟨x,hx,h1,h2⟩=>by
  have hle: ∀l:List Nat,(∀x,x ∈ l→p x=true→q x=true)→(l.filter p).length≤(l.filter q).length:=by
   intro l
   induction l with
   |nil=>intro _;exact Nat.le_refl _
   |cons z l ih=>
    intro hh
    have:=ih fun x hx=>hh x (List.mem_cons_of_mem _ hx)
    cases hz:p z with
    |true=>simp [hz,hh z (by simp) hz];exact this
    |false=>cases hq:q z <;> simp [hz,hq] <;> omega
  have hl:=hle l fun x hx=>h x (List.mem_cons_of_mem _ hx)
  rcases List.mem_cons.1 hx with rfl|hx
  ·simp [h1,h2];omega
  ·have:=filt_lt l (fun x hx=>h x (List.mem_cons_of_mem _ hx)) ⟨x,hx,h1,h2⟩
   cases hz:p y with
   |true=>simp [hz,h y (by simp) hz];exact this
   |false=>cases hq:q y <;> simp [hz,hq] <;> omega
def cntB (U : List (List Int)) (a : Nat) : Nat := ((List.range U.length).filter fun b => !(b == a) && leB U b a).length
theorem cntB_lt {U : List (List Int)} (O : Order U) {a b : Nat} (ha : a < U.length) (hb : b < U.length) (hne : b ≠ a) (hle : leB U b a = true) : cntB U b < cntB U a := by
 refine filt_lt _ (fun x hx h=>?_) ⟨b,by simpa using hb,by simp [hne,hle],by simp⟩
 simp only [Bool.and_eq_true,Bool.not_eq_true',beq_eq_false_iff_ne] at h ⊢
 have hx':x<U.length:=by simpa using hx
 refine⟨fun e=>?_,O.trans x b a hx' hb ha h.2 hle⟩
 subst e
 exact h.1 (O.anti x b hx' hb h.2 hle)
theorem deep_cnt {U : List (List Int)} (O : Order U) : ∀ k a, a < U.length → cntB U a ≤ k → Deep U k a
 |0,a,ha,h=>fun b hb hne=>by
  cases e:leB U b a with
  |false=>rfl
  |true=>have:=cntB_lt O ha hb hne e;omega
 |k+1,a,ha,h=>fun b hb hne hle=>deep_cnt O k b hb (by have:=cntB_lt O ha hb hne hle;omega)
theorem hiP_ge {U : List (List Int)} {f : Nat → Nat} {a : Nat} : ∀ m i, i < m → i ≠ a → leB U i a = true → f i + 1 ≤ hiP U f a m
 |0,i,h,_,_=>absurd h (Nat.not_lt_zero _)
 |m+1,i,h,hne,hle=>by
  unfold hiP
  by_cases e:i=m
  ·subst e
   rw [if_pos ⟨hne,hle⟩]
   split <;> omega
  ·have:=hiP_ge (f:=f) m i (by omega) hne hle
   split
   ·split <;> omega
   ·exact this
theorem hiP_at {U : List (List Int)} {f : Nat → Nat} {a : Nat} : ∀ m, hiP U f a m ≠ 0 → ∃ i, i < m ∧ i ≠ a ∧ leB U i a = true ∧ hiP U f a m = f i + 1
 |0,h=>absurd rfl h
 |m+1,h=>by
  unfold hiP at h ⊢
  by_cases c:m≠a∧leB U m a=true
  ·rw [if_pos c] at h ⊢
   by_cases d:hiP U f a m<f m+1
   ·rw [if_pos d]
    exact⟨m,by omega,c.1,c.2,rfl⟩
   ·rw [if_neg d] at h ⊢
    obtain⟨i,h1,h2⟩:=hiP_at m h
    exact⟨i,by omega,h2⟩
  ·rw [if_neg c] at h ⊢
   obtain⟨i,h1,h2⟩:=hiP_at m h
   exact⟨i,by omega,h2⟩
theorem deep_stable {U : List (List Int)} : ∀ k a, Deep U k a → ∀ j, hiF U (k + j) a = hiF U k a
 |0,a,h,0=>rfl
 |0,a,h,j+1=>by
  rw [Nat.zero_add]
  show hiP U (hiF U j) a U.length=0
  exact hiP_none _ (fun b hb hne=>h b hb hne)
 |k+1,a,h,j=>by
  rw [show k+1+j=(k+j)+1 by omega]
  show hiP U (hiF U (k+j)) a U.length=hiP U (hiF U k) a U.length
  exact hiP_congr _ (fun b hb hne hle=>deep_stable k b (h b hb hne hle) j)
def hi (U : List (List Int)) (x : Fin U.length) : Nat := hiF U U.length x.1
section
variable {U : List (List Int)} {N : List Int} (L : Logic U N)
include L
theorem hi_below {a b : Nat} (ha : a < U.length) (hb : b < U.length) (hne : b ≠ a) (hle : leB U b a = true) : hiF U (U.length - 1) b = hiF U U.length b := by
 have h1:=cntB_lt L.toOrder ha hb hne hle
 have h2:cntB U a≤U.length:=by unfold cntB;exact Nat.le_trans (List.length_filter_le _ _) (by simp)
 have h3:=deep_stable _ _ (deep_cnt L.toOrder (U.length - 1) b hb (by omega)) 1
 rw [show U.length - 1+1=U.length by have:=L.pos;omega] at h3
 exact h3.symm
theorem hi_unfold (a : Nat) : hiF U U.length a = hiP U (hiF U (U.length - 1)) a U.length := by
 obtain⟨m,hm⟩: ∃m,U.length=m+1:=⟨U.length - 1,by have:=L.pos;omega⟩
 rw [hm]
 show hiP U (hiF U m) a U.length=_
 rw [hm];rfl
theorem hi_high : L.ol.High (hi U) where
 mono:=fun x y hxy hne=>by
  have hn:x.1≠y.1:=fun e=>hne (Fin.ext e)
  show hiF U U.length x.1<hiF U U.length y.1
  rw [← hi_below L y.2 x.2 hn hxy,hi_unfold L y.1]
  exact hiP_ge _ _ x.2 hn hxy
 step:=fun y hy=>by
  have hy':hiF U U.length y.1≠0:=hy
  rw [hi_unfold L] at hy'
  obtain⟨i,h1,h2,h3,h4⟩:=hiP_at _ hy'
  refine⟨⟨i,h1⟩,h3,fun e=>h2 (congrArg Fin.val e),?_⟩
  show hiF U U.length i+1=hiF U U.length y.1
  rw [hi_unfold L y.1,h4,hi_below L y.2 h1 h2 h3]
end
end
section
def cN (p : Nat → Bool) : Nat → Nat
 | 0 => 0
 | m + 1 => cN p m + if p m = true then 1 else 0
theorem cN_le (p : Nat → Bool) : ∀ m, cN p m ≤ m
 | 0 => Nat.le_refl _
 | m + 1 => by have := cN_le p m; unfold cN; split <;> omega
theorem cN_zero {p : Nat → Bool} : ∀ m, cN p m = 0 ↔ ∀ c, c < m → p c = false
 |0=>⟨fun _ c h=>absurd h (Nat.not_lt_zero _),fun _=>rfl⟩
 |m+1=>by
  unfold cN
  have ih:=cN_zero (p:=p) m
  constructor
  ·intro h c hc
   cases e:p m with
   |true=>rw [e] at h;simp at h
   |false=>
    by_cases hcm:c=m
    ·rw [hcm];exact e
    ·exact ih.1 (by omega) c (by omega)
  ·intro h
   rw [ih.2 (fun c hc=>h c (by omega)),h m (by omega)];rfl
theorem cN_split {p : Nat → Bool} {x y : Nat} (hx : p x = true) (hy : p y = true) (hne : x ≠ y) : ∀ m, cN p m = (if x < m then 1 else 0) + (if y < m then 1 else 0) + cN (fun c => p c && !(c == x) && !(c == y)) m
 |0=>rfl
 |m+1=>by
  have ih:=cN_split hx hy hne m
  unfold cN
  rw [ih]
  by_cases e1:m=x
  ·subst e1
   rw [if_pos hx,if_neg (show¬m<m by omega),if_pos (show m<m+1 by omega)]
   have:(p m && !(m==m) && !(m==y))=false:=by simp
   rw [this,if_neg (show¬(false=true) by simp)]
   by_cases h:y<m
   ·rw [if_pos h,if_pos (by omega)];omega
   ·rw [if_neg h,if_neg (by omega)];omega
  ·by_cases e2:m=y
   ·subst e2
    rw [if_pos hy,if_neg (show¬m<m by omega),if_pos (show m<m+1 by omega)]
    have:(p m && !(m==x) && !(m==m))=false:=by simp
    rw [this,if_neg (show¬(false=true) by simp)]
    by_cases h:x<m
    ·rw [if_pos h,if_pos (by omega)];omega
    ·rw [if_neg h,if_neg (by omega)];omega
   ·have h1:(x<m+1)=(x<m):=propext ⟨fun h=>by omega,fun h=>by omega⟩
    have h2:(y<m+1)=(y<m):=propext ⟨fun h=>by omega,fun h=>by omega⟩
    have h3:(p m && !(m==x) && !(m==y))=p m:=by rw [beq_eq_false_iff_ne.2 e1,beq_eq_false_iff_ne.2 e2,Bool.not_false,Bool.and_true,Bool.and_true]
    simp only [h1,h2,h3]
    omega
def atomB (U : List (List Int)) (a : Nat) : Bool := !((a : Int) == noI U) && cN (fun c => leB U c a) U.length == 2
section
variable {U : List (List Int)} {N : List Int} (L : Logic U N)
include L
theorem atomB_iff (x : Fin U.length) : atomB U x.1 = true ↔ x ≠ L.ol.bot ∧ ∀ y, L.ol.le y x → y = L.ol.bot ∨ y = x := by
 unfold atomB
 rw [no_fin L,Bool.and_eq_true,Bool.not_eq_true',fin_beq,decide_eq_false_iff_not,beq_iff_eq]
 constructor
 ·rintro ⟨h1,h2⟩
  refine⟨h1,fun y hy=>?_⟩
  rw [cN_split (p:=fun c=>leB U c x.1) (x:=L.ol.bot.1) (y:=x.1) (L.ol.bot_le x) (L.ol.le_refl x) (fun e=>h1 (Fin.ext e.symm)),if_pos L.ol.bot.2,if_pos x.2] at h2
  have h5:cN (fun c=>leB U c x.1 && !(c==L.ol.bot.1) && !(c==x.1)) U.length=0:=by omega
  have h3:=(cN_zero _).1 h5 y.1 y.2
  have hy':leB U y.1 x.1=true:=hy
  rw [hy'] at h3
  by_cases e:y=L.ol.bot
  ·exact .inl e
  ·right
   apply Classical.byContradiction
   intro e2
   have e': ¬y.1=L.ol.bot.1:=fun e'=>e (Fin.ext e')
   have e2': ¬y.1=x.1:=fun e'=>e2 (Fin.ext e')
   simp [e',e2'] at h3
 ·rintro ⟨h1,h2⟩
  refine⟨h1,?_⟩
  rw [cN_split (p:=fun c=>leB U c x.1) (x:=L.ol.bot.1) (y:=x.1) (L.ol.bot_le x) (L.ol.le_refl x) (fun e=>h1 (Fin.ext e.symm)),if_pos L.ol.bot.2,if_pos x.2,(cN_zero _).2 fun c hc=>?_]
  cases e:leB U c x.1 with
  |false=>simp
  |true=>
   rcases h2 ⟨c,hc⟩ e with h|h
   ·have h':c=L.ol.bot.1:=congrArg Fin.val h
    rw [h'];simp
   ·have h':c=x.1:=congrArg Fin.val h
    rw [h'];simp
theorem impl_AtomsOf.ev : Ev (fun k => impl_AtomsOf.f k U) (filI U.length (atomB U)) := by
 have hs:=L.small
 have hp:=L.pos
 unfold impl_AtomsOf.f
 refine Ev.bind (impl_LeastOf.ev U) ?_
 rw [if_pos (orderB_iff.2 L.toOrder),L.no_eq]
 have hno:noI U=(L.no.1:Int):=no_fin L
 refine Ev.ite_pos rfl ?_
 show Ev (fun k=>impl_AtomsOf.l0 k U (L.no.1:Int) [] (U.length:Int) 0) _
 refine Ev.loop (g:=fun k (s:List Int) i=>impl_AtomsOf.l0 k U (L.no.1:Int) s (U.length:Int) i) U.length (fun i s=>s=filI i (atomB U)) (by omega) (fun s h=>?_) (fun a s ha h=>?_) _ rfl
 ·subst h
  refine Ev.succ ?_
  simp only [impl_AtomsOf.l0]
  exact Ev.ite_neg (by omega) (Ev.now _)
 ·subst h
  refine⟨_,rfl,fun hnext=>Ev.succ ?_⟩
  have hfl:=filI_length a (atomB U)
  simp only [impl_AtomsOf.l0]
  refine Ev.ite_pos (by omega) ?_
  refine Ev.loop (g:=fun k (s:Int) c=>impl_AtomsOf.l1 k U (L.no.1:Int) (filI a (atomB U)) (a:Int) s (U.length:Int) (a:Int) (U.length:Int) c) U.length (fun c s=>s=((cN (fun c=>leB U c a) c:Nat):Int)) (by omega) (fun s h=>?_) (fun c s hc h=>?_) _ rfl
  ·subst h
   refine Ev.succ ?_
   simp only [impl_AtomsOf.l1]
   refine Ev.ite_neg (by omega) ?_
   rw [filI_succ] at hnext
   by_cases e:a=L.no.1
   ·have h2:atomB U a=false:=by unfold atomB;rw [hno,e];simp
    rw [h2,if_neg (by simp)] at hnext
    exact Ev.ite_pos (by omega) hnext
   ·refine Ev.ite_neg (by omega) ?_
    by_cases e2:cN (fun c=>leB U c a) U.length=2
    ·have h2:atomB U a=true:=by unfold atomB;rw [hno,e2];simp;omega
     rw [h2,if_pos rfl] at hnext
     exact Ev.ite_pos (by omega) (Ev.ite_pos (by omega) hnext)
    ·have h2:atomB U a=false:=by unfold atomB;rw [Bool.and_eq_false_iff];exact .inr (by simpa using e2)
     rw [h2,if_neg (by simp)] at hnext
     exact Ev.ite_neg (by omega) hnext
  ·subst h
   have hrow:=L.row c hc
   have hcn:=cN_le (fun c=>leB U c a) c
   refine⟨_,rfl,fun hn2=>Ev.succ ?_⟩
   simp only [impl_AtomsOf.l1,rdL_nat,rd_nat,rd_row,hrow]
   refine Ev.ite_pos (by omega) (Ev.ite_pos (by omega) (Ev.ite_pos (by omega) (Ev.ite_pos (by omega) (Ev.ite_pos (by omega) ?_))))
   have hv:wrap64 (((cN (fun c=>leB U c a) c:Nat):Int)+at2 U c a)=((cN (fun c=>leB U c a) (c+1):Nat):Int):=by
    rw [L.val hc ha]
    show _=((cN (fun c=>leB U c a) c+if leB U c a=true then 1 else 0:Nat):Int)
    cases leB U c a with
    |true=>rw [if_pos rfl,if_pos rfl,wrap_small (by omega) (by omega)];omega
    |false=>rw [if_neg (by simp),if_neg (by simp),wrap_small (by omega) (by omega)];omega
   rw [hv]
   exact hn2
end
end
section
section
variable {U : List (List Int)} {N : List Int} (L : Logic U N)
include L
theorem atom_iff (x : Fin U.length) : atomB U x.1 = true ↔ L.ol.Atom x := atomB_iff L x
def atNs (U : List (List Int)) : List Nat := filN U.length (atomB U)
end
end
section
section
variable {U : List (List Int)} {N : List Int} (L : Logic U N)
include L
theorem splitB_fin (x y z : Fin U.length) : splitB U x.1 y.1 z.1 = true ↔ L.ol.Split x y z := by
 unfold splitB OL.Split
 rw [or_fin L,and_fin L,and_fin L,and_fin L,or_fin L,fin_beq,decide_eq_true_eq]
theorem booB_iff : booB U = true ↔ L.ol.Boolean := by
 unfold booB OL.Boolean
 rw [allN_fin]
 constructor
 ·intro h a b c
  exact(splitB_fin L a b c).1 (allN_fin.1 (allN_fin.1 (h a) b) c)
 ·intro h a
  exact allN_fin.2 fun b=>allN_fin.2 fun c=>(splitB_fin L a b c).2 (h a b c)
end
end
section
theorem mem_stN {U : List (List Int)} {N : List Int} {s : Nat} : s ∈ stN U N ↔ s < 2 ^ U.length ∧ stB U N s = true := by
 unfold stN isSt
 rw [List.mem_filter,List.mem_range]
 constructor
 ·rintro ⟨h1,h2⟩
  simp only [Bool.and_eq_true,Int.toNat_natCast] at h2
  exact⟨h1,h2.2.2⟩
 ·rintro ⟨h1,h2⟩
  exact⟨h1,by rw [decide_eq_true (by omega),decide_eq_true (by omega),Int.toNat_natCast,h2];rfl⟩
section
variable {U : List (List Int)} {N : List Int} (L : Logic U N)
include L
def upN (U : List (List Int)) (p : Nat) : Nat := setB U.length fun i => leB U p i
omit L in
theorem upN_bit (p : Nat) (x : Fin U.length) : (upN U p).testBit x.1 = leB U p x.1 := by
 unfold upN; rw [setB_bit, decide_eq_true x.2, Bool.true_and]
theorem upN_state (B : L.ol.Boolean) {p : Fin U.length} (hp : L.ol.Atom p) : upN U p.1 ∈ stN U N := by
 refine mem_stN.2 ⟨setB_lt _ _,(stB_iff L _).2 (B.atom_state hp _ fun a=>?_)⟩
 show (upN U p.1).testBit a.1=true↔_
 rw [upN_bit];exact Iff.rfl
theorem state_least (B : L.ol.Boolean) {s : Fin U.length → Bool} (S : L.ol.State s) : ∀ (m : Nat) (x : Fin U.length), hi U x ≤ m → s x = true → ∃ p, s p = true ∧ ∀ a, s a = true → L.ol.le p a := by
 intro m
 have H:=hi_high L
 induction m with
 |zero=>
  intro x h hx
  rw [(H.bot_iff x).1 (by omega),S.bot] at hx
  exact absurd hx (by simp)
 |succ m ih=>
  intro x h hx
  by_cases c: ∀a,s a=true→L.ol.le x a
  ·exact⟨x,hx,c⟩
  ·obtain⟨a,ha,hn⟩: ∃a,s a=true∧ ¬L.ol.le x a:=by
    apply Classical.byContradiction
    intro hno
    exact c fun a ha=>Classical.byContradiction fun h2=>hno ⟨a,ha,h2⟩
   have h1:=B.state_meet S hx ha
   have h2:=H.mono (L.ol.meet x a) x (L.ol.meet_l _ _) fun e=>hn ((L.ol.meet_eq_l x a).1 e)
   exact ih _ (by omega) h1
theorem state_up (B : L.ol.Boolean) {s : Nat} (hs : s ∈ stN U N) : ∃ p : Fin U.length, L.ol.Atom p ∧ upN U p.1 = s := by
 have hs:=mem_stN.1 hs
 have S:=(stB_iff L s).1 hs.2
 obtain⟨p,h1,h2⟩:=state_least L B S _ L.ol.top (Nat.le_refl _) S.top
 have h3:=B.state_atom S h1 h2
 refine⟨p,h3.1,?_⟩
 rw [eq_setB hs.1]
 refine setB_congr fun i hi=>?_
 have:=h3.2 ⟨i,hi⟩
 rw [Bool.eq_iff_iff]
 exact this.symm
omit L in
theorem nodup_le : ∀ (l1 l2 : List Nat), l1.Nodup → (∀ x, x ∈ l1 → x ∈ l2) → l1.length ≤ l2.length
 | [],_,_,_=>Nat.zero_le _
 |x :: t,l2,hn,h=>by
  have hn:=List.nodup_cons.1 hn
  have hx:=h x (List.mem_cons_self ..)
  have h1:=nodup_le t (l2.erase x) hn.2 fun y hy=>(List.mem_erase_of_ne (fun e:y=x=>hn.1 (by rw [← e];exact hy))).2 (h y (List.mem_cons_of_mem _ hy))
  have h2:=List.length_erase_of_mem hx
  have h3:=List.length_pos_of_mem hx
  show t.length+1≤_
  omega
theorem states_atoms (h : booB U = true) : (stN U N).length = (atNs U).length := by
 have B:=(booB_iff L).1 h
 have n1:(stN U N).Nodup:=List.Pairwise.filter _ List.nodup_range
 have hat: ∀x,x ∈ atNs U→ ∃p:Fin U.length,p.1=x∧L.ol.Atom p:=fun x hx=>by
  have hm:=List.mem_filter.1 hx
  exact⟨⟨x,by simpa using hm.1⟩,rfl,(atom_iff L _).1 hm.2⟩
 have n2:((atNs U).map (upN U)).Nodup:=by
  have h0:(atNs U).Nodup:=List.Pairwise.filter _ List.nodup_range
  refine List.pairwise_map.2 (List.Pairwise.imp_of_mem (fun {a b} ha hb hne e=>hne ?_) h0)
  obtain⟨p,rfl,hp⟩:=hat a ha
  obtain⟨q,rfl,hq⟩:=hat b hb
  have k: ∀x:Fin U.length,leB U p.1 x.1=leB U q.1 x.1:=fun x=>by rw [← upN_bit,← upN_bit,e]
  have k1:L.ol.le q p:=(k p).symm.trans (L.ol.le_refl p)
  have k2:L.ol.le p q:=(k q).trans (L.ol.le_refl q)
  exact congrArg Fin.val (L.ol.le_antisymm _ _ k2 k1)
 have l1:=nodup_le (stN U N) ((atNs U).map (upN U)) n1 fun s hs=>by
  obtain⟨p,hp,e⟩:=state_up L B hs
  exact List.mem_map.2 ⟨p.1,List.mem_filter.2 ⟨by simp,(atom_iff L p).2 hp⟩,e⟩
 have l2:=nodup_le ((atNs U).map (upN U)) (stN U N) n2 fun s hs=>by
  obtain⟨x,hx,e⟩:=List.mem_map.1 hs
  obtain⟨p,rfl,hp⟩:=hat x hx
  rw [← e];exact upN_state L B hp
 rw [List.length_map] at l1 l2
 omega
end
end
theorem four_eq : impl_SetsOf.f 2 = some (sets2.1, sets2.2, true) := rfl
def glued4 : List (List Int) × List Int := (impl_made.f (gluP sets2.1 sets2.2 sets2.1 sets2.2) (fun x => gluQ sets2.1 sets2.2 sets2.1 sets2.2 x.toNat) (gluD sets2.1 sets2.2 sets2.1 sets2.2) 1000 (gluN sets2.1 sets2.2 sets2.1 sets2.2 : Int) 0 0).getD ([], [])
theorem glued_eq : impl_GluedOf.f sets2.1 sets2.2 sets2.1 sets2.2 = some (glued4.1, glued4.2, true) := by kernel_rfl
theorem glued_logic : logicB glued4.1 glued4.2 = true := by kernel_rfl
theorem glued_states : (stL glued4.1 glued4.2).length = 4 := by kernel_rfl
def Bytes (b : List Int) : Prop := ∀ x ∈ b, 0 ≤ x ∧ x ≤ 255
theorem bytes_rd {b : List Int} (h : Bytes b) (i : Int) : 0 ≤ rd b i ∧ rd b i ≤ 255 := by
 by_cases hi:i.toNat<b.length
 ·have e:rd b i=b[i.toNat]:=by
   show b.getD i.toNat 0=_
   rw [List.getD_eq_getElem?_getD,List.getElem?_eq_getElem hi];rfl
  rw [e]
  exact h _ (List.getElem_mem hi)
 ·have e:rd b i=0:=by
   show b.getD i.toNat 0=_
   rw [List.getD_eq_getElem?_getD,List.getElem?_eq_none (by omega)];rfl
  rw [e];omega
theorem ofInt_nat' (a : Nat) (ha : a < 18446744073709551616) : (BitVec.ofInt 64 (a : Int)).toNat = a := by
 rw [BitVec.ofInt_natCast, BitVec.toNat_ofNat]; exact Nat.mod_eq_of_lt (by omega)
theorem bxor_nat (a b : Nat) (ha : a < 4611686018427387904) (hb : b < 4611686018427387904) : Go.bits .xor .i64 (a : Int) (b : Int) = ((a ^^^ b : Nat) : Int) := by
 have hx:a ^^^ b<2 ^ 62:=Nat.xor_lt_two_pow (by omega) (by omega)
 show IntKind.i64.wrap ((BitVec.ofInt 64 (a:Int) ^^^ BitVec.ofInt 64 (b:Int)).toNat:Int)=_
 rw [BitVec.toNat_xor,ofInt_nat' a (by omega),ofInt_nat' b (by omega),i64_w]
 unfold wrap64;omega
theorem pick_mod {x n : Int} (hx : 0 ≤ x) (hn : 1 ≤ n) : 0 ≤ Int.tmod x n ∧ Int.tmod x n < n := by
 rw [Int.tmod_eq_emod_of_nonneg hx]
 exact⟨Int.emod_nonneg _ (by omega),Int.emod_lt_of_pos _ (by omega)⟩
theorem wrap_pos {x : Int} (h : 0 ≤ x) (h2 : x ≤ 4611686018427387904) : wrap64 x = x := by unfold wrap64; omega
theorem pick_ev {b : List Int} (hb : Bytes b) (hl : b.length ≤ 2000) {p : Int} (h0 : 0 ≤ p) (h1 : p ≤ 1000000000) (n : Int) : ∃ v, Ev (fun k => spec_l20Rd_pick.f k b p n) (v, p + 1) ∧ 0 ≤ v ∧ (1 ≤ n → v < n) := by
 have w1:wrap64 (p+1)=p+1:=wrap_pos (by omega) (by omega)
 have w2:wrap64 (p+1 - 1)=p:=by rw [Int.add_sub_cancel];exact wrap_pos (by omega) (by omega)
 have hz:Ev (fun k=>spec_l20Rd_pick.j0 k n true b (p+1)) (0,p+1):=by
  refine Ev.succ ?_
  simp only [spec_l20Rd_pick.j0]
  repeat(with_reducible first|refine Ev.ip ?_|refine Ev.iq ?_)
  exact Ev.now _
 unfold spec_l20Rd_pick.f
 rw [w1]
 by_cases hn:n<1
 ·exact⟨0,Ev.ite_pos hn hz,by omega,fun h=>by omega⟩
 by_cases hlen:b.length=0
 ·refine⟨0,Ev.ite_neg hn ?_,by omega,fun h=>by omega⟩
  rw [show ((b.length:Int)==0)=true by rw [hlen];rfl]
  exact hz
 have hbf:((b.length:Int)==0)=false:=by rw [beq_eq_false_iff_ne];omega
 by_cases hp:p<(b.length:Int)
 ·obtain⟨r0,r1⟩:=bytes_rd hb p
  have hm:=pick_mod (x:=rd b p) (n:=n) r0 (by omega)
  refine⟨Int.tmod (rd b p) n,Ev.ite_neg hn ?_,hm.1,fun _=>hm.2⟩
  rw [hbf]
  refine Ev.succ ?_
  simp only [spec_l20Rd_pick.j0,w2]
  rw [wrap_pos (x:=rd b p) r0 (by omega)]
  refine Ev.ite_neg (by simp) (Ev.ite_pos hp (Ev.ite_pos h0 (Ev.ite_neg (by omega) (Ev.now _))))
 ·have m1:=pick_mod (x:=p) (n:=(b.length:Int)) h0 (by omega)
  have w3:wrap64 (wrap64 (p*7)+3)=p*7+3:=by
   rw [wrap_pos (x:=p*7) (by omega) (by omega)]
   exact wrap_pos (by omega) (by omega)
  have m2:=pick_mod (x:=p*7+3) (n:=(b.length:Int)) (by omega) (by omega)
  obtain⟨a0,a1⟩:=bytes_rd hb (Int.tmod p b.length)
  obtain⟨c0,c1⟩:=bytes_rd hb (Int.tmod (p*7+3) b.length)
  have hd:0≤Int.tdiv p b.length∧Int.tdiv p b.length≤p:=by
   rw [Int.tdiv_eq_ediv_of_nonneg h0]
   exact⟨Int.ediv_nonneg h0 (by omega),Int.ediv_le_self _ h0⟩
  generalize hA:rd b (Int.tmod p b.length)=A at a0 a1
  generalize hC:rd b (Int.tmod (p*7+3) b.length)=C at c0 c1
  generalize hD:Int.tdiv p b.length=D at hd
  obtain⟨x,hx⟩: ∃x:Nat,A*131+C*1117+p*29+D*53=(x:Int):=⟨(A*131+C*1117+p*29+D*53).toNat,by omega⟩
  have hx2:x≤1000000000000:=by omega
  obtain⟨y,hy⟩: ∃y:Nat,Int.tdiv (x:Int) 64=(y:Int):=⟨x / 64,by rw [Int.tdiv_eq_ediv_of_nonneg (by omega)];omega⟩
  have hy2:y≤1000000000000:=by
   have:Int.tdiv (x:Int) 64≤x:=by rw [Int.tdiv_eq_ediv_of_nonneg (by omega)];omega
   omega
  have hm:=pick_mod (x:=((x ^^^ y:Nat):Int)) (n:=n) (by omega) (by omega)
  refine⟨Int.tmod ((x ^^^ y:Nat):Int) n,Ev.ite_neg hn ?_,hm.1,fun _=>hm.2⟩
  rw [hbf]
  refine Ev.succ ?_
  simp only [spec_l20Rd_pick.j0,w2,w3,hA,hC,hD]
  rw [wrap_pos (x:=A) a0 (by omega),wrap_pos (x:=C) c0 (by omega),wrap_pos (x:=A*131) (by omega) (by omega),wrap_pos (x:=C*1117) (by omega) (by omega),wrap_pos (x:=A*131+C*1117) (by omega) (by omega),wrap_pos (x:=p*29) (by omega) (by omega),wrap_pos (x:=A*131+C*1117+p*29) (by omega) (by omega),wrap_pos (x:=D) hd.1 (by omega),wrap_pos (x:=D*53) (by omega) (by omega),wrap_pos (x:=A*131+C*1117+p*29+D*53) (by omega) (by omega),hx,hy,wrap_pos (x:=(y:Int)) (by omega) (by omega),bxor_nat x y (by omega) (by omega)]
  exact Ev.ite_neg (by simp) (Ev.ite_neg hp (Ev.ite_neg (by omega) (Ev.ite_pos m1.1 (Ev.ite_pos m1.2 (Ev.ite_pos m2.1 (Ev.ite_pos m2.2 (Ev.ite_neg (by omega) (Ev.now _))))))))
theorem odd_ev {b : List Int} (hb : Bytes b) (hl : b.length ≤ 2000) {p : Int} (h0 : 0 ≤ p) (h1 : p ≤ 1000000000) (n : Int) : ∃ v q, Ev (fun k => spec_l20Rd_odd.f k b p n) (v, q) ∧ p ≤ q ∧ q ≤ p + 1 := by
 unfold spec_l20Rd_odd.f
 by_cases hn:n>0
 ·obtain⟨v,hv,_,_⟩:=pick_ev hb hl h0 h1 n
  exact⟨_,_,Ev.ite_pos hn (Ev.bind hv (Ev.now _)),by omega,by omega⟩
 ·exact⟨_,_,Ev.ite_neg hn (Ev.now _),by omega,by omega⟩
theorem open_ev {l : List Int} (h : Bytes l) : ∃ b, Bytes b ∧ b.length ≤ 2000 ∧ spec_l20Open.f l = some (b, 0) := by
 unfold spec_l20Open.f
 by_cases hl:(l.length:Int)>2000
 ·rw [if_pos hl,if_pos (by omega)]
  exact⟨l.take 2000,fun x hx=>h x (List.mem_of_mem_take hx),by rw [List.length_take];omega,rfl⟩
 ·rw [if_neg hl]
  exact⟨l,h,by omega,rfl⟩
structure Sq (n : Nat) (U : List (List Int)) (N : List Int) : Prop where
 pos:1≤n
 small:n≤100
 len:U.length=n
 row: ∀r ∈ U,r.length=n
 lenN:N.length=n
 ran: ∀x ∈ N,0≤x∧x<(n:Int)
def sqB (r : List (List Int) × List Int) : Bool := decide (1 ≤ r.2.length) && (decide (r.2.length ≤ 100) && ((r.1.length == r.2.length) && (r.1.all (fun x => x.length == r.2.length) && r.2.all (fun x => decide (0 ≤ x) && decide (x < (r.2.length : Int))))))
theorem sq_of {r : List (List Int) × List Int} (h : sqB r = true) : Sq r.2.length r.1 r.2 := by
 unfold sqB at h
 simp only [Bool.and_eq_true,decide_eq_true_eq,beq_iff_eq,List.all_eq_true] at h
 obtain⟨h1,h2,h3,h4,h5⟩:=h
 exact⟨h1,h2,h3,h4,rfl,h5⟩
def gB (x : Int) : List (List Int) × List Int := (spec_l20Boole.f 150 x).getD ([], [])
set_option maxRecDepth 100000 in
theorem gB_ev {x : Int} (h0 : 0 ≤ x) (h1 : x < 4) : Ev (fun k => spec_l20Boole.f k x) ((gB x).1, (gB x).2) ∧ sqB (gB x) = true := by
 have hx:x=0∨x=1∨x=2∨x=3:=by omega
 rcases hx with rfl|rfl|rfl|rfl
 ·exact⟨Ev.of (spec_l20Boole.mono _) (k:=150) zqk,by kernel_rfl⟩
 ·exact⟨Ev.of (spec_l20Boole.mono _) (k:=150) zqk,by kernel_rfl⟩
 ·exact⟨Ev.of (spec_l20Boole.mono _) (k:=150) zqk,by kernel_rfl⟩
 ·exact⟨Ev.of (spec_l20Boole.mono _) (k:=150) zqk,by kernel_rfl⟩
def gG (a b : List (List Int) × List Int) : List (List Int) × List Int := (spec_l20Glued.f 900 a.1 a.2 b.1 b.2).getD ([], [])
def gS : List (List Int) × List Int := spec_l20Six.f.getD ([], [])
def gP : List (List Int) × List Int := (spec_l20Pasted.f 900).getD ([], [])
set_option maxRecDepth 100000 in
theorem g22 : Ev (fun k => spec_l20Glued.f k (gB 2).1 (gB 2).2 (gB 2).1 (gB 2).2) ((gG (gB 2) (gB 2)).1, (gG (gB 2) (gB 2)).2) ∧ sqB (gG (gB 2) (gB 2)) = true :=
 ⟨Ev.of (spec_l20Glued.mono _ _ _ _) (k:=900) zqk,by kernel_rfl⟩
set_option maxRecDepth 100000 in
theorem g23 : Ev (fun k => spec_l20Glued.f k (gB 2).1 (gB 2).2 (gB 3).1 (gB 3).2) ((gG (gB 2) (gB 3)).1, (gG (gB 2) (gB 3)).2) ∧ sqB (gG (gB 2) (gB 3)) = true :=
 ⟨Ev.of (spec_l20Glued.mono _ _ _ _) (k:=900) zqk,by kernel_rfl⟩
set_option maxRecDepth 100000 in
theorem g222 : Ev (fun k => spec_l20Glued.f k (gG (gB 2) (gB 2)).1 (gG (gB 2) (gB 2)).2 (gB 2).1 (gB 2).2) ((gG (gG (gB 2) (gB 2)) (gB 2)).1, (gG (gG (gB 2) (gB 2)) (gB 2)).2) ∧ sqB (gG (gG (gB 2) (gB 2)) (gB 2)) = true :=
 ⟨Ev.of (spec_l20Glued.mono _ _ _ _) (k:=900) zqk,by kernel_rfl⟩
set_option maxRecDepth 100000 in
theorem gS2 : Ev (fun k => spec_l20Glued.f k gS.1 gS.2 (gB 2).1 (gB 2).2) ((gG gS (gB 2)).1, (gG gS (gB 2)).2) ∧ sqB (gG gS (gB 2)) = true :=
 ⟨Ev.of (spec_l20Glued.mono _ _ _ _) (k:=900) zqk,by kernel_rfl⟩
theorem gS_ev : spec_l20Six.f = some (gS.1, gS.2) ∧ sqB gS = true := ⟨by kernel_rfl, by kernel_rfl⟩
set_option maxRecDepth 100000 in
theorem gP_ev : Ev (fun k => spec_l20Pasted.f k) (gP.1, gP.2) ∧ sqB gP = true := ⟨Ev.of spec_l20Pasted.mono (k := 900) (by kernel_rfl), by kernel_rfl⟩
theorem Ev.run {σ ρ : Type} {g : Nat → σ → Int → Option ρ} (n : Nat) (I : Nat → σ → Prop) (hn : n < 4611686018427387904)
 (hstep: ∀i s,i<n→I i s→ ∃s',I (i+1) s'∧ ∀R,Ev (fun k=>g k s' (wrap64 ((i:Int)+1))) R→Ev (fun k=>g k s (i:Int)) R): ∀s,I 0 s→ ∃s',I n s'∧ ∀R,Ev (fun k=>g k s' (n:Int)) R→Ev (fun k=>g k s 0) R:=by
 have key: ∀i,i≤n→ ∀s,I 0 s→ ∃s',I i s'∧ ∀R,Ev (fun k=>g k s' (i:Int)) R→Ev (fun k=>g k s 0) R:=by
  intro i
  induction i with
  |zero=>intro _ s hs;exact⟨s,hs,fun R h=>h⟩
  |succ i ih=>
   intro hi s hs
   obtain⟨s1,h1,k1⟩:=ih (by omega) s hs
   obtain⟨s2,h2,k2⟩:=hstep i s1 (by omega) h1
   refine⟨s2,h2,fun R h=>k1 R (k2 R ?_)⟩
   rw [wrap_nat (by omega)]
   exact h
 exact fun s hs=>key n (Nat.le_refl _) s hs
theorem rd_mem {xs : List Int} {i : Int} (h0 : 0 ≤ i) (h1 : i < (xs.length : Int)) : rd xs i ∈ xs := by
 have hi:i.toNat<xs.length:=by omega
 have e:rd xs i=xs[i.toNat]:=by
  show xs.getD i.toNat 0=_
  rw [List.getD_eq_getElem?_getD,List.getElem?_eq_getElem hi];rfl
 rw [e];exact List.getElem_mem hi
theorem rdL_mem {xs : List (List Int)} {i : Int} (h0 : 0 ≤ i) (h1 : i < (xs.length : Int)) : rd_L2 xs i ∈ xs := by
 obtain⟨m,rfl⟩: ∃m:Nat,i=(m:Int):=⟨i.toNat,by omega⟩
 have hi:m<xs.length:=by omega
 rw [rdL_nat,List.getD_eq_getElem?_getD,List.getElem?_eq_getElem hi]
 exact List.getElem_mem hi
structure Sh (n : Nat) (U : List (List Int)) (N : List Int) : Prop where
 len : U.length = n
 row : ∀ r ∈ U, r.length = n
 lenN : N.length = n
theorem Sq.sh {n : Nat} {U : List (List Int)} {N : List Int} (h : Sq n U N) : Sh n U N := ⟨h.len, h.row, h.lenN⟩
theorem rename_ev {n : Nat} {U : List (List Int)} {N : List Int} (S : Sq n U N) {o : List Int} (ho : o.length = n) (hr : ∀ x ∈ o, 0 ≤ x ∧ x < (n : Int)) : ∃ V M, Sh n V M ∧ Ev (fun k => spec_l20Rename.f k U N o) (V, M) := by
 have hn:=S.pos
 have hs:=S.small
 have hU:=S.len
 have hN:=S.lenN
 obtain⟨back,hb,kb⟩:=Ev.run (ρ:=List (List Int) × List Int) (g:=fun k (s:List Int) i=>spec_l20Rename.l0 k o s i U N) n (fun _ s=>s.length=n) (by omega) (fun i s hi hl=>by
  have r1:=hr _ (rd_mem (xs:=o) (i:=(i:Int)) (by omega) (by omega))
  have r2:=r1.1
  have r3:=r1.2
  refine⟨s.set (rd o (i:Int)).toNat (i:Int),by rw [List.length_set];exact hl,fun R h=>Ev.succ ?_⟩
  simp only [spec_l20Rename.l0]
  exact Ev.ite_pos (by omega) (Ev.ite_pos (by omega) (Ev.ite_pos r2 (Ev.ite_pos (by omega) h)))) (List.replicate ((o.length:Int)).toNat 0) (by simp [ho])
 have hrow: ∀(i:Nat) (V:List (List Int)) (M:List Int),i<n→ ∃row:List Int,row.length=n∧ ∀R,Ev (fun k=>spec_l20Rename.l2 k o back (i:Int) row (n:Int) U N V M) R→Ev (fun k=>spec_l20Rename.l2 k o back (i:Int) [] 0 U N V M) R:=by
  intro i V M hi
  have r1:=hr _ (rd_mem (xs:=o) (i:=(i:Int)) (by omega) (by omega))
  have r2:=r1.1
  have r3:=r1.2
  have rl:=S.row _ (rdL_mem (xs:=U) (i:=rd o (i:Int)) r2 (by omega))
  exact Ev.run (ρ:=List (List Int) × List Int) (g:=fun k (s:List Int) j=>spec_l20Rename.l2 k o back (i:Int) s j U N V M) n (fun j s=>s.length=j) (by omega) (fun j s hj hl=>by
   have q1:=hr _ (rd_mem (xs:=o) (i:=(j:Int)) (by omega) (by omega))
   have q2:=q1.1
   have q3:=q1.2
   refine⟨s ++ [rd (rd_L2 U (rd o (i:Int))) (rd o (j:Int))],by rw [List.length_append,hl];rfl,fun R h=>Ev.succ ?_⟩
   simp only [spec_l20Rename.l2]
   exact Ev.ite_pos (by omega) (Ev.ite_pos (by omega) (Ev.ite_pos (by omega) (Ev.ite_pos r2 (Ev.ite_pos (by omega) (Ev.ite_pos (by omega) (Ev.ite_pos q2 (Ev.ite_pos (by omega) (Ev.ite_pos (by omega) h))))))))) [] rfl
 obtain⟨⟨V,M⟩,⟨hV,hVr,hM⟩,kV⟩:=Ev.run (ρ:=List (List Int) × List Int) (g:=fun k (s:List (List Int) × List Int) i=>spec_l20Rename.l1 k o back i U N s.1 s.2) n (fun i s=>s.1.length=i∧(∀r ∈ s.1,r.length=n)∧s.2.length=i) (by omega) (fun i s hi hl=>by
  obtain⟨V,M⟩:=s
  obtain⟨h1,h2,h3⟩:=hl
  have h1':V.length=i:=h1
  have h3':M.length=i:=h3
  have r1:=hr _ (rd_mem (xs:=o) (i:=(i:Int)) (by omega) (by omega))
  have r2:=r1.1
  have r3:=r1.2
  have n1:=S.ran _ (rd_mem (xs:=N) (i:=rd o (i:Int)) r2 (by omega))
  have n2:=n1.1
  have n3:=n1.2
  obtain⟨row,hrl,kr⟩:=hrow i V M hi
  refine⟨(V ++ [row],M ++ [rd back (rd N (rd o (i:Int)))]),⟨by simp [h1'],?_,by simp [h3']⟩,fun R h=>Ev.succ ?_⟩
  ·intro r hr'
   rcases List.mem_append.1 hr' with hr'|hr'
   ·exact h2 r hr'
   ·rw [List.mem_singleton.1 hr'];exact hrl
  ·simp only [spec_l20Rename.l1]
   refine Ev.ite_pos (by omega) (kr R (Ev.succ ?_))
   simp only [spec_l20Rename.l2]
   exact Ev.ite_neg (by omega) (Ev.ite_pos (by omega) (Ev.ite_pos (by omega) (Ev.ite_pos (by omega) (Ev.ite_pos r2 (Ev.ite_pos (by omega) (Ev.ite_pos n2 (Ev.ite_pos (by omega) (Ev.ite_pos (by omega) h))))))))) ([],[]) ⟨rfl,(fun _ h=>by cases h),rfl⟩
 refine⟨V,M,⟨hV,hVr,hM⟩,?_⟩
 unfold spec_l20Rename.f
 refine Ev.ite_pos (by omega) (Ev.ite_pos (by omega) (kb _ (Ev.succ ?_)))
 simp only [spec_l20Rename.l0]
 refine Ev.ite_neg (by omega) (kV _ (Ev.succ ?_))
 simp only [spec_l20Rename.l1]
 exact Ev.ite_neg (by omega) (Ev.now _)
section
section
variable {b : List Int} (hb : Bytes b) (hl : b.length ≤ 2000)
include hb hl
theorem lg_j5 {m : Nat} (hm : 1 ≤ m) (hm2 : m ≤ 100) {U : List (List Int)} {N : List Int} (S : Sh m U N) {p : Int} (h0 : 0 ≤ p) (h1 : p ≤ 999999900) (n : Int) :
 ∃V M q,Ev (fun k=>spec_l20Logic.j5 k n b p U N) (V,M,q)∧p≤q∧q≤p+4:=by
 have hU:=S.len
 have hN:=S.lenN
 obtain⟨o,p1,ho,q1,q2⟩:=odd_ev hb hl h0 (by omega) n
 cases o with
 |false=>
  refine⟨U,N,p1,Ev.succ ?_,by omega,by omega⟩
  simp only [spec_l20Logic.j5]
  refine Ev.bind ho ?_
  dsimp only
  exact Ev.ite_neg (by decide) (Ev.now _)
 |true=>
  obtain⟨v,hv,v0,v1⟩:=pick_ev hb hl (p:=p1) (by omega) (by omega) 4
  have v2:=v1 (by omega)
  by_cases e0:v=0
  ·refine⟨[],[],p1+1,Ev.succ ?_,?_,?_⟩
   ·simp only [spec_l20Logic.j5]
    refine Ev.bind ho ?_
    dsimp only
    refine Ev.ite_pos rfl (Ev.bind hv ?_)
    dsimp only
    exact Ev.ite_pos e0 (Ev.now _)
   ·omega
   ·omega
  by_cases e1:v=1
  ·refine⟨U,N.drop (1:Int).toNat,p1+1,Ev.succ ?_,?_,?_⟩
   ·simp only [spec_l20Logic.j5]
    refine Ev.bind ho ?_
    dsimp only
    refine Ev.ite_pos rfl (Ev.bind hv ?_)
    dsimp only
    exact Ev.ite_neg e0 (Ev.ite_pos e1 (Ev.ite_pos (by omega) (Ev.now _)))
   ·omega
   ·omega
  by_cases e2:v=2
  ·obtain⟨x,hx,x0,x1⟩:=pick_ev hb hl (p:=p1+1) (by omega) (by omega) (N.length:Int)
   have x2:=x1 (by omega)
   obtain⟨y,hy,y0,y1⟩:=pick_ev hb hl (p:=p1+1+1) (by omega) (by omega) (wrap64 ((N.length:Int)+1))
   refine⟨U,N.set (x:Int).toNat y,p1+1+1+1,Ev.succ ?_,?_,?_⟩
   ·simp only [spec_l20Logic.j5]
    refine Ev.bind ho ?_
    dsimp only
    refine Ev.ite_pos rfl (Ev.bind hv ?_)
    dsimp only
    refine Ev.ite_neg e0 (Ev.ite_neg e1 (Ev.ite_pos e2 (Ev.bind hx (Ev.bind hy ?_))))
    dsimp only
    exact Ev.ite_pos x0 (Ev.ite_pos x2 (Ev.now _))
   ·omega
   ·omega
  ·have w1:wrap64 ((U.length:Int) - 1)=(U.length:Int) - 1:=wrap_pos (by omega) (by omega)
   have rl:=S.row _ (rdL_mem (xs:=U) (i:=(U.length:Int) - 1) (by omega) (by omega))
   refine⟨U.set ((U.length:Int) - 1).toNat ((rd_L2 U ((U.length:Int) - 1)).set (0:Int).toNat 1),N,p1+1,Ev.succ ?_,?_,?_⟩
   ·simp only [spec_l20Logic.j5]
    refine Ev.bind ho ?_
    dsimp only
    refine Ev.ite_pos rfl (Ev.bind hv ?_)
    dsimp only
    refine Ev.ite_neg e0 (Ev.ite_neg e1 (Ev.ite_neg e2 ?_))
    simp only [w1]
    exact Ev.ite_pos (by omega) (Ev.ite_pos (by omega) (Ev.ite_pos (by omega) (Ev.now _)))
   ·omega
   ·omega
theorem lg_l1 {U : List (List Int)} {N : List Int} {m i : Nat} (him : i < m) (hm : m ≤ 100) (n q v : Int) (v0 : 0 ≤ v) : ∀ (d : Nat) (o : List Int) (j : Int), j = v + d → j ≤ i → o.length = i + 1 → (∀ x ∈ o, 0 ≤ x ∧ x < (m : Int)) →
 ∃o':List Int,o'.length=i+1∧(∀x ∈ o',0≤x∧x<(m:Int))∧ ∀R,Ev (fun k=>spec_l20Logic.l1 k n o' (i:Int) v v b q U N) R→Ev (fun k=>spec_l20Logic.l1 k n o (i:Int) v j b q U N) R:=by
 intro d
 induction d with
 |zero=>
  intro o j hj _ hlen hr
  obtain rfl:j=v:=by omega
  exact⟨o,hlen,hr,fun R h=>h⟩
 |succ d ih=>
  intro o j hj hji hlen hr
  have w1:wrap64 (j - 1)=j - 1:=wrap_pos (by omega) (by omega)
  have hr1:=hr _ (rd_mem (xs:=o) (i:=j - 1) (by omega) (by omega))
  obtain⟨o',k1,k2,k3⟩:=ih (o.set j.toNat (rd o (j - 1))) (j - 1) (by omega) (by omega) (by rw [List.length_set];exact hlen) (fun x hx=>by
   rcases List.mem_or_eq_of_mem_set hx with hx|rfl
   ·exact hr x hx
   ·exact hr1)
  refine⟨o',k1,k2,fun R h=>Ev.succ ?_⟩
  simp only [spec_l20Logic.l1,w1]
  exact Ev.ite_pos (by omega) (Ev.ite_pos (by omega) (Ev.ite_pos (by omega) (Ev.ite_pos (by omega) (Ev.ite_pos (by omega) (k3 R h)))))
theorem lg_j2 {m : Nat} {U : List (List Int)} {N : List Int} (S : Sq m U N) {p : Int} (h0 : 0 ≤ p) (h1 : p ≤ 999999700) (n : Int) :
 ∃V M q,Ev (fun k=>spec_l20Logic.j2 k n b p U N) (V,M,q)∧p≤q∧q≤p+110:=by
 have hm:=S.pos
 have hm2:=S.small
 have hU:=S.len
 have hN:=S.lenN
 obtain⟨⟨o,p1⟩,⟨i1,i2,i3,i4⟩,ko⟩:=Ev.run (ρ:=List (List Int) × List Int × Int) (g:=fun k (s:List Int × Int) i=>spec_l20Logic.l0 k n s.1 i b s.2 U N) m (fun i s=>s.1.length=i∧(∀x ∈ s.1,0≤x∧x<(m:Int))∧p≤s.2∧s.2≤p+(i:Int)) (by omega) (fun i s hi hs=>by
  obtain⟨o,q⟩:=s
  obtain⟨j1,j2,j3,j4⟩:=hs
  have j1':o.length=i:=j1
  have j3':p≤q:=j3
  have j4':q≤p+(i:Int):=j4
  have w1:wrap64 ((i:Int)+1)=(i:Int)+1:=wrap_pos (by omega) (by omega)
  obtain⟨v,hv,v0,v1⟩:=pick_ev hb hl (p:=q) (by omega) (by omega) ((i:Int)+1)
  have v2:=v1 (by omega)
  obtain⟨o',k1,k2,k3⟩:=lg_l1 hb hl (U:=U) (N:=N) hi hm2 n (q+1) v v0 ((i:Int) - v).toNat (o ++ [(i:Int)]) (i:Int) (by omega) (by omega) (by rw [List.length_append,j1'];rfl) (fun x hx=>by
   rcases List.mem_append.1 hx with hx|hx
   ·exact j2 x hx
   ·rw [List.mem_singleton.1 hx];omega)
  refine⟨(o'.set v.toNat (i:Int),q+1),⟨by rw [List.length_set];exact k1,fun x hx=>?_,by show p≤q+1;omega,by show q+1≤p+((i+1:Nat):Int);omega⟩,fun R h=>Ev.succ ?_⟩
  ·rcases List.mem_or_eq_of_mem_set hx with hx|rfl
   ·exact k2 x hx
   ·omega
  ·rw [w1] at h
   simp only [spec_l20Logic.l0,w1]
   refine Ev.ite_pos (by omega) (Ev.bind hv ?_)
   dsimp only
   refine Ev.ite_pos (by omega) (k3 R (Ev.succ ?_))
   simp only [spec_l20Logic.l1,w1]
   exact Ev.ite_neg (by omega) (Ev.ite_pos (by omega) (Ev.ite_pos (by omega) h))) ([],p) ⟨rfl,(fun _ h=>by cases h),Int.le_refl _,by show p≤p+((0:Nat):Int);omega⟩
 have i1':o.length=m:=i1
 have i3':p≤p1:=i3
 have i4':p1≤p+(m:Int):=i4
 obtain⟨v,hv,v0,v1⟩:=pick_ev hb hl (p:=p1) (by omega) (by omega) 2
 have fin: ∀V M,Sh m V M→ ∃V' M' q,Ev (fun k=>spec_l20Logic.j5 k n b (p1+1) V M) (V',M',q)∧p≤q∧q≤p+110:=fun V M hS=>by
  obtain⟨V',M',q,h,k1,k2⟩:=lg_j5 hb hl hm hm2 hS (p:=p1+1) (by omega) (by omega) n
  exact⟨V',M',q,h,by omega,by omega⟩
 by_cases e:v=0
 ·obtain⟨V,M,hS,hR⟩:=rename_ev S i1' i2
  obtain⟨V',M',q,h,k1,k2⟩:=fin V M hS
  refine⟨V',M',q,Ev.succ ?_,k1,k2⟩
  simp only [spec_l20Logic.j2]
  refine ko _ (Ev.succ ?_)
  simp only [spec_l20Logic.l0]
  refine Ev.ite_neg (by omega) (Ev.bind hv ?_)
  dsimp only
  exact Ev.ite_pos e (Ev.bind hR h)
 ·obtain⟨V',M',q,h,k1,k2⟩:=fin U N S.sh
  refine⟨V',M',q,Ev.succ ?_,k1,k2⟩
  simp only [spec_l20Logic.j2]
  refine ko _ (Ev.succ ?_)
  simp only [spec_l20Logic.l0]
  refine Ev.ite_neg (by omega) (Ev.bind hv ?_)
  dsimp only
  exact Ev.ite_neg e h
theorem lg_j2' {r : List (List Int) × List Int} (S : sqB r = true) {p : Int} (h0 : 0 ≤ p) (h1 : p ≤ 999999700) (n : Int) :
 ∃V M q,Ev (fun k=>spec_l20Logic.j2 k n b p r.1 r.2) (V,M,q)∧p≤q∧q≤p+110:=lg_j2 hb hl (sq_of S) h0 h1 n
theorem logic_ev {p : Int} (h0 : 0 ≤ p) (h1 : p ≤ 999999600) (n : Int) : ∃ V M q, Ev (fun k => spec_l20Logic.f k b p n) (V, M, q) ∧ p ≤ q ∧ q ≤ p + 120 := by
 obtain⟨v,hv,v0,v1⟩:=pick_ev hb hl h0 (by omega) 9
 have v2:=v1 (by omega)
 have key: ∃V M q,Ev (fun k=>spec_l20Logic.j0 k n v (if v=0 then(v==0) else(v==1)) b (p+1)) (V,M,q)∧p≤q∧q≤p+120:=by
  have hj1: ¬(v=0)→ ¬(v=1)→(∃V M q,Ev (fun k=>spec_l20Logic.j1 k n v (if v=2 then(v==2) else(v==3)) b (p+1)) (V,M,q)∧p≤q∧q≤p+120)→ ∃V M q,Ev (fun k=>spec_l20Logic.j0 k n v (if v=0 then(v==0) else(v==1)) b (p+1)) (V,M,q)∧p≤q∧q≤p+120:=by
   rintro e0 e1 ⟨V,M,q,h,k⟩
   refine⟨V,M,q,Ev.succ ?_,k⟩
   simp only [spec_l20Logic.j0]
   rw [if_neg e0]
   refine Ev.ite_neg (by simpa using e1) ?_
   by_cases e2:v=2
   ·rw [if_pos e2] at h
    exact Ev.ite_pos e2 h
   ·rw [if_neg e2] at h
    exact Ev.ite_neg e2 h
  have hend: ∀r,sqB r=true→ ∃V M q,Ev (fun k=>spec_l20Logic.j2 k n b (p+1) r.1 r.2) (V,M,q)∧p≤q∧q≤p+120:=fun r hr=>by
   obtain⟨V,M,q,h,k1,k2⟩:=lg_j2' hb hl hr (p:=p+1) (by omega) (by omega) n
   exact⟨V,M,q,h,by omega,by omega⟩
  have B2:=(gB_ev (x:=2) (by omega) (by omega)).1
  have B3:=(gB_ev (x:=3) (by omega) (by omega)).1
  have hvs:(v=0∨v=1)∨(v=2∨v=3)∨v=4∨v=5∨v=6∨v=7∨v=8:=by omega
  rcases hvs with e|e|e|e|e|e|e
  ·obtain⟨x,hx,x0,x1⟩:=pick_ev hb hl (p:=p+1) (by omega) (by omega) 4
   obtain⟨g1,g2⟩:=gB_ev x0 (x1 (by omega))
   obtain⟨V,M,q,h,k1,k2⟩:=lg_j2' hb hl g2 (p:=p+1+1) (by omega) (by omega) n
   refine⟨V,M,q,Ev.succ ?_,by omega,by omega⟩
   simp only [spec_l20Logic.j0]
   refine Ev.ite_pos (by rcases e with rfl|rfl <;> rfl) (Ev.bind hx (Ev.bind g1 h))
  ·obtain⟨V,M,q,h,k⟩:=hend _ g22.2
   refine hj1 (by omega) (by omega) ⟨V,M,q,Ev.succ ?_,k⟩
   simp only [spec_l20Logic.j1]
   exact Ev.ite_pos (by rcases e with rfl|rfl <;> rfl) (Ev.bind B2 (Ev.bind B2 (Ev.bind g22.1 h)))
  ·obtain⟨V,M,q,h,k⟩:=hend _ g23.2
   subst e
   refine hj1 (by omega) (by omega) ⟨V,M,q,Ev.succ ?_,k⟩
   simp only [spec_l20Logic.j1]
   exact Ev.ite_neg (by simp) (Ev.ite_pos (by simp) (Ev.bind B2 (Ev.bind B3 (Ev.bind g23.1 h))))
  ·obtain⟨V,M,q,h,k⟩:=hend _ g222.2
   subst e
   refine hj1 (by omega) (by omega) ⟨V,M,q,Ev.succ ?_,k⟩
   simp only [spec_l20Logic.j1]
   exact Ev.ite_neg (by simp) (Ev.ite_neg (by simp) (Ev.ite_pos (by simp) (Ev.bind B2 (Ev.bind B2 (Ev.bind g22.1 (Ev.bind B2 (Ev.bind g222.1 h)))))))
  ·obtain⟨V,M,q,h,k⟩:=hend _ gS_ev.2
   subst e
   refine hj1 (by omega) (by omega) ⟨V,M,q,Ev.succ ?_,k⟩
   simp only [spec_l20Logic.j1]
   exact Ev.ite_neg (by simp) (Ev.ite_neg (by simp) (Ev.ite_neg (by simp) (Ev.ite_pos (by simp) (Ev.pbind gS_ev.1 h))))
  ·obtain⟨V,M,q,h,k⟩:=hend _ gS2.2
   subst e
   refine hj1 (by omega) (by omega) ⟨V,M,q,Ev.succ ?_,k⟩
   simp only [spec_l20Logic.j1]
   exact Ev.ite_neg (by simp) (Ev.ite_neg (by simp) (Ev.ite_neg (by simp) (Ev.ite_neg (by simp) (Ev.ite_pos (by simp) (Ev.pbind gS_ev.1 (Ev.bind B2 (Ev.bind gS2.1 h)))))))
  ·obtain⟨V,M,q,h,k⟩:=hend _ gP_ev.2
   subst e
   refine hj1 (by omega) (by omega) ⟨V,M,q,Ev.succ ?_,k⟩
   simp only [spec_l20Logic.j1]
   exact Ev.ite_neg (by simp) (Ev.ite_neg (by simp) (Ev.ite_neg (by simp) (Ev.ite_neg (by simp) (Ev.ite_neg (by simp) (Ev.bind gP_ev.1 h)))))
 obtain⟨V,M,q,h,k⟩:=key
 refine⟨V,M,q,?_,k⟩
 unfold spec_l20Logic.f
 refine Ev.bind hv ?_
 dsimp only
 by_cases e:v=0
 ·rw [if_pos e] at h
  exact Ev.ite_pos e h
 ·rw [if_neg e] at h
  exact Ev.ite_neg e h
end
end
theorem sameInts_ev (l : List Int) (hl : l.length < 4611686018427387904) : Ev (fun k => laws_sameInts.f k l l) true := by
 unfold laws_sameInts.f
 refine Ev.ite_pos rfl ?_
 refine Ev.loop (g:=fun k (_:Unit) i=>laws_sameInts.l0 k l l i) l.length (fun _ _=>True) hl (fun _ _=>?_) (fun i _ hi _=>⟨(),trivial,fun hn=>?_⟩) () trivial
 ·refine Ev.succ ?_
  simp only [laws_sameInts.l0]
  exact Ev.ite_neg (by omega) (Ev.now _)
 ·refine Ev.succ ?_
  simp only [laws_sameInts.l0]
  exact Ev.ite_pos (by omega) (Ev.ite_pos (by omega) (Ev.ite_pos (by omega) (Ev.ite_pos (by simp) hn)))
theorem wrap_pos' {x : Int} (h : 0 ≤ x) (h2 : x ≤ 4611686018427387904) : wrap64 x = x := by unfold wrap64; omega
theorem filI_lt {n : Nat} {p : Nat → Bool} {i : Nat} (hi : i + 1 < (filI n p).length) : at1 (filI n p) i < at1 (filI n p) (i + 1) := by
 rw [filI_at,filI_at]
 have hl:(filI n p).length=(filN n p).length:=filI_len _ _
 have hp:(filN n p).Pairwise (· < ·):=List.Pairwise.filter _ List.pairwise_lt_range
 have h1:=List.pairwise_iff_getElem.1 hp i (i+1) (by omega) (by omega) (by omega)
 rw [List.getD_eq_getElem?_getD,List.getD_eq_getElem?_getD,List.getElem?_eq_getElem (by omega),List.getElem?_eq_getElem (by omega)]
 show (((filN n p)[i]:Nat):Int)<(((filN n p)[i+1]:Nat):Int)
 omega
theorem ascend_ev {n : Nat} (p : Nat → Bool) (hn : n < 4611686018427387904) : Ev (fun k => laws_ascend.f k (filI n p)) true := by
 have hfl:=filI_length n p
 unfold laws_ascend.f
 have key: ∀d i:Nat,1≤i→(filI n p).length≤i+d→i≤n+1→Ev (fun k=>laws_ascend.l0 k (filI n p) (i:Int)) true:=by
  intro d
  induction d with
  |zero=>
   intro i _ h _
   refine Ev.succ ?_
   simp only [laws_ascend.l0]
   exact Ev.ite_neg (by omega) (Ev.now _)
  |succ d ih=>
   intro i h1 h h2
   refine Ev.succ ?_
   simp only [laws_ascend.l0]
   by_cases hi:i<(filI n p).length
   ·have w1:wrap64 ((i:Int) - 1)=((i - 1:Nat):Int):=by rw [wrap_pos' (by omega) (by omega)];omega
    have w2:wrap64 ((i:Int)+1)=((i+1:Nat):Int):=wrap_nat (by omega)
    have hlt:=filI_lt (n:=n) (p:=p) (i:=i - 1) (by omega)
    rw [show i - 1+1=i by omega] at hlt
    rw [w1,w2,rd_nat,rd_nat]
    exact Ev.ite_pos (by omega) (Ev.ite_pos (by omega) (Ev.ite_pos (by omega) (Ev.ite_pos (by omega) (Ev.ite_neg (by omega) (ih (i+1) (by omega) (by omega) (by omega))))))
   ·exact Ev.ite_neg (by omega) (Ev.now _)
 by_cases h0:n=0
 ·have:=key 0 1 (Nat.le_refl _) (by omega) (by omega)
  exact this
 ·exact key (filI n p).length 1 (Nat.le_refl _) (by omega) (by omega)
end Go.Proofs.Ytcbjpdaogicibaa.Print
end
