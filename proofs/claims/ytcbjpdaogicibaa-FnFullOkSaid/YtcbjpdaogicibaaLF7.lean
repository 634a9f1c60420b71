/- Part 7 of what is common to several claims of this seat: FullOkL. -/
import Derived.Test.YtcbjpdaogicibaaLF6
import Derived.Below
import Derived.Deep.Draws
import Derived.Deep.AppendLies
import Derived.Maps.AppendAt
import Derived.OwnWalk
import Derived.Laws.BytesArg
import Derived.Laws.MakeOwn
import Derived.Laws.OwnMore
import Derived.Deep.OwnRows
import Derived.Tactics
import Derived.Lib.ConvBytes
import Derived.Laws.Slices
import Derived.WalkKit
import Derived.KernelRfl
import Derived.RowKit3
import Derived.Deep.LoopGhost
import Derived.Deep.QuietTactic
import Derived.BigQuiet
import Derived.WideLaws
import Derived.Deep.DeepCutAuto
import Derived.Deep.CutBlock
import Derived.Deep.RegionHeld3
import Derived.Laws.Rows
import Derived.Lib.AppendStr
import Derived.ArgAppend
import Derived.Laws.IdiomCopy
import Derived.RowKit
import Derived.OrdersHeld
import Derived.Laws.BitsLemmas
import Derived.Test.YtcbjpdaogicibaaProg
import Derived.Laws.Bits64b
set_option linter.all false
section
namespace Go.Proofs.Ytcbjpdaogicibaa.Print
open Go.RowKit Go.Proofs.YtcbjpdaogicibaaW.PrintWords Go.Proofs.YtcbjpdaogicibaaW.PrintLast Go.Proofs.YtcbjpdaogicibaaW.PrintMore
open Oml
theorem ofInt_nat (a : Nat) (ha : a < 18446744073709551616) : (BitVec.ofInt 64 (a : Int)).toNat = a := by
 rw [BitVec.ofInt_natCast, BitVec.toNat_ofNat]; exact Nat.mod_eq_of_lt (by omega)
theorem band_nat (a b : Nat) (ha : a < 4611686018427387904) (hb : b < 4611686018427387904) : Go.bits .and .i64 (a : Int) (b : Int) = ((a &&& b : Nat) : Int) := by
 have hx:a &&& b<2 ^ 62:=Nat.and_lt_two_pow _ (by omega)
 show IntKind.i64.wrap ((BitVec.ofInt 64 (a:Int) &&& BitVec.ofInt 64 (b:Int)).toNat:Int)=_
 rw [BitVec.toNat_and,ofInt_nat a (by omega),ofInt_nat b (by omega),i64_w]
 unfold wrap64;omega
theorem two_pow_le {i : Nat} (h : i ≤ 40) : (2 : Nat) ^ i ≤ 1099511627776 := Nat.pow_le_pow_right (by omega) h
theorem cast_pow (i : Nat) : (2 : Int) ^ i = ((2 ^ i : Nat) : Int) := by rw [Int.natCast_pow]; rfl
theorem shl_nat {i : Nat} (h : i ≤ 40) : shl .i64 1 (i : Int) = ((2 ^ i : Nat) : Int) := by
 unfold shl
 have h2:=two_pow_le h
 rw [Int.toNat_natCast,Nat.min_eq_left (by show i≤64;omega),Int.one_mul,cast_pow,i64_w]
 generalize 2 ^ i=x at h2 ⊢
 unfold wrap64;omega
theorem wshl_nat {i : Nat} (h : i ≤ 40) : IntKind.i64.wrap (2 ^ i) = ((2 ^ i : Nat) : Int) := by
 have:=shl_nat h
 unfold shl at this
 rwa [Int.toNat_natCast,Nat.min_eq_left (by show i≤64;omega),Int.one_mul] at this
theorem shr_nat (s : Nat) {i : Nat} (h : i ≤ 64) : shr .i64 (s : Int) (i : Int) = ((s / 2 ^ i : Nat) : Int) := by
 unfold shr
 rw [Int.toNat_natCast,Nat.min_eq_left (by show i≤64;omega),cast_pow]
 rfl
theorem testBit_div (s i : Nat) : s.testBit i = decide (s / 2 ^ i % 2 = 1) := Nat.testBit_eq_decide_div_mod_eq
theorem smod_nat (s : Nat) {i : Nat} (h : i ≤ 64) : Int.tmod (shr .i64 (s : Int) (i : Int)) 2 = if s.testBit i = true then 1 else 0 := by
 rw [shr_nat s h,testBit_div]
 have h1:Int.tmod ((s / 2 ^ i:Nat):Int) ((2:Nat):Int)=((s / 2 ^ i % 2:Nat):Int):=by first|exact(Int.ofNat_tmod _ 2).symm|rfl
 rw [show ((2:Nat):Int)=2 from rfl] at h1
 rw [h1]
 by_cases e:s / 2 ^ i % 2=1
 ·rw [e];simp
 ·have:s / 2 ^ i % 2=0:=by omega
  rw [this];simp
def setB (n : Nat) (p : Nat → Bool) : Nat :=
 match n with
 | 0 => 0
 | n + 1 => setB n p ||| (if p n = true then 2 ^ n else 0)
theorem setB_bit (n : Nat) (p : Nat → Bool) (i : Nat) : (setB n p).testBit i = (decide (i < n) && p i) := by
 induction n with
 |zero=>simp [setB]
 |succ n ih=>
  simp only [setB,Nat.testBit_or,ih]
  by_cases e:i=n
  ·subst e
   cases h:p i <;> simp [h,Nat.testBit_two_pow]
  ·have:(if p n=true then 2 ^ n else 0).testBit i=false:=by
    split
    ·rw [Nat.testBit_two_pow];simp;omega
    ·simp
   rw [this,Bool.or_false]
   congr 1
   rw [Bool.eq_iff_iff];simp;omega
theorem setB_lt (n : Nat) (p : Nat → Bool) : setB n p < 2 ^ n := by
 refine Nat.lt_pow_two_of_testBit _ fun i hi => ?_
 rw [setB_bit]; simp; omega
end Go.Proofs.Ytcbjpdaogicibaa.Print
end
section
namespace Go.Proofs.Ytcbjpdaogicibaa.Print
open Go.RowKit Go.Proofs.YtcbjpdaogicibaaW.PrintWords Go.Proofs.YtcbjpdaogicibaaW.PrintLast Go.Proofs.YtcbjpdaogicibaaW.PrintMore
section
attribute [local go_sem] max2_int min2_int max_two min_two max_three min_three max_four min_four
def impl_has.f (a0 : Int) (a1 : Int) : Option (Bool) := if 0 ≤ a1 then (some ((Go.bits .and .i64 (shr .i64 a0 a1) 1) == 1)) else (none)
set_option maxHeartbeats 8000000 in
set_option maxRecDepth 100000 in
theorem impl_has.calls (a0 : Int) (a1 : Int) (r : Bool) (w : World) (h : impl_has.f a0 a1 = some r) :
  Calls Try.prog 88 #[.int .i64 a0, .int .i64 a1] w fun e w' => e = .returned (.bool r) ∧ Drawn0 w w' := by
 have H : (if 0 ≤ a1 then (some ((Go.bits .and .i64 (shr .i64 a0 a1) 1) == 1)) else (none)) = some r := h
 clear h
 by_cases c3 : 0 ≤ a1
 ·rw [if_pos c3] at H
  have c3b0 := eq_true c3
  have c3b1 : decide (0 ≤ a1) = true := decide_eq_true c3
  clear c3
  obtain ⟨ji4, hji4⟩ : ∃ j_ : Int, (shr .i64 a0 a1) = j_ := ⟨_, rfl⟩
  replace H : (some ((Go.bits .and .i64 (ji4) 1) == 1)) = some r := by first | (rw [hji4] at H; exact H) | (simp only [hji4] at H ⊢; exact H)
  have hji4_ : (a0 / 2 ^ min a1.toNat 64) = ji4 := hji4
  have hji4z : a1 ≤ 64 → (a0 / 2 ^ a1.toNat) = ji4 := shr_small hji4
  obtain rfl := Option.some.inj H
  go_enter Try.func88, Try.ntmps88
  go_wp2
  go_ret
  exact ⟨by first | rfl | (simp; done) | (simp only [← hji4] <;> (first | rfl | simp)) | (simp [*]; done), by repeat (first | exact Drawn0.refl _ | apply Drawn0.step)⟩
 ·rw [if_neg c3] at H
  exact absurd H (by simp)
end
end Go.Proofs.Ytcbjpdaogicibaa.Print
end
section
namespace Go.Proofs.Ytcbjpdaogicibaa.Print
open Go.RowKit Go.Proofs.YtcbjpdaogicibaaW.PrintWords Go.Proofs.YtcbjpdaogicibaaW.PrintLast Go.Proofs.YtcbjpdaogicibaaW.PrintMore
open Oml
theorem has_nat (s : Nat) (hs : s < 4611686018427387904) {i : Nat} (h : i ≤ 64) : impl_has.f (s : Int) (i : Int) = some (s.testBit i) := by
 unfold impl_has.f
 rw [if_pos (by omega),shr_nat s h,show (1:Int)=((1:Nat):Int) from rfl,band_nat _ _ (Nat.lt_of_le_of_lt (Nat.div_le_self _ _) hs) (by omega),Nat.and_one_is_mod,testBit_div]
 have h2:s / 2 ^ i % 2=0∨s / 2 ^ i % 2=1:=by omega
 rcases h2 with h2|h2 <;> rw [h2] <;> rfl
theorem has_in (s : Nat) (hs : s < 4611686018427387904) {i : Int} (h0 : 0 ≤ i) (h : i ≤ 64) : impl_has.f (s : Int) i = some (s.testBit i.toNat) := by
 obtain⟨x,rfl⟩: ∃x:Nat,i=x:=⟨i.toNat,by omega⟩
 rw [Int.toNat_natCast]
 exact has_nat s hs (by omega)
def stT (U : List (List Int)) (N : List Int) (s : Nat) (a b : Int) : Bool :=
 if s.testBit a.toNat=s.testBit (notI N a).toNat then false else if leI U a (notI N b)=false then true
 else !(s.testBit a.toNat && s.testBit b.toNat) && (s.testBit (orI U a b).toNat==(s.testBit a.toNat||s.testBit b.toNat))
def stB (U : List (List Int)) (N : List Int) (s : Nat) : Bool := s.testBit (yesI U N).toNat && allN U.length fun a => allN U.length fun b => stT U N s a b
def isSt (U : List (List Int)) (N : List Int) (x : Int) : Bool := decide (0 ≤ x) && (decide (x < ((2 ^ U.length : Nat) : Int)) && stB U N x.toNat)
theorem has_calls (s : Nat) (hs : s < 4611686018427387904) {i : Int} (h0 : 0 ≤ i) (h : i ≤ 64) (w : World) : Calls Try.prog 88 #[.int .i64 (s : Int), .int .i64 i] w fun e w' => e = .returned (.bool (s.testBit i.toNat)) ∧ Drawn0 w w' :=
 impl_has.calls _ _ _ _ (has_in s hs h0 h)
set_option maxHeartbeats 4000000 in
set_option maxRecDepth 100000 in
theorem st_c1 (g : Nat) (U : List (List Int)) (N : List Int) (v : Adr) (w : World) (L : Logic U N) (hV : View w g U N v) (gS gG : Nat) (s : Nat) (hs : s < 4611686018427387904) (a b : Int) (ia : In U a) (ib : In U b) (hS : w.heap[gS]? = some (.cells #[.int .i64 (s : Int)] 3 (0, 0))) (hG : w.heap[gG]? = some (.cells #[.pointer (some ⟨g, 0, none⟩)] 67 (0, 0))) :
 Calls Try.prog 145 #[.int .i64 a,.int .i64 b,.pointer (some ⟨gS,0,none⟩),.pointer (some ⟨gG,0,none⟩)] w fun e w'=>e= .returned (.bool (stT U N s a b))∧Below w.heap.size w w':=by
 have hu70:=Try.underlying74
 have HV:=zqm hV
 have HLg:=zqm L
 have Ia:=zqm ia
 have Ib:=zqm ib
 have hsm:=L.small
 have small: ∀i,In U i→0≤i∧i≤64:=fun i hi=>⟨hi.1,by have:=hi.2;omega⟩
 have hx_:=fun w=>has_calls s hs (small a ia).1 (small a ia).2 w
 have hy_:=fun w=>has_calls s hs (small b ib).1 (small b ib).2 w
 have hn_:=fun w=>has_calls s hs (small _ (L.in_not ia)).1 (small _ (L.in_not ia)).2 w
 have hz_:=fun w=>has_calls s hs (small _ (L.in_or ia ib)).1 (small _ (L.in_or ia ib)).2 w
 have v1:=L.le_val ia (L.in_not ib)
 unfold stT
 generalize s.testBit a.toNat=x at hx_ ⊢
 generalize s.testBit b.toNat=y at hy_ ⊢
 generalize s.testBit (notI N a).toNat=n at hn_ ⊢
 generalize s.testBit (orI U a b).toNat=z at hz_ ⊢
 generalize leI U a (notI N b)=le at v1 ⊢
 have HX:=zqm hx_
 have HY:=zqm hy_
 have HN:=zqm hn_
 have HZ:=zqm hz_
 have x0:w.cell? ⟨gS,0,none⟩=some (.int .i64 (s:Int)):=(blk_cell hS 0).trans rfl
 have x1:w.cell? ⟨gG,0,none⟩=some (.pointer (some ⟨g,0,none⟩)):=(blk_cell hG 0).trans rfl
 clear hV L ia ib hx_ hy_ hn_ hz_ hS hG hsm small
 have b0_:=eq_true Ia.out.1;have c0_:=eq_true Ia.out.2
 have hf3_:=HV.out.f3
 have n2_:=HV.out.n a Ia.out
 have b3_:=eq_true Ib.out.1;have c3_:=eq_true Ib.out.2
 have n4_:=HV.out.n b Ib.out
 have IN1_:=zqm (HLg.out.in_not Ib.out)
 have b5_:=eq_true IN1_.out.1;have c5_:=eq_true IN1_.out.2
 have hf0_:=HV.out.f0
 have r7_:=HV.out.u a Ia.out
 have U2_:=zqm True.intro
 have hf2_:=HV.out.f2
 have r10_:=HV.out.j a Ia.out
 have s11_:=HV.out.j2 a b Ia.out Ib.out
 have u2_:w.cell? ((v.rU a.toNat).add (notI N b).toNat)=some (.int .i64 (if le=true then 1 else 0)):=by rw [← v1];exact HV.out.u2 a (notI N b) Ia.out (HLg.out.in_not Ib.out)
 clear v1 U2_
 have key: ∀(P:Prop),P→P:=fun _ h=>h
 by_cases hxn:x=n
 ·subst hxn
  have hd:(x==x)=true:=by cases x <;> rfl
  rw [if_pos rfl]
  clear u2_
  go_enter Try.func145,Try.ntmps145
  go_wp2_with fail
  go_quiet ((go_at_call 88;first|(with_reducible exact Drawn0.quiet2 (HX.out _))|(with_reducible exact Drawn0.quiet2 (HY.out _))|(with_reducible exact Drawn0.quiet2 (HN.out _))|(with_reducible exact Drawn0.quiet2 (HZ.out _))|(with_reducible exact Drawn0.quiet (HX.out _))|(with_reducible exact Drawn0.quiet (HY.out _))|(with_reducible exact Drawn0.quiet (HN.out _))|(with_reducible exact Drawn0.quiet (HZ.out _))))
  go_wp2
  go_ret
  exact⟨rfl,zq164⟩
 ·have hd:(x==n)=false:=by rw [beq_eq_false_iff_ne];exact hxn
  rw [if_neg hxn]
  cases le with
  |false=>
   rw [if_neg (by simp)] at u2_
   rw [if_pos rfl]
   go_enter Try.func145,Try.ntmps145
   go_wp2_with fail
   go_quiet ((go_at_call 88;first|(with_reducible exact Drawn0.quiet2 (HX.out _))|(with_reducible exact Drawn0.quiet2 (HY.out _))|(with_reducible exact Drawn0.quiet2 (HN.out _))|(with_reducible exact Drawn0.quiet2 (HZ.out _))|(with_reducible exact Drawn0.quiet (HX.out _))|(with_reducible exact Drawn0.quiet (HY.out _))|(with_reducible exact Drawn0.quiet (HN.out _))|(with_reducible exact Drawn0.quiet (HZ.out _))))
   go_wp2
   go_quiet (fail)
   go_wp2
   go_ret
   exact⟨rfl,zq164⟩
  |true=>
   rw [if_pos rfl] at u2_
   rw [if_neg (by simp)]
   clear hxn
   cases x <;> cases y
   all_goals
    go_enter Try.func145,Try.ntmps145
    go_wp2_with fail
    go_quiet ((go_at_call 88;first|(with_reducible exact Drawn0.quiet2 (HX.out _))|(with_reducible exact Drawn0.quiet2 (HY.out _))|(with_reducible exact Drawn0.quiet2 (HN.out _))|(with_reducible exact Drawn0.quiet2 (HZ.out _))|(with_reducible exact Drawn0.quiet (HX.out _))|(with_reducible exact Drawn0.quiet (HY.out _))|(with_reducible exact Drawn0.quiet (HN.out _))|(with_reducible exact Drawn0.quiet (HZ.out _))))
    go_wp2
    go_quiet (fail)
    go_wp2
    go_quiet ((go_at_call 88;first|(with_reducible exact Drawn0.quiet2 (HX.out _))|(with_reducible exact Drawn0.quiet2 (HY.out _))|(with_reducible exact Drawn0.quiet2 (HN.out _))|(with_reducible exact Drawn0.quiet2 (HZ.out _))|(with_reducible exact Drawn0.quiet (HX.out _))|(with_reducible exact Drawn0.quiet (HY.out _))|(with_reducible exact Drawn0.quiet (HN.out _))|(with_reducible exact Drawn0.quiet (HZ.out _))))
    go_wp2
    go_quiet ((go_at_call 88;first|(with_reducible exact Drawn0.quiet2 (HX.out _))|(with_reducible exact Drawn0.quiet2 (HY.out _))|(with_reducible exact Drawn0.quiet2 (HN.out _))|(with_reducible exact Drawn0.quiet2 (HZ.out _))|(with_reducible exact Drawn0.quiet (HX.out _))|(with_reducible exact Drawn0.quiet (HY.out _))|(with_reducible exact Drawn0.quiet (HN.out _))|(with_reducible exact Drawn0.quiet (HZ.out _))))
    go_wp2
    go_ret
    exact⟨by first|rfl|(cases z <;> rfl),zq164⟩
set_option maxHeartbeats 4000000 in
set_option maxRecDepth 100000 in
theorem isState_calls (g : Nat) (U : List (List Int)) (N : List Int) (v : Adr) (x : Int) (w : World) (L : Logic U N) (hV : View w g U N v) :
 Calls Try.prog 119 #[.pointer (some ⟨g,0,none⟩),.int .i64 x] w fun e w'=>e= .returned (.bool (isSt U N x))∧Below w.heap.size w w':=by
 have hu70:=Try.underlying74
 have HV:=zqm hV
 have HLg:=zqm L
 have HSM:=zqm L.small
 obtain⟨mv,hmv⟩: ∃mv:Int,mv=((2 ^ U.length:Nat):Int):=⟨_,rfl⟩
 have e1_:wrap64 (2 ^ min U.length 64)=mv:=by rw [Nat.min_eq_left (show U.length≤64 by have:=L.small;omega),← i64_w,wshl_nat (by have:=L.small;omega),hmv]
 have e2_:IntKind.i64.wrap (2 ^ min U.length 64)=mv:=by rw [i64_w];exact e1_
 have hM2:2 ^ U.length≤4096:=Nat.pow_le_pow_right (by omega) L.small
 have HM2:=zqm hM2
 have HMV:=zqm hmv
 unfold isSt
 rw [← hmv]
 by_cases h0:x<0
 ·have d0:decide (x<0)=true:=decide_eq_true h0
  have d1:decide (0≤x)=false:=decide_eq_false (by omega)
  rw [d1]
  clear hV L hmv h0 d1 hM2
  go_enter Try.func119,Try.ntmps119
  go_wp2_with (first|((with_reducible refine gate_dst (N:=2) rfl ?_);refine box_event ?hg (N:=2) ?hd (cs:= #[.pointer (some ⟨g,0,none⟩)]) (t:=67) ?hr ?_;(case hd=>rfl);(case hg=>rfl);(case hr=> exact zq9);intro gG hg_ w1 hbox hb;have HXG:=zqm hbox;have HB1:=zqm hb;clear hbox hb hg_)|((with_reducible refine gate_dst (N:=3) rfl ?_);refine box_event ?hg (N:=3) ?hd (cs:= #[.int .i64 x]) (t:=3) ?hr ?_;(case hd=>rfl);(case hg=>rfl);(case hr=> exact zq9);intro gS hg_ w2 hbox hb;have HXS:=zqm hbox;have HB2:=zqm (below_step HB1.out hb);have HXG2:=zqm (blk_below HXG.out hb);have x0:w2.cell? ⟨gG,0,none⟩=some (.pointer (some ⟨g,0,none⟩)):=(blk_cell HXG2.out 0).trans rfl;have x1:w2.cell? ⟨gS,0,none⟩=some (.int .i64 x):=(blk_cell hbox 0).trans rfl;have hf0:=(HV.out.below HB2.out).f0;have hf5:=(HV.out.below HB2.out).f5;clear HXG HB1 hbox hb hg_))
  go_quiet (fail)
  go_wp2
  go_ret
  exact⟨rfl,zq79⟩
 ·have d0:decide (x<0)=false:=decide_eq_false h0
  have d1:decide (0≤x)=true:=decide_eq_true (by omega)
  rw [d1]
  by_cases h1:mv≤x
  ·have d2:decide (mv≤x)=true:=decide_eq_true h1
   have d3:decide (x<mv)=false:=decide_eq_false (by omega)
   rw [d3]
   clear hV L hmv h0 h1 d1 d3 hM2
   go_enter Try.func119,Try.ntmps119
   go_wp2_with (first|((with_reducible refine gate_dst (N:=2) rfl ?_);refine box_event ?hg (N:=2) ?hd (cs:= #[.pointer (some ⟨g,0,none⟩)]) (t:=67) ?hr ?_;(case hd=>rfl);(case hg=>rfl);(case hr=> exact zq9);intro gG hg_ w1 hbox hb;have HXG:=zqm hbox;have HB1:=zqm hb;clear hbox hb hg_)|((with_reducible refine gate_dst (N:=3) rfl ?_);refine box_event ?hg (N:=3) ?hd (cs:= #[.int .i64 x]) (t:=3) ?hr ?_;(case hd=>rfl);(case hg=>rfl);(case hr=> exact zq9);intro gS hg_ w2 hbox hb;have HXS:=zqm hbox;have HB2:=zqm (below_step HB1.out hb);have HXG2:=zqm (blk_below HXG.out hb);have x0:w2.cell? ⟨gG,0,none⟩=some (.pointer (some ⟨g,0,none⟩)):=(blk_cell HXG2.out 0).trans rfl;have x1:w2.cell? ⟨gS,0,none⟩=some (.int .i64 x):=(blk_cell hbox 0).trans rfl;have hf0:=(HV.out.below HB2.out).f0;have hf5:=(HV.out.below HB2.out).f5;clear HXG HB1 hbox hb hg_))
   go_quiet (fail)
   go_wp2
   go_ret
   exact⟨rfl,zq79⟩
  ·have d2:decide (mv≤x)=false:=decide_eq_false h1
   have d3:decide (x<mv)=true:=decide_eq_true (by omega)
   rw [d3]
   obtain⟨s,hsx⟩: ∃s:Nat,x=(s:Int):=⟨x.toNat,by omega⟩
   have hs:s<4611686018427387904:=by omega
   rw [show x.toNat=s by omega,Bool.true_and,Bool.true_and]
   unfold stB
   have hy_:=fun w=>has_calls s hs (i:=yesI U N) L.in_yes.1 (by have:=L.in_yes.2;have:=L.small;omega) w
   rw [← hsx] at hy_
   have HS:=zqm hs
   have HSX:=zqm hsx
   generalize s.testBit (yesI U N).toNat=y at hy_ ⊢
   have HX:=zqm hy_
   cases y with
   |false=>
    rw [Bool.false_and]
    clear hV L hmv h0 h1 d1 d3 hM2 hs hy_ hsx
    go_enter Try.func119,Try.ntmps119
    go_wp2_with (first|((with_reducible refine gate_dst (N:=2) rfl ?_);refine box_event ?hg (N:=2) ?hd (cs:= #[.pointer (some ⟨g,0,none⟩)]) (t:=67) ?hr ?_;(case hd=>rfl);(case hg=>rfl);(case hr=> exact zq9);intro gG hg_ w1 hbox hb;have HXG:=zqm hbox;have HB1:=zqm hb;clear hbox hb hg_)|((with_reducible refine gate_dst (N:=3) rfl ?_);refine box_event ?hg (N:=3) ?hd (cs:= #[.int .i64 x]) (t:=3) ?hr ?_;(case hd=>rfl);(case hg=>rfl);(case hr=> exact zq9);intro gS hg_ w2 hbox hb;have HXS:=zqm hbox;have HB2:=zqm (below_step HB1.out hb);have HXG2:=zqm (blk_below HXG.out hb);have x0:w2.cell? ⟨gG,0,none⟩=some (.pointer (some ⟨g,0,none⟩)):=(blk_cell HXG2.out 0).trans rfl;have x1:w2.cell? ⟨gS,0,none⟩=some (.int .i64 x):=(blk_cell hbox 0).trans rfl;have hf0:=(HV.out.below HB2.out).f0;have hf5:=(HV.out.below HB2.out).f5;clear HXG HB1 hbox hb hg_))
    go_quiet ((go_at_call 88;first|(with_reducible exact Drawn0.quiet (HX.out _))|(with_reducible exact Drawn0.quiet2 (HX.out _))))
    go_wp2
    go_ret
    exact⟨rfl,zq79⟩
   |true=>
    rw [Bool.true_and]
    clear hV L hmv h0 h1 d1 d3 hM2 hs hy_ hsx
    go_enter Try.func119,Try.ntmps119
    go_wp2_with (first|((with_reducible refine gate_dst (N:=2) rfl ?_);refine box_event ?hg (N:=2) ?hd (cs:= #[.pointer (some ⟨g,0,none⟩)]) (t:=67) ?hr ?_;(case hd=>rfl);(case hg=>rfl);(case hr=> exact zq9);intro gG hg_ w1 hbox hb;have HXG:=zqm hbox;have HB1:=zqm hb;clear hbox hb hg_)|((with_reducible refine gate_dst (N:=3) rfl ?_);refine box_event ?hg (N:=3) ?hd (cs:= #[.int .i64 x]) (t:=3) ?hr ?_;(case hd=>rfl);(case hg=>rfl);(case hr=> exact zq9);intro gS hg_ w2 hbox hb;have HXS:=zqm hbox;have HB2:=zqm (below_step HB1.out hb);have HXG2:=zqm (blk_below HXG.out hb);have x0:w2.cell? ⟨gG,0,none⟩=some (.pointer (some ⟨g,0,none⟩)):=(blk_cell HXG2.out 0).trans rfl;have x1:w2.cell? ⟨gS,0,none⟩=some (.int .i64 x):=(blk_cell hbox 0).trans rfl;have hf0:=(HV.out.below HB2.out).f0;have hf5:=(HV.out.below HB2.out).f5;clear HXG HB1 hbox hb hg_))
    go_quiet ((go_at_call 88;first|(with_reducible exact Drawn0.quiet (HX.out _))|(with_reducible exact Drawn0.quiet2 (HX.out _))))
    go_wp2_with (go_at_call 71;(with_reducible refine(every_pure g U N v _ HSM.out ?sV 145 _ #[.pointer (some ⟨gS,0,none⟩),.pointer (some ⟨gG,0,none⟩)] Try.func145 zqk rfl (fun a b=>stT U N s a b) ?sT).mono ?_);(case sV=>exact(HV.out.below zq79));(case sT=>exact fun a b ha hb W hW=>st_c1 g U N v W HLg.out ((HV.out.below zq79).below hW) gS gG s HS.out a b ⟨by omega,by omega⟩ ⟨by omega,by omega⟩ (by rw [← HSX.out];exact blk_below (blk_drewN HXS.out _) hW) (blk_below (blk_drewN HXG2.out _) hW));rintro e w3 ⟨rfl,hb⟩;have HB3:=zqm (below_step zq79 hb);clear hb)
    go_ret
    exact⟨rfl,zq209⟩
def stN (U : List (List Int)) (N : List Int) : List Nat := (List.range (2 ^ U.length)).filter fun (s : Nat) => isSt U N (s : Int)
def stL (U : List (List Int)) (N : List Int) : List Int := filI (2 ^ U.length) fun (s : Nat) => isSt U N (s : Int)
set_option maxHeartbeats 4000000 in
set_option maxRecDepth 100000 in
theorem states_calls (g : Nat) (U : List (List Int)) (N : List Int) (v : Adr) (w : World) (L : Logic U N) (hV : View w g U N v) :
 Calls Try.prog 109 #[.pointer (some ⟨g,0,none⟩)] w fun e w'=> ∃v0,e= .returned v0∧Kd.R (Kd.int .i64) 3 w' w.heap.size (fun _=>True) v0 (stL U N)∧Below w.heap.size w w':=by
 have hu70:=Try.underlying74
 have HV:=zqm hV
 have HLg:=zqm L
 have HSM:=zqm L.small
 obtain⟨mv,hmv⟩: ∃mv:Int,mv=((2 ^ U.length:Nat):Int):=⟨_,rfl⟩
 have e1_:wrap64 (2 ^ min U.length 64)=mv:=by rw [Nat.min_eq_left (show U.length≤64 by have:=L.small;omega),← i64_w,wshl_nat (by have:=L.small;omega),hmv]
 have e2_:IntKind.i64.wrap (2 ^ min U.length 64)=mv:=by rw [i64_w];exact e1_
 have hM2:2 ^ U.length≤4096:=Nat.pow_le_pow_right (by omega) L.small
 have HM2:=zqm hM2
 have HMV:=zqm hmv
 obtain⟨M,hM⟩: ∃M:Nat,M=2 ^ U.length:=⟨_,rfl⟩
 have HM:=zqm hM
 have HMV2:=zqm (show mv=(M:Int) by rw [hmv,hM])
 have HM3:=zqm (show M≤4096 by omega)
 clear hV L hmv hM2 hM
 go_enter Try.func109,Try.ntmps109
 go_wp2_with ((with_reducible refine gate_dst (N:=5) rfl ?_);refine Kd.R_lit (Kd.int .i64) _ 3 ?hg (N:=5) ?hd (xs:=([]:List Int)) (inner:= []) (ok:=fun _=>True) (okp:=fun _=>True) ?hr ?hp (fun _ hk=>hk) trivial (Below.refl _ _) (Nat.le_refl _) (by simp) ?_;(case hd=>rfl);(case hg=>rfl);(case hr=> exact zq9);(case hp=>exact(Reps.none _ _));intro v0 w3 ho hb hg_ hnew_;clear hg_ hnew_;have HO3:=zqm ho;have HB3:=zqm hb;have hf0:=(HV.out.below hb).f0;clear ho hb)
 go_loopg [12,3] (M+1) (fun kq v12 v3 W=> ∃s:Nat,v12= .int .i64 s∧Aside0 (s+kq=M+1)∧Aside0 (s≤M)∧Aside0 (Kd.R (Kd.int .i64) 3 W w.heap.size (fun _=>True) v3 (filI s fun(s:Nat)=>isSt U N (s:Int)))∧Aside0 (Below w.heap.size w W))
 case atStart=>exact⟨0,by first|rfl|simp,⟨by omega⟩,⟨by omega⟩,HO3,HB3⟩
 case round=>
  clear hf0
  obtain⟨s,rfl,HK,HK2,HOr,HBr⟩:=hrel
  cases gk with
  |zero=>exact absurd HK.out (by have:=HK2.out;omega)
  |succ kn=>
  by_cases hlt:s<M
  ·have hlt':decide ((s:Int)<mv)=true:=decide_eq_true (by rw [HMV2.out];omega)
   have HLT:=zqm hlt
   clear hlt
   cases ht:isSt U N (s:Int) with
   |true=>
    have HT:=zqm ht
    clear ht
    go_wp2_with (first|(go_at_call 119;(with_reducible refine(isState_calls g U N v (s:Int) _ HLg.out (HV.out.below HBr.out)).mono ?_);rintro e w5 ⟨he,hb⟩;rw [HT.out] at he;subst he;have HO5:=zqm (Kd.R_below HOr.out hb);have HB5:=zqm (below_step HBr.out hb);clear HOr HBr hb)|((with_reducible refine gate_builtin (b:= .append) (xs:= #[.tmp 18,.tmp 20]) rfl ?_);at_builtin;refine Kd.R_append (Kd.int .i64) (w0:=w) w.heap.size rfl (.tmp 18) (.tmp 20) 24 3 (.int .i64 0) 8 rfl Try.underlying24 infoInt rfl (by decide) (by omega) u3 (filI s fun(s:Nat)=>isSt U N (s:Int)) (s:Int) [.int .i64 s] (fun _=>True) (fun _=>False) rfl rfl ?aP (fun _ hk=>hk.elim) ?aF ?aO ?aB ?aS ?aL ?_;(case aP=>exact rfl);(case aB=>exact HB5.out);(case aF=>exact(fun _ _=>trivial));(case aO=>exact HO5.out);(case aS=>exact(below_size HB5.out));(case aL=>have:=filI_length s (fun(s:Nat)=>isSt U N (s:Int));have:=HLT.out;have:=HM3.out;omega);intro v3n w21 ho hb hg hat;have HB6:=zqm hb;have HO6:=zqm ho;clear ho hb hg hat HO5 HB5))
    go_roundg kn
    case measure=>omega
    case rel=>exact⟨s+1,zq183,⟨by have:=HK.out;omega⟩,⟨by have:=HLT.out;omega⟩,⟨by rw [filI_succ,if_pos HT.out];exact HO6.out⟩,HB6⟩
   |false=>
    have HT:=zqm ht
    clear ht
    go_wp2_with (go_at_call 119;(with_reducible refine(isState_calls g U N v (s:Int) _ HLg.out (HV.out.below HBr.out)).mono ?_);rintro e w5 ⟨he,hb⟩;rw [HT.out] at he;subst he;have HO5:=zqm (Kd.R_below HOr.out hb);have HB5:=zqm (below_step HBr.out hb);clear HOr HBr hb)
    go_roundg kn
    case measure=>omega
    case rel=>exact⟨s+1,zq183,⟨by have:=HK.out;omega⟩,⟨by have:=HLT.out;omega⟩,⟨by rw [filI_succ,if_neg (by rw [HT.out];simp)];exact HO5.out⟩,HB5⟩
  ·have hlt':decide ((s:Int)<mv)=false:=decide_eq_false (by rw [HMV2.out];omega)
   obtain rfl:s=M:=by have:=HK2.out;omega
   clear hlt
   go_wp2_with fail
   go_ret
   exact⟨_,rfl,by have h:=HOr.out;rw [HM.out] at h;exact h,by repeat(first|exact HBr.out|apply pw_below_drewN|apply below_drew1)⟩
def filN (n : Nat) (p : Nat → Bool) : List Nat := (List.range n).filter p
theorem filI_eq (n : Nat) (p : Nat → Bool) : filI n p = (filN n p).map fun (s : Nat) => (s : Int) := rfl
theorem filI_len (n : Nat) (p : Nat → Bool) : (filI n p).length = (filN n p).length := by rw [filI_eq, List.length_map]
theorem filI_at (n : Nat) (p : Nat → Bool) (i : Nat) : at1 (filI n p) i = (((filN n p).getD i 0 : Nat) : Int) := by
 rw [filI_eq]
 simp only [at1,List.getD_eq_getElem?_getD,List.getElem?_map]
 cases (filN n p)[i]? <;> rfl
theorem filN_at {n : Nat} {p : Nat → Bool} {i : Nat} (h : i < (filN n p).length) : (filN n p).getD i 0 < n ∧ p ((filN n p).getD i 0) = true := by
 rw [List.getD_eq_getElem?_getD,List.getElem?_eq_getElem h]
 have h1:=List.mem_filter.1 (List.getElem_mem h)
 exact⟨by simpa using h1.1,h1.2⟩
theorem filN_lt {n : Nat} (hn : n ≤ 4096) (p : Nat → Bool) (i : Nat) : (filN n p).getD i 0 < 4611686018427387904 := by
 by_cases h:i<(filN n p).length
 ·have:=(filN_at h).1;omega
 ·rw [List.getD_eq_getElem?_getD,List.getElem?_eq_none (by omega)];simp
theorem filN_len (n : Nat) (p : Nat → Bool) : (filN n p).length ≤ n := by
 have h1 := List.length_filter_le p (List.range n)
 rw [List.length_range] at h1
 exact h1
def fulT (a b : Int) (s : Nat) : Bool := s.testBit a.toNat && !s.testBit b.toNat
def fulB (U : List (List Int)) (N : List Int) : Bool := allN U.length fun a => allN U.length fun b => leI U a b || (stN U N).any (fulT a b)
theorem ful_c2 (s : Nat) (hs : s < 4611686018427387904) (gA gB : Nat) (a b : Int) (a0 : 0 ≤ a) (a1 : a ≤ 64) (b0 : 0 ≤ b) (b1 : b ≤ 64) (w : World) (hA : w.heap[gA]? = some (.cells #[.int .i64 a] 3 (0, 0))) (hB : w.heap[gB]? = some (.cells #[.int .i64 b] 3 (0, 0))) :
 Calls Try.prog 112 #[.int .i64 (s:Int),.pointer (some ⟨gA,0,none⟩),.pointer (some ⟨gB,0,none⟩)] w fun e w'=>e= .returned (.bool (fulT a b s))∧Drawn0 w w':=by
 have hx_:=fun w=>has_calls s hs a0 a1 w
 have hy_:=fun w=>has_calls s hs b0 b1 w
 have x0:w.cell? ⟨gA,0,none⟩=some (.int .i64 a):=(blk_cell hA 0).trans rfl
 have x1:w.cell? ⟨gB,0,none⟩=some (.int .i64 b):=(blk_cell hB 0).trans rfl
 unfold fulT
 generalize s.testBit a.toNat=x at hx_ ⊢
 generalize s.testBit b.toNat=y at hy_ ⊢
 have HX:=zqm hx_
 have HY:=zqm hy_
 clear hx_ hy_ hA hB
 cases x with
 |false=>
  go_enter Try.func112,Try.ntmps112
  go_wp2_with (go_at_call 88;(with_reducible refine(HX.out _).mono ?_);rintro e w' ⟨rfl,⟨⟨nd,rfl⟩⟩⟩)
  go_ret
  exact⟨rfl,⟨⟨_,rfl⟩⟩⟩
 |true=>
  go_enter Try.func112,Try.ntmps112
  go_wp2_with (go_at_call 88;first|((with_reducible refine(HX.out _).mono ?_);rintro e w' ⟨rfl,⟨⟨nd,rfl⟩⟩⟩)|((with_reducible refine(HY.out _).mono ?_);rintro e w' ⟨rfl,⟨⟨nd2,rfl⟩⟩⟩))
  go_ret
  exact⟨by first|rfl|(cases y <;> rfl),⟨⟨_,rfl⟩⟩⟩
theorem index_calls (fv : Nat) (fn : Func) (cs : Array Value) (hf : Try.prog.funcs[fv]? = some fn) (hname : (fn.name == "runtime.NumGoroutine") = false) (hb : fn.body.isSome = true)
 (l : List Nat) (p : Nat → Bool) (A : Option Addr) (c : Nat) (w : World) (hn : l.length ≤ 4096) (hr : Kd.C (Kd.int .i64) w A l.length (l.map fun (s : Nat) => (s : Int))) (step : ∀ i, i < l.length → ∀ W, Below w.heap.size w W → Calls Try.prog fv (#[.int .i64 ((l.getD i 0 : Nat) : Int)] ++ cs) W fun e w' => e = .returned (.bool (p (l.getD i 0))) ∧ Drawn0 W w') :
 Calls Try.prog 144 #[.slice A l.length c, .func (.func fv) #[] cs] w fun e w' => ∃ x : Int, e = .returned (.int .i64 x) ∧ (decide (0 ≤ x) = l.any p) ∧ Drawn0 w w' := by
 have HF := Aside0.mk hf
 have HNM := Aside0.mk hname
 have HBD := Aside0.mk hb
 have HST := Aside0.mk step
 have HR := Aside0.mk hr
 have HN := Aside0.mk hn
 clear hf hname hb step hr hn
 go_enter Try.func144, Try.ntmps144
 go_wp2_with fail
 go_loopg [8] (l.length + 1) (fun kq v8 W => ∃ i m : Nat, v8 = .int .i64 i ∧ Aside0 (i + kq = l.length + 1) ∧ Aside0 (i ≤ l.length) ∧ Aside0 (∀ j, j < i → p (l.getD j 0) = false) ∧ W = w.drewN m)
 case atStart => exact ⟨0, 0, rfl, ⟨by omega⟩, ⟨by omega⟩, ⟨fun j hj => absurd hj (by omega)⟩, rfl⟩
 case round =>
  obtain ⟨i, m, rfl, HK, HK2, HNO, rfl⟩ := hrel
  cases gk with
  | zero => exact absurd HK.out (by have := HK2.out; omega)
  | succ kn =>
  by_cases hlt : i < l.length
  ·have hlt' : decide (i < l.length) = true := decide_eq_true hlt
   have HLT := Aside0.mk hlt
   obtain ⟨ad, e, hx⟩ := ints_cell HR.out i (by omega) (by omega)
   subst e
   rw [Int.toNat_natCast, show at1 (l.map fun (s : Nat) => (s : Int)) i = ((l.getD i 0 : Nat) : Int) by simp only [at1, List.getD_eq_getElem?_getD, List.getElem?_map]; cases l[i]? <;> rfl] at hx
   obtain ⟨q, hq⟩ : ∃ q : Nat, q = l.getD i 0 := ⟨_, rfl⟩
   rw [← hq] at hx
   have p1 : (i < l.length) = True := eq_true hlt
   have HS1 := Aside0.mk (by have h := HST.out i hlt; rw [← hq] at h; exact h)
   have HQ := Aside0.mk hq
   clear hlt hq
   cases hp : p q with
   | true =>
    have HP := Aside0.mk hp
    clear hp
    go_wp2_with (refine goesV_ (some 16) rfl rfl HF.out HNM.out HBD.out #[.int .i64 (q : Int)] rfl rfl zq58 ?_; refine (HS1.out _ ?sB).mono ?_; (case sB => exact pw_below_drewN (Below.refl _ _) _); rintro e w1 ⟨he, ⟨⟨nd, rfl⟩⟩⟩; rw [HP.out] at he; subst he; refine ⟨_, rfl, ?_⟩)
    go_ret
    refine ⟨_, rfl, ?_, ⟨⟨_, by first | rfl | exact World.drewN_drewN _ _ _⟩⟩⟩
    rw [decide_eq_true (by omega)]
    refine (List.any_eq_true.2 ⟨q, ?_, HP.out⟩).symm
    rw [HQ.out, List.getD_eq_getElem?_getD, List.getElem?_eq_getElem HLT.out]
    exact List.getElem_mem _
   | false =>
    have HP := Aside0.mk hp
    clear hp
    go_wp2_with (refine goesV_ (some 16) rfl rfl HF.out HNM.out HBD.out #[.int .i64 (q : Int)] rfl rfl zq58 ?_; refine (HS1.out _ ?sB).mono ?_; (case sB => exact pw_below_drewN (Below.refl _ _) _); rintro e w1 ⟨he, ⟨⟨nd, rfl⟩⟩⟩; rw [HP.out] at he; subst he; refine ⟨_, rfl, ?_⟩)
    go_roundg kn
    case measure => omega
    case rel => exact ⟨i + 1, _, by first | go_num | (rw [wrap_small (by omega) (by have := HLT.out; have := HN.out; omega)]; go_num), ⟨by have := HK.out; omega⟩, ⟨by have := HLT.out; omega⟩, ⟨fun j hj => by
     rcases Nat.lt_or_ge j i with h | h
     ·exact HNO.out j h
     ·obtain rfl : j = i := by omega
      rw [← HQ.out]; exact HP.out⟩, by first | rfl | exact World.drewN_drewN _ _ _⟩
  ·have hlt' : decide (i < l.length) = false := decide_eq_false hlt
   obtain rfl : i = l.length := by have := HK2.out; omega
   clear hlt
   go_wp2_with fail
   go_ret
   refine ⟨_, rfl, ?_, ⟨⟨_, rfl⟩⟩⟩
   rw [decide_eq_false (by omega)]
   refine (List.any_eq_false.2 fun x hx => ?_).symm
   obtain ⟨j, hj, rfl⟩ := List.mem_iff_getElem.1 hx
   have := HNO.out j hj
   rw [List.getD_eq_getElem?_getD, List.getElem?_eq_getElem hj] at this
   simpa using this
theorem contains_calls (fv : Nat) (fn : Func) (cs : Array Value) (hf : Try.prog.funcs[fv]? = some fn) (hname : (fn.name == "runtime.NumGoroutine") = false) (hb : fn.body.isSome = true)
 (l : List Nat) (p : Nat → Bool) (A : Option Addr) (c : Nat) (w : World) (hn : l.length ≤ 4096) (hr : Kd.C (Kd.int .i64) w A l.length (l.map fun (s : Nat) => (s : Int))) (step : ∀ i, i < l.length → ∀ W, Below w.heap.size w W → Calls Try.prog fv (#[.int .i64 ((l.getD i 0 : Nat) : Int)] ++ cs) W fun e w' => e = .returned (.bool (p (l.getD i 0))) ∧ Drawn0 W w') :
 Calls Try.prog 111 #[.slice A l.length c, .func (.func fv) #[] cs] w fun e w' => e = .returned (.bool (l.any p)) ∧ Drawn0 w w' := by
 have HC := Aside0.mk (index_calls fv fn cs hf hname hb l p A c w hn hr step)
 clear hf hname hb step hr hn
 go_enter Try.func111, Try.ntmps111
 go_wp2_with (go_at_call 144; (with_reducible refine HC.out.mono ?_); rintro e w' ⟨x, rfl, hx, ⟨⟨nd, rfl⟩⟩⟩; have HX := Aside0.mk hx; clear hx)
 go_ret
 exact ⟨by rw [← HX.out]; rfl, ⟨⟨_, rfl⟩⟩⟩
set_option maxHeartbeats 4000000 in
set_option maxRecDepth 100000 in
theorem ful_c1 (g : Nat) (U : List (List Int)) (N : List Int) (v : Adr) (w : World) (L : Logic U N) (hV : View w g U N v) (gG gT : Nat) (As : Option Addr) (cs : Nat) (a b : Int) (ia : In U a) (ib : In U b) (hG : w.heap[gG]? = some (.cells #[.pointer (some ⟨g, 0, none⟩)] 67 (0, 0))) (hT : w.heap[gT]? = some (.cells #[.slice As (stN U N).length cs] 24 (0, 0))) (hr : Kd.C (Kd.int .i64) w As (stN U N).length (stL U N)) :
 Calls Try.prog 110 #[.int .i64 a,.int .i64 b,.pointer (some ⟨gG,0,none⟩),.pointer (some ⟨gT,0,none⟩)] w fun e w'=>e= .returned (.bool (leI U a b||(stN U N).any (fulT a b)))∧Below w.heap.size w w':=by
 have hu70:=Try.underlying74
 have HV:=zqm hV
 have HLg:=zqm L
 have HSM:=zqm L.small
 have Ia:=zqm ia
 have Ib:=zqm ib
 have HG:=zqm hG
 have HT:=zqm hT
 have HR:=zqm hr
 have b0_:=eq_true Ia.out.1;have c0_:=eq_true Ia.out.2
 have b1_:=eq_true Ib.out.1;have c1_:=eq_true Ib.out.2
 have HLV:=zqm (L.le_val ia ib)
 have HPOW:=zqm (show 2 ^ U.length≤4096 from Nat.pow_le_pow_right (by omega) L.small)
 have HLEN:=zqm (show (stN U N).length≤4096 from Nat.le_trans (filN_len _ _) HPOW.out)
 clear hV L ia ib hG hT hr
 generalize leI U a b=le at HLV ⊢
 cases le with
 |true=>
  go_enter Try.func110,Try.ntmps110
  go_wp2_with (first|((with_reducible refine gate_dst (N:=4) rfl ?_);refine box_event ?hg (N:=4) ?hd (cs:= #[.int .i64 a]) (t:=3) ?hr ?_;(case hd=>rfl);(case hg=>rfl);(case hr=> exact zq9);intro gA hg_ w1 hbox hb;have HXA:=zqm hbox;have HB1:=zqm hb;clear hbox hb hg_)|((with_reducible refine gate_dst (N:=5) rfl ?_);refine box_event ?hg (N:=5) ?hd (cs:= #[.int .i64 b]) (t:=3) ?hr ?_;(case hd=>rfl);(case hg=>rfl);(case hr=> exact zq9);intro gB hg_ w2 hbox hb;have HXB:=zqm hbox;have HB2:=zqm (below_step HB1.out hb);have HXA2:=zqm (blk_below HXA.out hb);have x0:w2.cell? ⟨gA,0,none⟩=some (.int .i64 a):=(blk_cell HXA2.out 0).trans rfl;have x1:w2.cell? ⟨gB,0,none⟩=some (.int .i64 b):=(blk_cell hbox 0).trans rfl;have x2:w2.cell? ⟨gG,0,none⟩=some (.pointer (some ⟨g,0,none⟩)):=(blk_cell (blk_below HG.out HB2.out) 0).trans rfl;have x3:w2.cell? ⟨gT,0,none⟩=some (.slice As (stN U N).length cs):=(blk_cell (blk_below HT.out HB2.out) 0).trans rfl;have hf0:=(HV.out.below HB2.out).f0;have r1_:=(HV.out.below HB2.out).u a Ia.out;have s1_:=(HV.out.below HB2.out).u2 a b Ia.out Ib.out;rw [HLV.out] at s1_;clear HXA HB1 hbox hb hg_))
  go_quiet (fail)
  go_wp2
  go_ret
  exact⟨rfl,zq79⟩
 |false=>
  rw [Bool.false_or]
  go_enter Try.func110,Try.ntmps110
  go_wp2_with (first|((with_reducible refine gate_dst (N:=4) rfl ?_);refine box_event ?hg (N:=4) ?hd (cs:= #[.int .i64 a]) (t:=3) ?hr ?_;(case hd=>rfl);(case hg=>rfl);(case hr=> exact zq9);intro gA hg_ w1 hbox hb;have HXA:=zqm hbox;have HB1:=zqm hb;clear hbox hb hg_)|((with_reducible refine gate_dst (N:=5) rfl ?_);refine box_event ?hg (N:=5) ?hd (cs:= #[.int .i64 b]) (t:=3) ?hr ?_;(case hd=>rfl);(case hg=>rfl);(case hr=> exact zq9);intro gB hg_ w2 hbox hb;have HXB:=zqm hbox;have HB2:=zqm (below_step HB1.out hb);have HXA2:=zqm (blk_below HXA.out hb);have x0:w2.cell? ⟨gA,0,none⟩=some (.int .i64 a):=(blk_cell HXA2.out 0).trans rfl;have x1:w2.cell? ⟨gB,0,none⟩=some (.int .i64 b):=(blk_cell hbox 0).trans rfl;have x2:w2.cell? ⟨gG,0,none⟩=some (.pointer (some ⟨g,0,none⟩)):=(blk_cell (blk_below HG.out HB2.out) 0).trans rfl;have x3:w2.cell? ⟨gT,0,none⟩=some (.slice As (stN U N).length cs):=(blk_cell (blk_below HT.out HB2.out) 0).trans rfl;have hf0:=(HV.out.below HB2.out).f0;have r1_:=(HV.out.below HB2.out).u a Ia.out;have s1_:=(HV.out.below HB2.out).u2 a b Ia.out Ib.out;rw [HLV.out] at s1_;clear HXA HB1 hbox hb hg_))
  go_quiet ((go_at_call 111;exact Drawn0.quiet (contains_calls 112 _ #[.pointer (some ⟨gA,0,none⟩),.pointer (some ⟨gB,0,none⟩)] Try.func112 zqk rfl (stN U N) (fulT a b) As cs _ HLEN.out (Kd.C_drewN (Kd.C_below HR.out HB2.out) _) (fun i hi W hW=>ful_c2 ((stN U N).getD i 0) (filN_lt HPOW.out _ i) gA gB a b Ia.out.1 (by have:=Ia.out.2;have:=HSM.out;omega) Ib.out.1 (by have:=Ib.out.2;have:=HSM.out;omega) W (blk_below (blk_drewN HXA2.out _) hW) (blk_below (blk_drewN HXB.out _) hW)))))
  go_wp2
  go_ret
  exact⟨rfl,zq79⟩
def impl_FullOk.f (l0_0 : List (List Int)) (l0_1 : List Int) : Option (Bool) := some (if logicB l0_0 l0_1 = true then fulB l0_0 l0_1 else false)
set_option maxHeartbeats 4000000 in
set_option maxRecDepth 100000 in
theorem impl_FullOk.calls (A0_0 : Option Addr) (c0_0 : Nat) (l0_0 : List (List Int)) (A0_1 : Option Addr) (c0_1 : Nat) (l0_1 : List Int) (r : Bool) (w : World) (hr0_0 : Kd.C (Kd.slice 3 (Kd.int .i64)) w A0_0 l0_0.length l0_0) (hc0_0 : l0_0.length ≤ c0_0) (hr0_1 : Kd.C (Kd.int .i64) w A0_1 l0_1.length l0_1) (hc0_1 : l0_1.length ≤ c0_1) (h : impl_FullOk.f l0_0 l0_1 = some r) :
 Calls Try.prog 44 #[.agg #[.slice A0_0 l0_0.length c0_0,.slice A0_1 l0_1.length c0_1]] w fun e w'=>e= .returned (.bool r)∧Below w.heap.size w w':=by
 obtain⟨k,hF⟩:=told_facts l0_0
 have hu30:=Try.underlying26
 have hu70:=Try.underlying74
 have HF:=zqm hF
 have HR0:=zqm hr0_0
 have HC0:=zqm hc0_0
 have HR1:=zqm hr0_1
 have HC1:=zqm hc0_1
 simp only [impl_FullOk.f,Option.some.injEq] at h
 clear hr0_0 hc0_0 hr0_1 hc0_1 hF
 cases hL:logicB l0_0 l0_1 with
 |false=>
  rw [hL] at h
  have hr_:false=r:=by simpa using h
  subst hr_
  have HLB:=zqm hL
  clear h hL
  go_enter Try.func44,Try.ntmps44
  go_wp2_with (first|((with_reducible refine gate_dst (N:=1) rfl ?_);refine box_event ?hg (N:=1) ?hd (cs:= #[.slice A0_0 l0_0.length c0_0,.slice A0_1 l0_1.length c0_1]) (t:=26) ?hr ?_;(case hd=>rfl);(case hg=>rfl);(case hr=> exact zq9);intro gb hg_ w1 hbox hb;have HB:=zqm hb;have hx0:w1.cell? ⟨gb,0,none⟩=some (.slice A0_0 l0_0.length c0_0):=(blk_cell hbox 0).trans rfl;have hx1:w1.cell? ⟨gb,1,none⟩=some (.slice A0_1 l0_1.length c0_1):=(blk_cell hbox 1).trans rfl;have HX:=zqm hbox;clear hbox hb hg_)|(go_at_call 70;(with_reducible refine(told_n k _ _ l0_0 _ _ l0_1 _ ?s1 ?s2 ?s3 ?s4 HF.out HLB.out).mono ?_);(case s1=> exact zq159);(case s2=>exact HC0.out);(case s3=> exact zq172);(case s4=>exact HC1.out);rintro e w2 ⟨rfl,hb⟩;have HB2:=zqm (below_step HB.out hb);clear hb hx0 hx1 HX HB))
  go_ret
  exact⟨rfl,zq157⟩
 |true=>
  rw [hL] at h
  have hr_:fulB l0_0 l0_1=r:=by simpa using h
  subst hr_
  have HLB:=zqm hL
  have HLg:=zqm (logicB_iff.1 hL)
  have HSM:=zqm (logicB_iff.1 hL).small
  clear h hL
  have HLEN:=zqm (filI_len (2 ^ l0_0.length) fun(s:Nat)=>isSt l0_0 l0_1 (s:Int))
  replace HLEN:=zqm (show (stL l0_0 l0_1).length=(stN l0_0 l0_1).length from HLEN.out)
  unfold fulB
  go_enter Try.func44,Try.ntmps44
  go_wp2_with (first|((with_reducible refine gate_dst (N:=1) rfl ?_);refine box_event ?hg (N:=1) ?hd (cs:= #[.slice A0_0 l0_0.length c0_0,.slice A0_1 l0_1.length c0_1]) (t:=26) ?hr ?_;(case hd=>rfl);(case hg=>rfl);(case hr=> exact zq9);intro gb hg_ w1 hbox hb;have HB:=zqm hb;have hx0:w1.cell? ⟨gb,0,none⟩=some (.slice A0_0 l0_0.length c0_0):=(blk_cell hbox 0).trans rfl;have hx1:w1.cell? ⟨gb,1,none⟩=some (.slice A0_1 l0_1.length c0_1):=(blk_cell hbox 1).trans rfl;have HX:=zqm hbox;clear hbox hb hg_)|(go_at_call 70;(with_reducible refine(told_y k _ _ l0_0 _ _ l0_1 _ ?s1 ?s2 ?s3 ?s4 HF.out HLB.out).mono ?_);(case s1=> exact zq159);(case s2=>exact HC0.out);(case s3=> exact zq172);(case s4=>exact HC1.out);rintro e w2 ⟨g,v,rfl,hv,hge,hb⟩;have HB2:=zqm (below_step HB.out hb);have HV:=zqm hv;clear hv hge hb hx0 hx1 HX HB)|(go_at_call 109;(with_reducible refine(states_calls g l0_0 l0_1 v _ HLg.out (View.alloc HV.out _)).mono ?_);rintro e w3 ⟨vs,rfl,ho,hb⟩;have HB3:=zqm (below_step (below_alloc HB2.out _) hb);have HV3:=zqm (View.below (View.alloc HV.out _) hb);have HG3:=zqm (blk_below (MapKept.heap_alloc w2 (.cells #[.pointer (some ⟨g,0,none⟩)] 67)).1 hb);have HO3:=zqm ho;have HSL:=Kd.R_slice ho;rw [HLEN.out] at HSL;obtain⟨As,cs,rfl⟩:=HSL;have x9:(w3.alloc (.cells #[.slice As (stN l0_0 l0_1).length cs] 24)).cell? ⟨w2.heap.size,0,none⟩=some (.pointer (some ⟨g,0,none⟩)):=(blk_cell (blk_alloc HG3.out _) 0).trans rfl;clear ho hb)|(go_at_call 71;(with_reducible refine(every_pure g l0_0 l0_1 v _ HSM.out ?sV 110 _ #[.pointer (some ⟨w2.heap.size,0,none⟩),.pointer (some ⟨w3.heap.size,0,none⟩)] Try.func110 zqk rfl (fun a b=>leI l0_0 a b||(stN l0_0 l0_1).any (fulT a b)) ?sT).mono ?_);(case sV=>exact View.alloc HV3.out _);(case sT=>exact fun a b ha hb W hW=>ful_c1 g l0_0 l0_1 v W HLg.out ((View.alloc HV3.out _).below hW) w2.heap.size w3.heap.size As cs a b ⟨by omega,by omega⟩ ⟨by omega,by omega⟩ (blk_below (blk_alloc HG3.out _) hW) (blk_below (MapKept.heap_alloc w3 _).1 hW) (Kd.C_below (Kd.C_alloc (by have h:=(Kd.R_reads' HO3.out).2.2;rw [HLEN.out] at h;exact h) _) hW));rintro e w4 ⟨rfl,hb⟩;have HB4:=zqm (below_step (below_alloc HB3.out _) hb);clear hb x9))
  go_ret
  exact⟨rfl,zq169⟩
end Go.Proofs.Ytcbjpdaogicibaa.Print
end
