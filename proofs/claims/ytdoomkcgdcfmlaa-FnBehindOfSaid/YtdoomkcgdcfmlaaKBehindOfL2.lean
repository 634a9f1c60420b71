/- Part 2 of what this is proved by: for every text of bytes the law of BehindOf answers true -/
import Derived.Test.YtdoomkcgdcfmlaaKBehindOfL1
import Derived.Below
import Derived.Deep.Draws
import Derived.Deep.AppendLies
import Derived.Maps.AppendAt
import Derived.OwnWalk
import Derived.Laws.BytesArg
import Derived.Laws.MakeOwn
import Derived.Laws.OwnMore
import Derived.Deep.OwnRows
import Derived.Tactics
import Derived.Lib.ConvBytes
import Derived.Laws.Slices
import Derived.WalkKit
import Derived.KernelRfl
import Derived.RowKit3
import Derived.Deep.LoopGhost
import Derived.Deep.QuietTactic
import Derived.BigQuiet
import Derived.WideLaws
import Derived.Deep.DeepCutAuto
import Derived.Deep.CutBlock
import Derived.Deep.RegionHeld3
import Derived.Laws.Rows
import Derived.Lib.AppendStr
import Derived.ArgAppend
import Derived.Laws.IdiomCopy
import Derived.RowKit
import Derived.Test.YtdoomkcgdcfmlaaProg
import Derived.OrdersHeld
import Derived.Laws.BitsLemmas
import Derived.ProofKit
import Derived.OpenShut
set_option linter.all false
section
namespace Go.Proofs.Ytdoomkcgdcfmlaa.Print
open Go.RowKit Go.Proofs.YtdoomkcgdcfmlaaW.PrintWords Go.Proofs.YtdoomkcgdcfmlaaW.PrintLast Go.Proofs.YtdoomkcgdcfmlaaW.PrintMore
def laws_FnBehindOf.f (k : Nat) (l0 : List Int) : Option (Bool) := if (l0.length : Int) > 1048576 then (some true) else ((spec_DrawBehindOf.f k l0).bind fun bt677 => ((impl_BehindOf.f bt677.1 bt677.2.1 bt677.2.2.1 bt677.2.2.2.1 bt677.2.2.2.2).bind fun t687 => ((spec_BehindOf.f k bt677.1 bt677.2.1 bt677.2.2.1 bt677.2.2.2.1 bt677.2.2.2.2).bind fun t688 => (if t687 = t688 then (if t687 < 0 then (if t687 = (-1) then ((laws_alive.f k).bind fun t689 => (some t689)) else (some false)) else ((spec_KeepsOk.f k bt677.1 bt677.2.1).bind fun t690 => (if t690 = true then ((impl_ProjectOf.f bt677.1 bt677.2.1 bt677.2.2.1 bt677.2.2.2.2).bind fun t693 => ((impl_ProjectOf.f bt677.1 bt677.2.1 bt677.2.2.1 bt677.2.2.2.1).bind fun t694 => (if 0 ≤ t687 then (if t687 < (bt677.1.length : Int) then (if 0 ≤ bt677.2.2.2.1 then (if bt677.2.2.2.1 < ((rd_L3 bt677.1 t687).length : Int) then (if (rd (rd_L3 bt677.1 t687) bt677.2.2.2.1) = 1 then ((impl_ApartOk.f bt677.1 bt677.2.1 t693 bt677.2.2.2.1).bind fun t697 => ((impl_ApartOk.f bt677.1 bt677.2.1 t694 bt677.2.2.2.2).bind fun t698 => (if (t697 == t698) = true then (if 0 ≤ bt677.2.2.1 then (if bt677.2.2.1 < (bt677.1.length : Int) then (if bt677.2.2.2.1 < ((rd_L3 bt677.1 bt677.2.2.1).length : Int) then (if (rd (rd_L3 bt677.1 bt677.2.2.1) bt677.2.2.2.1) = 0 then (some true) else (if t687 = t693 then ((impl_BehindOf.f bt677.1 bt677.2.1 bt677.2.2.2.1 bt677.2.2.1 bt677.2.2.2.2).bind fun t701 => (some (t701 == t693))) else (some false))) else (none)) else (none)) else (none)) else (some false)))) else (some false)) else (none)) else (none)) else (none)) else (none)))) else (if 0 ≤ t687 then (if t687 < (bt677.1.length : Int) then (if 0 ≤ bt677.2.2.2.1 then (if bt677.2.2.2.1 < ((rd_L3 bt677.1 t687).length : Int) then (some ((rd (rd_L3 bt677.1 t687) bt677.2.2.2.1) == 1)) else (none)) else (none)) else (none)) else (none))))) else (some false)))))
def laws_FnBehindOf.T13 : Bool × List (List Nat × List Nat) := (true, [([], []), ([0], [0]), ([], []), ([1, 2], [1, 2]), ([3], [3]), ([], []), ([4, 5], [4, 5]), ([6], [6]), ([7], [7]), ([8], [8]), ([9], [9]), ([9], [9]), ([9], [9]), ([10, 11, 12, 9, 9], [9, 10, 11, 12]), ([9], [9]), ([9], [9]), ([9], [9]), ([14, 15, 16, 13, 9], [9, 14, 15, 16]), ([13, 17, 9], [9, 13, 17]), ([9, 18], [9, 18]), ([19, 17], [19]), ([20], [20]), ([21, 20], [20, 21]), ([20], [20]), ([22, 23, 20], [20, 22, 23]), ([24, 20], [20, 24]), ([20], [20]), ([25, 26, 20], [20, 25, 26]), ([27, 20], [20, 27]), ([28, 20], [20, 28]), ([29, 20, 20], [20, 29]), ([30], [30]), ([30], [30]), ([31, 32, 30], [30, 31, 32]), ([33, 30, 30], [30, 33]), ([34], [34]), ([34], [34]), ([34], [34]), ([34], [34]), ([35, 36, 37, 38, 34, 34], [34, 35, 36, 37, 38]), ([34], [34]), ([39, 40, 34], [34, 39, 40]), ([34, 41, 30], [30, 34, 41]), ([30, 42, 20], [20, 30, 42]), ([20, 43], [20, 43]), ([44, 39, 0, 1, 2, 3, 4, 5, 6, 7, 8, 9, 10, 11, 12, 13, 14, 15, 16, 17, 18, 19, 20, 21, 22, 23, 24, 25, 26, 27, 28, 29, 30, 31, 32, 33, 34, 35, 36, 37, 38, 39, 40, 41, 42, 43, 44], [44])])
def laws_FnBehindOf.B13 : List Nat := [0, 1, 0, 7, 15, 0, 63, 127, 255, 511, 1023, 1023, 1023, 8191, 1023, 1023, 1023, 131071, 262143, 524287, 1048575, 2097151, 4194303, 2097151, 16777215, 33554431, 2097151, 134217727, 268435455, 536870911, 1073741823, 2147483647, 2147483647, 8589934591, 17179869183, 34359738367, 34359738367, 34359738367, 34359738367, 549755813887, 34359738367, 2199023255551, 4398046511103, 8796093022207, 17592186044415, 35184372088831]
theorem laws_FnBehindOf.tab13 : rtab .any (opsOf Try.f5 13) = laws_FnBehindOf.T13 := by kernel_rfl
theorem laws_FnBehindOf.bits13 : waitsOk laws_FnBehindOf.T13.2 laws_FnBehindOf.B13 = true := by kernel_rfl
set_option maxHeartbeats 8000000 in
set_option maxRecDepth 100000 in
theorem laws_FnBehindOf.calls (k : Nat) (A0 : Option Addr) (c0 : Nat) (l0 : List Int) (r : Bool) (w : World) (hr0 : Kd.C (Kd.int .u8) w A0 l0.length l0) (hc0 : l0.length ≤ c0) (h : laws_FnBehindOf.f k l0 = some r) :
  Calls Try.prog 5 #[.slice A0 l0.length c0] w fun e w' => e = .returned (.bool r) ∧ Below w.heap.size w w' := by
 have hu30:=Try.underlying30;have l3:=zqm hr0;have l4:=zqm hc0;clear hr0 hc0;have HB:=zqm (Below.refl w.heap.size w);have H:(if(l0.length:Int)>1048576 then(some true) else((spec_DrawBehindOf.f k l0).bind fun b3=>((impl_BehindOf.f b3.1 b3.2.1 b3.2.2.1 b3.2.2.2.1 b3.2.2.2.2).bind fun a7=>((spec_BehindOf.f k b3.1 b3.2.1 b3.2.2.1 b3.2.2.2.1 b3.2.2.2.2).bind fun f3=>(if a7=f3 then(if a7<0 then(if a7=(-1) then((laws_alive.f k).bind fun j5=>(some j5)) else(some false)) else((spec_KeepsOk.f k b3.1 b3.2.1).bind fun j6=>(if j6=true then((impl_ProjectOf.f b3.1 b3.2.1 b3.2.2.1 b3.2.2.2.2).bind fun b5=>((impl_ProjectOf.f b3.1 b3.2.1 b3.2.2.1 b3.2.2.2.1).bind fun d1=>(if 0≤a7 then(if a7<(b3.1.length:Int) then(if 0≤b3.2.2.2.1 then(if b3.2.2.2.1<((rd_L3 b3.1 a7).length:Int) then(if(rd (rd_L3 b3.1 a7) b3.2.2.2.1)=1 then((impl_ApartOk.f b3.1 b3.2.1 b5 b3.2.2.2.1).bind fun d0=>((impl_ApartOk.f b3.1 b3.2.1 d1 b3.2.2.2.2).bind fun c4=>(if(d0==c4)=true then(if 0≤b3.2.2.1 then(if b3.2.2.1<(b3.1.length:Int) then(if b3.2.2.2.1<((rd_L3 b3.1 b3.2.2.1).length:Int) then(if(rd (rd_L3 b3.1 b3.2.2.1) b3.2.2.2.1)=0 then(some true) else(if a7=b5 then((impl_BehindOf.f b3.1 b3.2.1 b3.2.2.2.1 b3.2.2.1 b3.2.2.2.2).bind fun f1=>(some (f1==b5))) else(some false))) else(none)) else(none)) else(none)) else(some false)))) else(some false)) else(none)) else(none)) else(none)) else(none)))) else(if 0≤a7 then(if a7<(b3.1.length:Int) then(if 0≤b3.2.2.2.1 then(if b3.2.2.2.1<((rd_L3 b3.1 a7).length:Int) then(some ((rd (rd_L3 b3.1 a7) b3.2.2.2.1)==1)) else(none)) else(none)) else(none)) else(none))))) else(some false))))))=some r:=h;clear h
 by_cases c2:(l0.length:Int)>1048576
 ·rw [if_pos c2] at H;have w3:decide (1048576<(l0.length:Int))=true:=decide_eq_true c2;have w4:decide (1048576<l0.length)=true:=decide_eq_true (by omega);clear c2;obtain rfl:=Option.some.inj H
  go_enter Try.func5,Try.ntmps5
  go_wp2
  go_ret
  exact⟨zq11,zq0⟩
 ·rw [if_neg c2] at H;have w3:decide (1048576<(l0.length:Int))=false:=decide_eq_false c2;have w4:decide (1048576<l0.length)=false:=decide_eq_false (by omega);clear c2;replace H:=Option.bind_eq_some_iff.mp H;obtain⟨⟨a1,a5,a8,a6,a9⟩,l9,H⟩:=H;replace H:((impl_BehindOf.f a1 a5 a8 a6 a9).bind fun a7=>((spec_BehindOf.f k a1 a5 a8 a6 a9).bind fun f3=>(if a7=f3 then(if a7<0 then(if a7=(-1) then((laws_alive.f k).bind fun j5=>(some j5)) else(some false)) else((spec_KeepsOk.f k a1 a5).bind fun j6=>(if j6=true then((impl_ProjectOf.f a1 a5 a8 a9).bind fun b5=>((impl_ProjectOf.f a1 a5 a8 a6).bind fun d1=>(if 0≤a7 then(if a7<(a1.length:Int) then(if 0≤a6 then(if a6<((rd_L3 a1 a7).length:Int) then(if(rd (rd_L3 a1 a7) a6)=1 then((impl_ApartOk.f a1 a5 b5 a6).bind fun d0=>((impl_ApartOk.f a1 a5 d1 a9).bind fun c4=>(if(d0==c4)=true then(if 0≤a8 then(if a8<(a1.length:Int) then(if a6<((rd_L3 a1 a8).length:Int) then(if(rd (rd_L3 a1 a8) a6)=0 then(some true) else(if a7=b5 then((impl_BehindOf.f a1 a5 a6 a8 a9).bind fun f1=>(some (f1==b5))) else(some false))) else(none)) else(none)) else(none)) else(some false)))) else(some false)) else(none)) else(none)) else(none)) else(none)))) else(if 0≤a7 then(if a7<(a1.length:Int) then(if 0≤a6 then(if a6<((rd_L3 a1 a7).length:Int) then(some ((rd (rd_L3 a1 a7) a6)==1)) else(none)) else(none)) else(none)) else(none))))) else(some false))))=some r:=H;have A3:=zqm l9;clear l9;replace H:=Option.bind_eq_some_iff.mp H;obtain⟨a7,t9,H⟩:=H;replace H:((spec_BehindOf.f k a1 a5 a8 a6 a9).bind fun f3=>(if a7=f3 then(if a7<0 then(if a7=(-1) then((laws_alive.f k).bind fun j5=>(some j5)) else(some false)) else((spec_KeepsOk.f k a1 a5).bind fun j6=>(if j6=true then((impl_ProjectOf.f a1 a5 a8 a9).bind fun b5=>((impl_ProjectOf.f a1 a5 a8 a6).bind fun d1=>(if 0≤a7 then(if a7<(a1.length:Int) then(if 0≤a6 then(if a6<((rd_L3 a1 a7).length:Int) then(if(rd (rd_L3 a1 a7) a6)=1 then((impl_ApartOk.f a1 a5 b5 a6).bind fun d0=>((impl_ApartOk.f a1 a5 d1 a9).bind fun c4=>(if(d0==c4)=true then(if 0≤a8 then(if a8<(a1.length:Int) then(if a6<((rd_L3 a1 a8).length:Int) then(if(rd (rd_L3 a1 a8) a6)=0 then(some true) else(if a7=b5 then((impl_BehindOf.f a1 a5 a6 a8 a9).bind fun f1=>(some (f1==b5))) else(some false))) else(none)) else(none)) else(none)) else(some false)))) else(some false)) else(none)) else(none)) else(none)) else(none)))) else(if 0≤a7 then(if a7<(a1.length:Int) then(if 0≤a6 then(if a6<((rd_L3 a1 a7).length:Int) then(some ((rd (rd_L3 a1 a7) a6)==1)) else(none)) else(none)) else(none)) else(none))))) else(some false)))=some r:=H;have A4:=zqm t9;clear t9;replace H:=Option.bind_eq_some_iff.mp H;obtain⟨f3,u0,H⟩:=H;replace H:(if a7=f3 then(if a7<0 then(if a7=(-1) then((laws_alive.f k).bind fun j5=>(some j5)) else(some false)) else((spec_KeepsOk.f k a1 a5).bind fun j6=>(if j6=true then((impl_ProjectOf.f a1 a5 a8 a9).bind fun b5=>((impl_ProjectOf.f a1 a5 a8 a6).bind fun d1=>(if 0≤a7 then(if a7<(a1.length:Int) then(if 0≤a6 then(if a6<((rd_L3 a1 a7).length:Int) then(if(rd (rd_L3 a1 a7) a6)=1 then((impl_ApartOk.f a1 a5 b5 a6).bind fun d0=>((impl_ApartOk.f a1 a5 d1 a9).bind fun c4=>(if(d0==c4)=true then(if 0≤a8 then(if a8<(a1.length:Int) then(if a6<((rd_L3 a1 a8).length:Int) then(if(rd (rd_L3 a1 a8) a6)=0 then(some true) else(if a7=b5 then((impl_BehindOf.f a1 a5 a6 a8 a9).bind fun f1=>(some (f1==b5))) else(some false))) else(none)) else(none)) else(none)) else(some false)))) else(some false)) else(none)) else(none)) else(none)) else(none)))) else(if 0≤a7 then(if a7<(a1.length:Int) then(if 0≤a6 then(if a6<((rd_L3 a1 a7).length:Int) then(some ((rd (rd_L3 a1 a7) a6)==1)) else(none)) else(none)) else(none)) else(none))))) else(some false))=some r:=H;have A5:=zqm u0;clear u0
  by_cases c6:a7=f3
  ·rw [if_pos c6] at H;have w5:(a7==f3)=true:=beq_iff_eq.mpr c6;have w6:(a7 !=f3)=false:=bne_eq_false_iff_eq.mpr c6;clear c6
   by_cases c7:a7<0
   ·rw [if_pos c7] at H;have w7:decide (a7<0)=true:=decide_eq_true c7;clear c7
    by_cases c8:a7=(-1)
    ·rw [if_pos c8] at H;have w8:(a7==(-1))=true:=beq_iff_eq.mpr c8;have w9:(a7 !=(-1))=false:=bne_eq_false_iff_eq.mpr c8;clear c8;replace H:=Option.bind_eq_some_iff.mp H;obtain⟨j5,u1,H⟩:=H;replace H:(some j5)=some r:=H;have A9:=zqm u1;clear u1;obtain rfl:=Option.some.inj H
     go_enter Try.func5,Try.ntmps5
     go_wp2_with (first|((with_reducible refine gate_callee (f:=25) rfl ?_);refine goesL_ (some 15) rfl rfl Try.func25 zqk rfl #[.slice A0 l0.length c0] rfl zq1 ?_;(with_reducible refine(spec_DrawBehindOf.calls k _ _ l0 a1 a5 a8 a6 a9 _ ?side1 ?side2 A3.out).mono ?_);(case side1=> exact zq99);(case side2=>exact l4.out);rintro e w10 ⟨k3,k4,rfl,f6,f7,hb⟩;refine⟨_,rfl,?_⟩;have a2:=zqm (Kd.S_lower f6 (below_size zq0));have a3:=zqm (Kd.Q_lower f7 (below_size zq0));replace HB:=zqm (below_step zq0 hb);clear hb f6 f7)|((with_reducible refine gate_dst (N:=3) rfl ?_);refine box_event ?hg (N:=3) ?hd (cs:= #[.slice none 0 0,.slice none 0 0]) (t:=30) ?hr ?_;(case hd=>rfl);(case hg=>rfl);(case hr=>first|(go_simp;done)|(go_simp;rfl));intro a4 hg u2 hbox hb;replace a2:=zqm (Kd.S_below zq6 hb);replace a3:=zqm (Kd.Q_below zq20 hb);have f8:=zqm (below_step zq0 hb);have a0:=zqm (hbox);have j4:=zqm ((by rw [hg];exact(below_size zq0):w.heap.size≤a4));have b1:=zqm ((by rw [hg];exact(below_size zq0):w.heap.size≤a4));clear HB;have HB:=f8;clear f8 hb hbox hg;obtain⟨i8,i6,x0⟩:=Kd.S_slice a2.out;subst x0;have a1x:u2.cell? ⟨a4,0,none⟩=some (.slice none 0 0):=(blk_cell a0.out 0).trans rfl;have a1y:u2.cell? ⟨a4,1,none⟩=some (.slice none 0 0):=(blk_cell a0.out 1).trans rfl;have a1z:=blk_frozen a0.out 0;have a2a:=blk_frozen a0.out 1;obtain⟨i9,i7,x1,_⟩:=Kd.Q_slice a3.out;subst x1)|((with_reducible refine gate_callee (f:=26) rfl ?_);refine goesL_ (some 24) rfl rfl Try.func26 zqk rfl #[.agg #[.slice i8 a1.length i6,.slice i9 a5.length i7],.int .i64 a8,.int .i64 a6,.int .i64 a9] rfl zq1 ?_;(with_reducible refine(impl_BehindOf.calls _ _ a1 _ _ a5 a8 a6 a9 a7 _ ?side1 ?side2 ?side3 ?side4 A4.out).mono ?_);(case side1=>refine(Kd.S_reads' (e:=28) (base:=w.heap.size) (ok:=fun k_=>some k_≠(.slice i9 a5.length i7:Value).ownBlock) (n:=a1.length) (c:=i6) ?_).2.2;exact zq198);(case side2=>exact(Kd.S_reads' a2.out).2.1);(case side3=>refine(Kd.Q_reads' (e:=3) (base:=w.heap.size) (ok:=fun k_=>True) (n:=a5.length) (c:=i7) ?_).2.2;exact zq236);(case side4=>exact(Kd.Q_reads' a3.out).2.1);rintro e u3 ⟨rfl,hb⟩;refine⟨_,rfl,?_⟩;replace a2:=zqm (Kd.S_below zq198 hb);replace a3:=zqm (Kd.Q_below zq236 hb);replace a0:=zqm (blk_below (g:=a4) (o:= .cells #[.slice i8 a1.length i6,.slice i9 a5.length i7] 30 (0,0)) (by(with_reducible repeat(first|refine blk_drewN ?_ _|refine blk_drew ?_|refine blk_alloc ?_ _));refine blk_put (cs:= #[.slice i8 a1.length i6,.slice none 0 0]) ?_ 1 _ rfl;(with_reducible repeat(first|refine blk_drewN ?_ _|refine blk_drew ?_|refine blk_alloc ?_ _));refine blk_put (cs:= #[.slice none 0 0,.slice none 0 0]) ?_ 0 _ rfl;(with_reducible repeat(first|refine blk_drewN ?_ _|refine blk_drew ?_|refine blk_alloc ?_ _));exact a0.out) hb);replace HB:=zqm (below_step zq3 hb);clear hb;have a2b:u3.cell? ⟨a4,0,none⟩=some (.slice i8 a1.length i6):=(blk_cell a0.out 0).trans rfl;have a2c:u3.cell? ⟨a4,1,none⟩=some (.slice i9 a5.length i7):=(blk_cell a0.out 1).trans rfl;have a2d:=blk_frozen a0.out 0;have a2e:=blk_frozen a0.out 1)|((with_reducible refine gate_callee (f:=27) rfl ?_);refine goesL_ (some 30) rfl rfl Try.func27 zqk rfl #[.agg #[.slice i8 a1.length i6,.slice i9 a5.length i7],.int .i64 a8,.int .i64 a6,.int .i64 a9] rfl zq1 ?_;(with_reducible refine(spec_BehindOf.calls k _ _ a1 _ _ a5 a8 a6 a9 f3 _ ?side1 ?side2 ?side3 ?side4 A5.out).mono ?_);(case side1=> exact zq5);(case side2=>exact(Kd.S_reads' a2.out).2.1);(case side3=> exact zq14);(case side4=>exact(Kd.Q_reads' a3.out).2.1);rintro e w17 ⟨rfl,hb⟩;refine⟨_,rfl,?_⟩;replace a2:=zqm (Kd.S_below zq6 hb);replace a3:=zqm (Kd.Q_below zq20 hb);replace a0:=zqm (blk_below (g:=a4) (o:= .cells #[.slice i8 a1.length i6,.slice i9 a5.length i7] 30 (0,0)) zq2 hb);replace HB:=zqm (below_step zq3 hb);clear hb)|(go_at_call 18;(with_reducible refine(laws_alive.calls k j5 _ A9.out).mono ?_);rintro e w18 ⟨rfl,hb⟩;replace a2:=zqm (Kd.S_below zq6 hb);replace a3:=zqm (Kd.Q_below zq20 hb);replace a0:=zqm (blk_below (g:=a4) (o:= .cells #[.slice i8 a1.length i6,.slice i9 a5.length i7] 30 (0,0)) zq2 hb);replace HB:=zqm (below_step zq3 hb);clear hb))
     go_ret
     exact⟨zq11,zq3⟩
    ·rw [if_neg c8] at H;have w8:(a7==(-1))=false:=beq_eq_false_iff_ne.mpr c8;have w9:(a7 !=(-1))=true:=bne_iff_ne.mpr c8;obtain rfl:=Option.some.inj H
     go_enter Try.func5,Try.ntmps5
     go_wp2_with (first|((with_reducible refine gate_callee (f:=25) rfl ?_);refine goesL_ (some 15) rfl rfl Try.func25 zqk rfl #[.slice A0 l0.length c0] rfl zq1 ?_;(with_reducible refine(spec_DrawBehindOf.calls k _ _ l0 a1 a5 a8 a6 a9 _ ?side1 ?side2 A3.out).mono ?_);(case side1=> exact zq99);(case side2=>exact l4.out);rintro e w19 ⟨k3,k4,rfl,f6,f7,hb⟩;refine⟨_,rfl,?_⟩;have a2:=zqm (Kd.S_lower f6 (below_size zq0));have a3:=zqm (Kd.Q_lower f7 (below_size zq0));replace HB:=zqm (below_step zq0 hb);clear hb f6 f7)|((with_reducible refine gate_dst (N:=3) rfl ?_);refine box_event ?hg (N:=3) ?hd (cs:= #[.slice none 0 0,.slice none 0 0]) (t:=30) ?hr ?_;(case hd=>rfl);(case hg=>rfl);(case hr=>first|(go_simp;done)|(go_simp;rfl));intro a4 hg u4 hbox hb;replace a2:=zqm (Kd.S_below zq6 hb);replace a3:=zqm (Kd.Q_below zq20 hb);have f8:=zqm (below_step zq0 hb);have a0:=zqm (hbox);have j4:=zqm ((by rw [hg];exact(below_size zq0):w.heap.size≤a4));have b1:=zqm ((by rw [hg];exact(below_size zq0):w.heap.size≤a4));clear HB;have HB:=f8;clear f8 hb hbox hg;obtain⟨j7,j0,x2⟩:=Kd.S_slice a2.out;subst x2;have a2f:u4.cell? ⟨a4,0,none⟩=some (.slice none 0 0):=(blk_cell a0.out 0).trans rfl;have a2g:u4.cell? ⟨a4,1,none⟩=some (.slice none 0 0):=(blk_cell a0.out 1).trans rfl;have a2h:=blk_frozen a0.out 0;have a2i:=blk_frozen a0.out 1;obtain⟨j8,j1,x3,_⟩:=Kd.Q_slice a3.out;subst x3)|((with_reducible refine gate_callee (f:=26) rfl ?_);refine goesL_ (some 24) rfl rfl Try.func26 zqk rfl #[.agg #[.slice j7 a1.length j0,.slice j8 a5.length j1],.int .i64 a8,.int .i64 a6,.int .i64 a9] rfl zq1 ?_;(with_reducible refine(impl_BehindOf.calls _ _ a1 _ _ a5 a8 a6 a9 a7 _ ?side1 ?side2 ?side3 ?side4 A4.out).mono ?_);(case side1=>refine(Kd.S_reads' (e:=28) (base:=w.heap.size) (ok:=fun k_=>some k_≠(.slice j8 a5.length j1:Value).ownBlock) (n:=a1.length) (c:=j0) ?_).2.2;exact zq249);(case side2=>exact(Kd.S_reads' a2.out).2.1);(case side3=>refine(Kd.Q_reads' (e:=3) (base:=w.heap.size) (ok:=fun k_=>True) (n:=a5.length) (c:=j1) ?_).2.2;exact zq261);(case side4=>exact(Kd.Q_reads' a3.out).2.1);rintro e u5 ⟨rfl,hb⟩;refine⟨_,rfl,?_⟩;replace a2:=zqm (Kd.S_below zq249 hb);replace a3:=zqm (Kd.Q_below zq261 hb);replace a0:=zqm (blk_below (g:=a4) (o:= .cells #[.slice j7 a1.length j0,.slice j8 a5.length j1] 30 (0,0)) (by(with_reducible repeat(first|refine blk_drewN ?_ _|refine blk_drew ?_|refine blk_alloc ?_ _));refine blk_put (cs:= #[.slice j7 a1.length j0,.slice none 0 0]) ?_ 1 _ rfl;(with_reducible repeat(first|refine blk_drewN ?_ _|refine blk_drew ?_|refine blk_alloc ?_ _));refine blk_put (cs:= #[.slice none 0 0,.slice none 0 0]) ?_ 0 _ rfl;(with_reducible repeat(first|refine blk_drewN ?_ _|refine blk_drew ?_|refine blk_alloc ?_ _));exact a0.out) hb);replace HB:=zqm (below_step zq3 hb);clear hb;have a2j:u5.cell? ⟨a4,0,none⟩=some (.slice j7 a1.length j0):=(blk_cell a0.out 0).trans rfl;have a2k:u5.cell? ⟨a4,1,none⟩=some (.slice j8 a5.length j1):=(blk_cell a0.out 1).trans rfl;have a2l:=blk_frozen a0.out 0;have a2m:=blk_frozen a0.out 1)|((with_reducible refine gate_callee (f:=27) rfl ?_);refine goesL_ (some 30) rfl rfl Try.func27 zqk rfl #[.agg #[.slice j7 a1.length j0,.slice j8 a5.length j1],.int .i64 a8,.int .i64 a6,.int .i64 a9] rfl zq1 ?_;(with_reducible refine(spec_BehindOf.calls k _ _ a1 _ _ a5 a8 a6 a9 f3 _ ?side1 ?side2 ?side3 ?side4 A5.out).mono ?_);(case side1=> exact zq5);(case side2=>exact(Kd.S_reads' a2.out).2.1);(case side3=> exact zq14);(case side4=>exact(Kd.Q_reads' a3.out).2.1);rintro e w26 ⟨rfl,hb⟩;refine⟨_,rfl,?_⟩;replace a2:=zqm (Kd.S_below zq6 hb);replace a3:=zqm (Kd.Q_below zq20 hb);replace a0:=zqm (blk_below (g:=a4) (o:= .cells #[.slice j7 a1.length j0,.slice j8 a5.length j1] 30 (0,0)) zq2 hb);replace HB:=zqm (below_step zq3 hb);clear hb))
     go_ret
     exact⟨zq11,zq3⟩
   ·rw [if_neg c7] at H;have w7:decide (a7<0)=false:=decide_eq_false c7;clear c7;replace H:=Option.bind_eq_some_iff.mp H;obtain⟨j6,p4,H⟩:=H;replace H:(if j6=true then((impl_ProjectOf.f a1 a5 a8 a9).bind fun b5=>((impl_ProjectOf.f a1 a5 a8 a6).bind fun d1=>(if 0≤a7 then(if a7<(a1.length:Int) then(if 0≤a6 then(if a6<((rd_L3 a1 a7).length:Int) then(if(rd (rd_L3 a1 a7) a6)=1 then((impl_ApartOk.f a1 a5 b5 a6).bind fun d0=>((impl_ApartOk.f a1 a5 d1 a9).bind fun c4=>(if(d0==c4)=true then(if 0≤a8 then(if a8<(a1.length:Int) then(if a6<((rd_L3 a1 a8).length:Int) then(if(rd (rd_L3 a1 a8) a6)=0 then(some true) else(if a7=b5 then((impl_BehindOf.f a1 a5 a6 a8 a9).bind fun f1=>(some (f1==b5))) else(some false))) else(none)) else(none)) else(none)) else(some false)))) else(some false)) else(none)) else(none)) else(none)) else(none)))) else(if 0≤a7 then(if a7<(a1.length:Int) then(if 0≤a6 then(if a6<((rd_L3 a1 a7).length:Int) then(some ((rd (rd_L3 a1 a7) a6)==1)) else(none)) else(none)) else(none)) else(none)))=some r:=H;have m6:=zqm p4;clear p4
    by_cases o2:j6=true
    ·subst o2;(have H1:((impl_ProjectOf.f a1 a5 a8 a9).bind fun b5=>((impl_ProjectOf.f a1 a5 a8 a6).bind fun d1=>(if 0≤a7 then(if a7<(a1.length:Int) then(if 0≤a6 then(if a6<((rd_L3 a1 a7).length:Int) then(if(rd (rd_L3 a1 a7) a6)=1 then((impl_ApartOk.f a1 a5 b5 a6).bind fun d0=>((impl_ApartOk.f a1 a5 d1 a9).bind fun c4=>(if(d0==c4)=true then(if 0≤a8 then(if a8<(a1.length:Int) then(if a6<((rd_L3 a1 a8).length:Int) then(if(rd (rd_L3 a1 a8) a6)=0 then(some true) else(if a7=b5 then((impl_BehindOf.f a1 a5 a6 a8 a9).bind fun f1=>(some (f1==b5))) else(some false))) else(none)) else(none)) else(none)) else(some false)))) else(some false)) else(none)) else(none)) else(none)) else(none))))=some r:=by rw [if_pos rfl] at H;exact H);clear H;have H:=H1;clear H1;replace H:=Option.bind_eq_some_iff.mp H;obtain⟨b5,p5,H⟩:=H;replace H:((impl_ProjectOf.f a1 a5 a8 a6).bind fun d1=>(if 0≤a7 then(if a7<(a1.length:Int) then(if 0≤a6 then(if a6<((rd_L3 a1 a7).length:Int) then(if(rd (rd_L3 a1 a7) a6)=1 then((impl_ApartOk.f a1 a5 b5 a6).bind fun d0=>((impl_ApartOk.f a1 a5 d1 a9).bind fun c4=>(if(d0==c4)=true then(if 0≤a8 then(if a8<(a1.length:Int) then(if a6<((rd_L3 a1 a8).length:Int) then(if(rd (rd_L3 a1 a8) a6)=0 then(some true) else(if a7=b5 then((impl_BehindOf.f a1 a5 a6 a8 a9).bind fun f1=>(some (f1==b5))) else(some false))) else(none)) else(none)) else(none)) else(some false)))) else(some false)) else(none)) else(none)) else(none)) else(none)))=some r:=H;have n8:=zqm p5;clear p5;replace H:=Option.bind_eq_some_iff.mp H;obtain⟨d1,p6,H⟩:=H;replace H:(if 0≤a7 then(if a7<(a1.length:Int) then(if 0≤a6 then(if a6<((rd_L3 a1 a7).length:Int) then(if(rd (rd_L3 a1 a7) a6)=1 then((impl_ApartOk.f a1 a5 b5 a6).bind fun d0=>((impl_ApartOk.f a1 a5 d1 a9).bind fun c4=>(if(d0==c4)=true then(if 0≤a8 then(if a8<(a1.length:Int) then(if a6<((rd_L3 a1 a8).length:Int) then(if(rd (rd_L3 a1 a8) a6)=0 then(some true) else(if a7=b5 then((impl_BehindOf.f a1 a5 a6 a8 a9).bind fun f1=>(some (f1==b5))) else(some false))) else(none)) else(none)) else(none)) else(some false)))) else(some false)) else(none)) else(none)) else(none)) else(none))=some r:=H;have l9:=zqm p6;clear p6
     by_cases o3:0≤a7
     ·rw [if_pos o3] at H;have a5j:decide (0≤a7)=true:=decide_eq_true o3;clear o3
      by_cases o4:a7<(a1.length:Int)
      ·rw [if_pos o4] at H;have a5k:decide (a7<(a1.length:Int))=true:=decide_eq_true o4;clear o4
       by_cases o5:0≤a6
       ·rw [if_pos o5] at H;have a5l:decide (0≤a6)=true:=decide_eq_true o5;clear o5
        by_cases o6:a6<((rd_L3 a1 a7).length:Int)
        ·rw [if_pos o6] at H;have a5m:decide (a6<((rd_L3 a1 a7).length:Int))=true:=decide_eq_true o6;clear o6
         by_cases m1:(rd (rd_L3 a1 a7) a6)=1
         ·rw [if_pos m1] at H;have r7:((rd (rd_L3 a1 a7) a6)==1)=true:=beq_iff_eq.mpr m1;have r8:((rd (rd_L3 a1 a7) a6) !=1)=false:=bne_eq_false_iff_eq.mpr m1;clear m1;replace H:=Option.bind_eq_some_iff.mp H;obtain⟨d0,p7,H⟩:=H;replace H:((impl_ApartOk.f a1 a5 d1 a9).bind fun c4=>(if(d0==c4)=true then(if 0≤a8 then(if a8<(a1.length:Int) then(if a6<((rd_L3 a1 a8).length:Int) then(if(rd (rd_L3 a1 a8) a6)=0 then(some true) else(if a7=b5 then((impl_BehindOf.f a1 a5 a6 a8 a9).bind fun f1=>(some (f1==b5))) else(some false))) else(none)) else(none)) else(none)) else(some false)))=some r:=H;have o7:=zqm p7;clear p7;replace H:=Option.bind_eq_some_iff.mp H;obtain⟨c4,p8,H⟩:=H;replace H:(if(d0==c4)=true then(if 0≤a8 then(if a8<(a1.length:Int) then(if a6<((rd_L3 a1 a8).length:Int) then(if(rd (rd_L3 a1 a8) a6)=0 then(some true) else(if a7=b5 then((impl_BehindOf.f a1 a5 a6 a8 a9).bind fun f1=>(some (f1==b5))) else(some false))) else(none)) else(none)) else(none)) else(some false))=some r:=H;have o8:=zqm p8;clear p8
          by_cases k5:(d0==c4)=true
          ·rw [if_pos k5] at H;have r9:(d0==c4)=true:=k5;(try(have s6:decide (d0=c4)=true:=by simpa using k5));(try(have s7:(d0==c4)=true:=by simpa using k5));clear k5
           by_cases o9:0≤a8
           ·rw [if_pos o9] at H;have a5n:decide (0≤a8)=true:=decide_eq_true o9;clear o9
            by_cases p0:a8<(a1.length:Int)
            ·rw [if_pos p0] at H;have a5o:decide (a8<(a1.length:Int))=true:=decide_eq_true p0;clear p0
             by_cases p1:a6<((rd_L3 a1 a8).length:Int)
             ·rw [if_pos p1] at H;have a5p:decide (a6<((rd_L3 a1 a8).length:Int))=true:=decide_eq_true p1;clear p1
              by_cases m2:(rd (rd_L3 a1 a8) a6)=0
              ·rw [if_pos m2] at H;have s8:((rd (rd_L3 a1 a8) a6)==0)=true:=beq_iff_eq.mpr m2;have s9:((rd (rd_L3 a1 a8) a6) !=0)=false:=bne_eq_false_iff_eq.mpr m2;clear m2;obtain rfl:=Option.some.inj H
               go_enter Try.func5,Try.ntmps5
               (try go_wp2_with (first|((with_reducible refine gate_callee (f:=25) rfl ?_);refine goesL_ (some 15) rfl rfl Try.func25 zqk rfl #[.slice A0 l0.length c0] rfl zq1 ?_;(with_reducible refine(spec_DrawBehindOf.calls k _ _ l0 a1 a5 a8 a6 a9 _ ?side1 ?side2 A3.out).mono ?_);(case side1=> exact zq99);(case side2=>exact l4.out);rintro e w43 ⟨k3,k4,rfl,f6,f7,hb⟩;refine⟨_,rfl,?_⟩;have a2:=zqm (Kd.S_lower f6 (below_size zq0));have a3:=zqm (Kd.Q_lower f7 (below_size zq0));replace HB:=zqm (below_step zq0 hb);clear hb f6 f7)|((with_reducible refine gate_dst (N:=3) rfl ?_);refine box_event ?hg (N:=3) ?hd (cs:= #[.slice none 0 0,.slice none 0 0]) (t:=30) ?hr ?_;(case hd=>rfl);(case hg=>rfl);(case hr=>first|(go_simp;done)|(go_simp;rfl));intro a4 hg u6 hbox hb;replace a2:=zqm (Kd.S_below zq6 hb);replace a3:=zqm (Kd.Q_below zq20 hb);have f8:=zqm (below_step zq0 hb);have a0:=zqm (hbox);have j4:=zqm ((by rw [hg];exact(below_size zq0):w.heap.size≤a4));have b1:=zqm ((by rw [hg];exact(below_size zq0):w.heap.size≤a4));clear HB;have HB:=f8;clear f8 hb hbox hg;obtain⟨f9,e1,x4⟩:=Kd.S_slice a2.out;subst x4;have a2n:u6.cell? ⟨a4,0,none⟩=some (.slice none 0 0):=(blk_cell a0.out 0).trans rfl;have a2o:u6.cell? ⟨a4,1,none⟩=some (.slice none 0 0):=(blk_cell a0.out 1).trans rfl;have a2p:=blk_frozen a0.out 0;have a2q:=blk_frozen a0.out 1;obtain⟨e6,e2,x5,_⟩:=Kd.Q_slice a3.out;subst x5)|((with_reducible refine gate_callee (f:=26) rfl ?_);refine goesL_ (some 24) rfl rfl Try.func26 zqk rfl #[.agg #[.slice f9 a1.length e1,.slice e6 a5.length e2],.int .i64 a8,.int .i64 a6,.int .i64 a9] rfl zq1 ?_;(with_reducible refine(impl_BehindOf.calls _ _ a1 _ _ a5 a8 a6 a9 a7 _ ?side1 ?side2 ?side3 ?side4 A4.out).mono ?_);(case side1=>refine(Kd.S_reads' (e:=28) (base:=w.heap.size) (ok:=fun k_=>some k_≠(.slice e6 a5.length e2:Value).ownBlock) (n:=a1.length) (c:=e1) ?_).2.2;exact zq225);(case side2=>exact(Kd.S_reads' a2.out).2.1);(case side3=>refine(Kd.Q_reads' (e:=3) (base:=w.heap.size) (ok:=fun k_=>True) (n:=a5.length) (c:=e2) ?_).2.2;exact zq246);(case side4=>exact(Kd.Q_reads' a3.out).2.1);rintro e u7 ⟨rfl,hb⟩;refine⟨_,rfl,?_⟩;replace a2:=zqm (Kd.S_below zq225 hb);replace a3:=zqm (Kd.Q_below zq246 hb);replace a0:=zqm (blk_below (g:=a4) (o:= .cells #[.slice f9 a1.length e1,.slice e6 a5.length e2] 30 (0,0)) (by(with_reducible repeat(first|refine blk_drewN ?_ _|refine blk_drew ?_|refine blk_alloc ?_ _));refine blk_put (cs:= #[.slice f9 a1.length e1,.slice none 0 0]) ?_ 1 _ rfl;(with_reducible repeat(first|refine blk_drewN ?_ _|refine blk_drew ?_|refine blk_alloc ?_ _));refine blk_put (cs:= #[.slice none 0 0,.slice none 0 0]) ?_ 0 _ rfl;(with_reducible repeat(first|refine blk_drewN ?_ _|refine blk_drew ?_|refine blk_alloc ?_ _));exact a0.out) hb);replace HB:=zqm (below_step zq3 hb);clear hb;have a2r:u7.cell? ⟨a4,0,none⟩=some (.slice f9 a1.length e1):=(blk_cell a0.out 0).trans rfl;have a2s:u7.cell? ⟨a4,1,none⟩=some (.slice e6 a5.length e2):=(blk_cell a0.out 1).trans rfl;have a2t:=blk_frozen a0.out 0;have a2u:=blk_frozen a0.out 1)|((with_reducible refine gate_callee (f:=27) rfl ?_);refine goesL_ (some 30) rfl rfl Try.func27 zqk rfl #[.agg #[.slice f9 a1.length e1,.slice e6 a5.length e2],.int .i64 a8,.int .i64 a6,.int .i64 a9] rfl zq1 ?_;(with_reducible refine(spec_BehindOf.calls k _ _ a1 _ _ a5 a8 a6 a9 f3 _ ?side1 ?side2 ?side3 ?side4 A5.out).mono ?_);(case side1=> exact zq5);(case side2=>exact(Kd.S_reads' a2.out).2.1);(case side3=> exact zq14);(case side4=>exact(Kd.Q_reads' a3.out).2.1);rintro e u9 ⟨rfl,hb⟩;refine⟨_,rfl,?_⟩;replace a2:=zqm (Kd.S_below zq6 hb);replace a3:=zqm (Kd.Q_below zq20 hb);replace a0:=zqm (blk_below (g:=a4) (o:= .cells #[.slice f9 a1.length e1,.slice e6 a5.length e2] 30 (0,0)) zq2 hb);replace HB:=zqm (below_step zq3 hb);clear hb;have a2v:u9.cell? ⟨a4,0,none⟩=some (.slice f9 a1.length e1):=(blk_cell a0.out 0).trans rfl;have a2w:u9.cell? ⟨a4,1,none⟩=some (.slice e6 a5.length e2):=(blk_cell a0.out 1).trans rfl;have a2x:=blk_frozen a0.out 0;have a2y:=blk_frozen a0.out 1)|((with_reducible refine gate_callee (f:=22) rfl ?_);refine goesL_ (some 40) rfl rfl Try.func22 zqk rfl #[.agg #[.slice f9 a1.length e1,.slice e6 a5.length e2]] rfl zq1 ?_;(with_reducible refine(spec_KeepsOk.calls k _ _ a1 _ _ a5 true _ ?side1 ?side2 ?side3 ?side4 m6.out).mono ?_);(case side1=> exact zq5);(case side2=>exact(Kd.S_reads' a2.out).2.1);(case side3=> exact zq14);(case side4=>exact(Kd.Q_reads' a3.out).2.1);rintro e v0 ⟨rfl,hb⟩;refine⟨_,rfl,?_⟩;replace a2:=zqm (Kd.S_below zq6 hb);replace a3:=zqm (Kd.Q_below zq20 hb);replace a0:=zqm (blk_below (g:=a4) (o:= .cells #[.slice f9 a1.length e1,.slice e6 a5.length e2] 30 (0,0)) zq2 hb);replace HB:=zqm (below_step zq3 hb);clear hb;have a2z:v0.cell? ⟨a4,0,none⟩=some (.slice f9 a1.length e1):=(blk_cell a0.out 0).trans rfl;have a3a:v0.cell? ⟨a4,1,none⟩=some (.slice e6 a5.length e2):=(blk_cell a0.out 1).trans rfl;have a3b:=blk_frozen a0.out 0;have a3c:=blk_frozen a0.out 1)|((with_reducible refine gate_callee (f:=20) rfl ?_);refine goesL_ (some 54) rfl rfl Try.func20 zqk rfl #[.agg #[.slice f9 a1.length e1,.slice e6 a5.length e2],.int .i64 a8,.int .i64 a9] rfl zq1 ?_;(with_reducible refine(impl_ProjectOf.calls _ _ a1 _ _ a5 a8 a9 b5 _ ?side1 ?side2 ?side3 ?side4 n8.out).mono ?_);(case side1=> exact zq5);(case side2=>exact(Kd.S_reads' a2.out).2.1);(case side3=> exact zq14);(case side4=>exact(Kd.Q_reads' a3.out).2.1);rintro e v1 ⟨rfl,hb⟩;refine⟨_,rfl,?_⟩;replace a2:=zqm (Kd.S_below zq6 hb);replace a3:=zqm (Kd.Q_below zq20 hb);replace a0:=zqm (blk_below (g:=a4) (o:= .cells #[.slice f9 a1.length e1,.slice e6 a5.length e2] 30 (0,0)) zq2 hb);replace HB:=zqm (below_step zq3 hb);clear hb;have a3d:v1.cell? ⟨a4,0,none⟩=some (.slice f9 a1.length e1):=(blk_cell a0.out 0).trans rfl;have a3e:v1.cell? ⟨a4,1,none⟩=some (.slice e6 a5.length e2):=(blk_cell a0.out 1).trans rfl;have a3f:=blk_frozen a0.out 0;have a3g:=blk_frozen a0.out 1)|((with_reducible refine gate_callee (f:=20) rfl ?_);refine goesL_ (some 58) rfl rfl Try.func20 zqk rfl #[.agg #[.slice f9 a1.length e1,.slice e6 a5.length e2],.int .i64 a8,.int .i64 a6] rfl zq1 ?_;(with_reducible refine(impl_ProjectOf.calls _ _ a1 _ _ a5 a8 a6 d1 _ ?side1 ?side2 ?side3 ?side4 l9.out).mono ?_);(case side1=> exact zq5);(case side2=>exact(Kd.S_reads' a2.out).2.1);(case side3=> exact zq14);(case side4=>exact(Kd.Q_reads' a3.out).2.1);rintro e w56 ⟨rfl,hb⟩;refine⟨_,rfl,?_⟩;replace a2:=zqm (Kd.S_below zq6 hb);replace a3:=zqm (Kd.Q_below zq20 hb);replace a0:=zqm (blk_below (g:=a4) (o:= .cells #[.slice f9 a1.length e1,.slice e6 a5.length e2] 30 (0,0)) zq2 hb);replace HB:=zqm (below_step zq3 hb);clear hb)))
               replace a2:=zqm (Kd.S_drew a2.out);replace a3:=zqm (Kd.Q_drew a3.out);replace a0:=zqm (blk_drew a0.out);replace HB:=zqm (below_drew1 HB.out);have e7:0≤(a7:Int):=zqo;have e8:a7<(a1.length:Int):=zqo;obtain⟨b8,l5,h4,k1,b9,d7,d8⟩:=at_L3 (Kd.S_reads' a2.out).2.2 a7 e7 e8
               cases k1
               obtain⟨m0,h5,h6,f2⟩:=Kd.S_get a2.out [] a7 e7 zq350;obtain⟨l1,rfl,c1⟩:=h6;have b6:=f2 0 _ rfl;rw [Nat.add_zero,show ((Kd.slice 3 (Kd.int .i64))).sz=1 from rfl,Nat.mul_one] at b6;replace b6:=Option.some.inj (b6.symm.trans b9);rw [b6] at c1;have b7:=zqm (show Kd.R (Kd.int .i64) 3 _ _ _ _ (rd_L3 a1 a7) from c1);clear b6 c1 f2 h5;have b0:=zqm d8;have l2:=zqm d7;clear d8 d7;replace e7:=eq_true e7;replace e8:=eq_true e8;have g0:0≤(a6:Int):=zqo;have g1:a6<((rd_L3 a1 a7).length:Int):=zqo;obtain⟨g7,k2,d9⟩:=Kd.at_int zq46 a6 g0 g1
               cases k2
               replace g0:=eq_true g0;replace g1:=eq_true g1;have h7:0≤(a8:Int):=zqo;have h8:a8<(a1.length:Int):=zqo;obtain⟨l6,k6,k7,m3,f4,h2,h3⟩:=at_L3 (Kd.S_reads' a2.out).2.2 a8 h7 h8;obtain rfl:b8=l6:=(by injection m3);obtain⟨p2,k8,k9,i5⟩:=Kd.S_get a2.out [] a8 h7 zq388;obtain⟨m7,rfl,f5⟩:=k9;have c5:=i5 0 _ rfl;rw [Nat.add_zero,show ((Kd.slice 3 (Kd.int .i64))).sz=1 from rfl,Nat.mul_one] at c5;replace c5:=Option.some.inj (c5.symm.trans f4);rw [c5] at f5;have b4:=zqm (show Kd.R (Kd.int .i64) 3 _ _ _ _ (rd_L3 a1 a8) from f5);clear c5 f5 i5 k8;have b2:=zqm h3;have m8:=zqm h2;clear h3 h2;replace h7:=eq_true h7;replace h8:=eq_true h8;have j2:0≤(a6:Int):=zqo;have j3:a6<((rd_L3 a1 a8).length:Int):=zqo;obtain⟨l7,m4,j9⟩:=Kd.at_int zq168 a6 j2 j3;refine start_ (n:=46) (S:=fun w'=>w'.cell? ⟨a4,0,none⟩=some (.slice (some b8) a1.length e1)∧w'.cell? ⟨a4,1,none⟩=some (.slice e6 a5.length e2)∧w'.cell? (b8.add (a7).toNat)=some (.slice (some g7) (rd_L3 a1 a7).length h4)∧w'.cell? (g7.add (a6).toNat)=some (.int .i64 (rd (rd_L3 a1 a7) a6))∧w'.cell? (b8.add (a8).toNat)=some (.slice k6 (rd_L3 a1 a8).length k7)∧w'.cell? (l7.add (a6).toNat)=some (.int .i64 (rd (rd_L3 a1 a8) a6))) (ds:= []) (zqb 46 0) zqk rfl rfl ⟨(blk_cell a0.out 0).trans rfl,(blk_cell a0.out 1).trans rfl,b9,d9,f4,j9⟩ (fun hHeld=>?_);refine with_tabW laws_FnBehindOf.tab13 laws_FnBehindOf.bits13 (fun HT_ HW_=>?_);generalize w56.drew=w57 at a2 a3 a0 HB b7 b4 b0 b2 b9 d9 f4 hHeld ⊢;refine pure_ (i:=0) (N:=some 59) (v:=?_) (a':=?_) (zqb 46 1) rfl rfl (any_of HT_.out zqk) (fun _ _ _ h=>h) (Or.inl ⟨by rfl,?_⟩) ?_ ?_;rotate_left
               ·exact zqt
               rotate_left
               ·exact zqs
               refine pure_ (i:=2) (N:=some 61) (v:=?_) (a':=?_) (zqb 46 5) rfl rfl (any_of HT_.out zqk) (fun _ _ _ h=>h) (Or.inl ⟨by rfl,?_⟩) ?_ ?_;rotate_left
               ·exact zqt
               rotate_left
               ·exact zqs
               refine pure_ (i:=5) (N:=some 64) (v:=?_) (a':=?_) (zqb 46 37) rfl rfl (any_of HT_.out zqk) (fun _ _ _ h=>h) (Or.inl ⟨by rfl,?_⟩) ?_ ?_;rotate_left
               ·exact zqt
               rotate_left
               ·exact zqs
               refine take_ (i:=1) (N:=some 60) (v:=?_) (a':=?_) (zqb 46 39) rfl rfl (take_ofW HT_.out HW_.out zqk) (fun _ _ _ h=>h) (Or.inl ⟨by rfl,?_⟩) hHeld ?_ ?_;rotate_left
               ·rintro w' ⟨s0,s1,s2,s3,s4,s5⟩;go_simp;with_reducible rfl
               rotate_left
               ·exact zqs
               refine pure_ (i:=3) (N:=some 62) (v:=?_) (a':=?_) (zqb 46 47) rfl rfl (any_of HT_.out zqk) (fun _ _ _ h=>h) (Or.inl ⟨by rfl,?_⟩) ?_ ?_;rotate_left
               ·exact zqt
               rotate_left
               ·exact zqs
               refine take_ (i:=4) (N:=some 63) (v:=?_) (a':=?_) (zqb 46 63) rfl rfl (take_ofW HT_.out HW_.out zqk) (fun _ _ _ h=>h) (Or.inl ⟨by rfl,?_⟩) hHeld ?_ ?_;rotate_left
               ·rintro w' ⟨s0,s1,s2,s3,s4,s5⟩;go_simp;with_reducible rfl
               rotate_left
               ·exact zqs
               refine pure_ (i:=6) (N:=some 65) (v:=?_) (a':=?_) (zqb 46 127) rfl rfl (any_of HT_.out zqk) (fun _ _ _ h=>h) (Or.inl ⟨by rfl,?_⟩) ?_ ?_;rotate_left
               ·exact zqt
               rotate_left
               ·exact zqs
               refine take_ (i:=7) (N:=some 66) (v:=?_) (a':=?_) (zqb 46 255) rfl rfl (take_ofW HT_.out HW_.out zqk) (fun _ _ _ h=>h) (Or.inl ⟨by rfl,?_⟩) hHeld ?_ ?_;rotate_left
               ·rintro w' ⟨s0,s1,s2,s3,s4,s5⟩;go_simp;with_reducible rfl
               rotate_left
               ·exact zqs
               refine pure_ (i:=8) (N:=some 67) (v:=?_) (a':=?_) (zqb 46 511) rfl rfl (any_of HT_.out zqk) (fun _ _ _ h=>h) (Or.inl ⟨by rfl,?_⟩) ?_ ?_;rotate_left
               ·exact zqt
               rotate_left
               ·exact zqs
               refine pure_ (i:=9) (N:=some 68) (v:=?_) (a':=?_) (zqb 46 1023) rfl rfl (any_of HT_.out zqk) (fun _ _ _ h=>h) (Or.inl ⟨by rfl,?_⟩) ?_ ?_;rotate_left
               ·exact zqt
               rotate_left
               ·exact zqs
               refine pure_ (i:=11) (N:=some 70) (v:=?_) (a':=?_) (zqb 46 3071) rfl rfl (any_of HT_.out zqk) (fun _ _ _ h=>h) (Or.inl ⟨by rfl,?_⟩) ?_ ?_;rotate_left
               ·exact zqt
               rotate_left
               ·exact zqs
               refine pure_ (i:=12) (N:=some 71) (v:=?_) (a':=?_) (zqb 46 7167) rfl rfl (any_of HT_.out zqk) (fun _ _ _ h=>h) (Or.inl ⟨by rfl,?_⟩) ?_ ?_;rotate_left
               ·exact zqt
               rotate_left
               ·exact zqs
               refine pure_ (i:=15) (N:=some 74) (v:=?_) (a':=?_) (zqb 46 39935) rfl rfl (any_of HT_.out zqk) (fun _ _ _ h=>h) (Or.inl ⟨by rfl,?_⟩) ?_ ?_;rotate_left
               ·exact zqt
               rotate_left
               ·exact zqs
               refine pure_ (i:=16) (N:=some 75) (v:=?_) (a':=?_) (zqb 46 105471) rfl rfl (any_of HT_.out zqk) (fun _ _ _ h=>h) (Or.inl ⟨by rfl,?_⟩) ?_ ?_;rotate_left
               ·exact zqt
               rotate_left
               ·exact zqs
               refine take_ (i:=10) (N:=some 69) (v:=?_) (a':=?_) (zqb 46 106495) rfl rfl (take_ofW HT_.out HW_.out zqk) (fun _ _ _ h=>h) (Or.inl ⟨by rfl,?_⟩) hHeld ?_ ?_;rotate_left
               ·rintro w' ⟨s0,s1,s2,s3,s4,s5⟩;go_simp;with_reducible rfl
               rotate_left
               ·exact zqs
               refine take_ (i:=14) (N:=some 73) (v:=?_) (a':=?_) (zqb 46 122879) rfl rfl (take_ofW HT_.out HW_.out zqk) (fun _ _ _ h=>h) (Or.inl ⟨by rfl,?_⟩) hHeld ?_ ?_;rotate_left
               ·rintro w' ⟨s0,s1,s2,s3,s4,s5⟩;go_simp;with_reducible rfl
               rotate_left
               ·exact zqs
               refine one_ (i:=13) (N:=some 72) (zqb 46 131071) rfl rfl (one_of HT_.out zqk) (by decide) (fun K hK=>?_);refine goes_ Try.func28 zqk rfl #[.agg #[.slice (some b8) a1.length e1,.slice e6 a5.length e2],.int .i64 b5,.int .i64 a6] (by rfl) rfl rfl zq1 ?_;(with_reducible refine(impl_ApartOk.calls _ _ a1 _ _ a5 b5 a6 d0 _ ?side1 ?side2 ?side3 ?side4 o7.out).mono ?_);(case side1=> exact zq5);(case side2=>exact(Kd.S_reads' a2.out).2.1);(case side3=> exact zq14);(case side4=>exact(Kd.Q_reads' a3.out).2.1);rintro e w58 ⟨rfl,hb⟩;have h0:=(hb.cell (World.block_lt_of_cell? _ _ (hHeld.2.2.1))).trans (hHeld.2.2.1);have h1:=(hb.cell (World.block_lt_of_cell? _ _ (hHeld.2.2.2.1))).trans (hHeld.2.2.2.1);have i1:=(hb.cell (World.block_lt_of_cell? _ _ (hHeld.2.2.2.2.1))).trans (hHeld.2.2.2.2.1);have i2:=(hb.cell (World.block_lt_of_cell? _ _ (hHeld.2.2.2.2.2))).trans (hHeld.2.2.2.2.2);refine⟨_,rfl,?_⟩
               first|(replace b4:=zqm (Kd.R_below b4.out hb))|(replace b4:=zqm (Kd.R_below (Kd.R_drewN b4.out _) hb))
               first|(replace b2:=zqm (Kd.C_below b2.out hb))|(replace b2:=zqm (Kd.C_below (Kd.C_drewN b2.out _) hb))
               replace a2:=zqm (Kd.S_below zq6 hb);replace a3:=zqm (Kd.Q_below zq20 hb);replace b7:=zqm (Kd.R_below zq140 hb);replace a0:=zqm (blk_below (g:=a4) (o:= .cells #[.slice (some b8) a1.length e1,.slice e6 a5.length e2] 30 (0,0)) zq2 hb);replace b0:=zqm (Kd.C_below zq46 hb);replace HB:=zqm (below_step zq3 hb);refine hK.out _ _ ⟨(blk_cell a0.out 0).trans rfl,(blk_cell a0.out 1).trans rfl,h0,h1,i1,i2⟩ (fun hHeld=>?_);clear hK K;refine norm_ (a':=?_) ?_ ?_;rotate_left
               ·show Act.put _ (some 72) _=_;exact zqs
               refine one_ (i:=17) (N:=some 76) (zqb 46 262143) rfl rfl (one_of HT_.out zqk) (by decide) (fun K hK=>?_);refine goes_ Try.func28 zqk rfl #[.agg #[.slice (some b8) a1.length e1,.slice e6 a5.length e2],.int .i64 d1,.int .i64 a9] (by rfl) rfl rfl zq1 ?_;(with_reducible refine(impl_ApartOk.calls _ _ a1 _ _ a5 d1 a9 c4 _ ?side1 ?side2 ?side3 ?side4 o8.out).mono ?_);(case side1=> exact zq5);(case side2=>exact(Kd.S_reads' a2.out).2.1);(case side3=> exact zq14);(case side4=>exact(Kd.Q_reads' a3.out).2.1);rintro e w59 ⟨rfl,hb⟩;have h0:=(hb.cell (World.block_lt_of_cell? _ _ (hHeld.2.2.1))).trans (hHeld.2.2.1);have h1:=(hb.cell (World.block_lt_of_cell? _ _ (hHeld.2.2.2.1))).trans (hHeld.2.2.2.1);have i1:=(hb.cell (World.block_lt_of_cell? _ _ (hHeld.2.2.2.2.1))).trans (hHeld.2.2.2.2.1);have i2:=(hb.cell (World.block_lt_of_cell? _ _ (hHeld.2.2.2.2.2))).trans (hHeld.2.2.2.2.2);refine⟨_,rfl,?_⟩
               first|(replace b4:=zqm (Kd.R_below b4.out hb))|(replace b4:=zqm (Kd.R_below (Kd.R_drewN b4.out _) hb))
               first|(replace b2:=zqm (Kd.C_below b2.out hb))|(replace b2:=zqm (Kd.C_below (Kd.C_drewN b2.out _) hb))
               replace a2:=zqm (Kd.S_below zq6 hb);replace a3:=zqm (Kd.Q_below zq20 hb);replace b7:=zqm (Kd.R_below zq140 hb);replace a0:=zqm (blk_below (g:=a4) (o:= .cells #[.slice (some b8) a1.length e1,.slice e6 a5.length e2] 30 (0,0)) zq2 hb);replace b0:=zqm (Kd.C_below zq46 hb);replace HB:=zqm (below_step zq3 hb);
               cases m4
               replace j2:=eq_true j2;replace j3:=eq_true j3;refine hK.out _ _ ⟨(blk_cell a0.out 0).trans rfl,(blk_cell a0.out 1).trans rfl,h0,h1,i1,i2⟩ (fun hHeld=>?_);clear hK K;refine norm_ (a':=?_) ?_ ?_;rotate_left
               ·show Act.put _ (some 76) _=_;exact zqs
               refine pure_ (i:=18) (N:=some 77) (v:=?_) (a':=?_) (zqb 46 524287) rfl rfl (any_of HT_.out zqk) (fun _ _ _ h=>h) (Or.inl ⟨by rfl,?_⟩) ?_ ?_;rotate_left
               ·exact zqt
               rotate_left
               ·exact zqs
               refine pure_ (i:=19) (N:=some 78) (v:=?_) (a':=?_) (zqb 46 1048575) rfl rfl (any_of HT_.out zqk) (fun _ _ _ h=>h) (Or.inl ⟨by rfl,?_⟩) ?_ ?_;rotate_left
               ·exact zqt
               rotate_left
               ·exact zqs
               refine pure_ (i:=20) (N:=some 79) (v:=?_) (a':=?_) (zqb 46 2097151) rfl rfl (any_of HT_.out zqk) (fun _ _ _ h=>h) (Or.inl ⟨by rfl,?_⟩) ?_ ?_;rotate_left
               ·exact zqt
               rotate_left
               ·exact zqs
               refine pure_ (i:=21) (N:=some 80) (v:=?_) (a':=?_) (zqb 46 4194303) rfl rfl (any_of HT_.out zqk) (fun _ _ _ h=>h) (Or.inl ⟨by rfl,?_⟩) ?_ ?_;rotate_left
               ·exact zqt
               rotate_left
               ·exact zqs
               refine pure_ (i:=23) (N:=some 82) (v:=?_) (a':=?_) (zqb 46 12582911) rfl rfl (any_of HT_.out zqk) (fun _ _ _ h=>h) (Or.inl ⟨by rfl,?_⟩) ?_ ?_;rotate_left
               ·exact zqt
               rotate_left
               ·exact zqs
               refine pure_ (i:=26) (N:=some 85) (v:=?_) (a':=?_) (zqb 46 79691775) rfl rfl (any_of HT_.out zqk) (fun _ _ _ h=>h) (Or.inl ⟨by rfl,?_⟩) ?_ ?_;rotate_left
               ·exact zqt
               rotate_left
               ·exact zqs
               refine take_ (i:=22) (N:=some 81) (v:=?_) (a':=?_) (zqb 46 83886079) rfl rfl (take_ofW HT_.out HW_.out zqk) (fun _ _ _ h=>h) (Or.inl ⟨by rfl,?_⟩) hHeld ?_ ?_;rotate_left
               ·rintro w' ⟨s0,s1,s2,s3,s4,s5⟩;go_simp;with_reducible rfl
               rotate_left
               ·exact zqs
               refine pure_ (i:=24) (N:=some 83) (v:=?_) (a':=?_) (zqb 46 100663295) rfl rfl (any_of HT_.out zqk) (fun _ _ _ h=>h) (Or.inl ⟨by rfl,?_⟩) ?_ ?_;rotate_left
               ·exact zqt
               rotate_left
               ·exact zqs
               refine take_ (i:=25) (N:=some 84) (v:=?_) (a':=?_) (zqb 46 134217727) rfl rfl (take_ofW HT_.out HW_.out zqk) (fun _ _ _ h=>h) (Or.inl ⟨by rfl,?_⟩) hHeld ?_ ?_;rotate_left
               ·rintro w' ⟨s0,s1,s2,s3,s4,s5⟩;go_simp;with_reducible rfl
               rotate_left
               ·exact zqs
               refine pure_ (i:=27) (N:=some 86) (v:=?_) (a':=?_) (zqb 46 268435455) rfl rfl (any_of HT_.out zqk) (fun _ _ _ h=>h) (Or.inl ⟨by rfl,?_⟩) ?_ ?_;rotate_left
               ·exact zqt
               rotate_left
               ·exact zqs
               refine take_ (i:=28) (N:=some 87) (v:=?_) (a':=?_) (zqb 46 536870911) rfl rfl (take_ofW HT_.out HW_.out zqk) (fun _ _ _ h=>h) (Or.inl ⟨by rfl,?_⟩) hHeld ?_ ?_;rotate_left
               ·rintro w' ⟨s0,s1,s2,s3,s4,s5⟩;go_simp;with_reducible rfl
               rotate_left
               ·exact zqs
               refine pure_ (i:=29) (N:=some 88) (v:=?_) (a':=?_) (zqb 46 1073741823) rfl rfl (any_of HT_.out zqk) (fun _ _ _ h=>h) (Or.inl ⟨by rfl,?_⟩) ?_ ?_;rotate_left
               ·exact zqt
               rotate_left
               ·exact zqs
               refine pure_ (i:=30) (N:=some 89) (v:=?_) (a':=?_) (zqb 46 2147483647) rfl rfl (any_of HT_.out zqk) (fun _ _ _ h=>h) (Or.inl ⟨by rfl,?_⟩) ?_ ?_;rotate_left
               ·exact zqt
               rotate_left
               ·exact zqs
               refine pure_ (i:=31) (N:=some 90) (v:=undef) (a':=?_) (zqb 46 4294967295) rfl rfl (any_of HT_.out zqk) (fun _ _ _ h=>h) (Or.inr ⟨by rfl,rfl⟩) ?_ ?_;rotate_left
               ·exact zqs
               refine pure_ (i:=32) (N:=some 91) (v:=undef) (a':=?_) (zqb 46 8589934591) rfl rfl (any_of HT_.out zqk) (fun _ _ _ h=>h) (Or.inr ⟨by rfl,rfl⟩) ?_ ?_;rotate_left
               ·exact zqs
               refine pure_ (i:=33) (N:=some 92) (v:=undef) (a':=?_) (zqb 46 17179869183) rfl rfl (any_of HT_.out zqk) (fun _ _ _ h=>h) (Or.inr ⟨by rfl,rfl⟩) ?_ ?_;rotate_left
               ·exact zqs
               refine pure_ (i:=34) (N:=some 93) (v:=undef) (a':=?_) (zqb 46 34359738367) rfl rfl (any_of HT_.out zqk) (fun _ _ _ h=>h) (Or.inr ⟨by rfl,rfl⟩) ?_ ?_;rotate_left
               ·exact zqs
               refine pure_ (i:=35) (N:=some 94) (v:=undef) (a':=?_) (zqb 46 68719476735) rfl rfl (any_of HT_.out zqk) (fun _ _ _ h=>h) (Or.inr ⟨by rfl,rfl⟩) ?_ ?_;rotate_left
               ·exact zqs
               refine pure_ (i:=36) (N:=some 95) (v:=undef) (a':=?_) (zqb 46 137438953471) rfl rfl (any_of HT_.out zqk) (fun _ _ _ h=>h) (Or.inr ⟨by rfl,rfl⟩) ?_ ?_;rotate_left
               ·exact zqs
               refine pure_ (i:=37) (N:=some 96) (v:=undef) (a':=?_) (zqb 46 274877906943) rfl rfl (any_of HT_.out zqk) (fun _ _ _ h=>h) (Or.inr ⟨by rfl,rfl⟩) ?_ ?_;rotate_left
               ·exact zqs
               refine pure_ (i:=38) (N:=some 97) (v:=undef) (a':=?_) (zqb 46 549755813887) rfl rfl (any_of HT_.out zqk) (fun _ _ _ h=>h) (Or.inr ⟨by rfl,rfl⟩) ?_ ?_;rotate_left
               ·exact zqs
               refine pure_ (i:=39) (N:=some 98) (v:=undef) (a':=?_) (zqb 46 1099511627775) rfl rfl (any_of HT_.out zqk) (fun _ _ _ h=>h) (Or.inr ⟨by rfl,rfl⟩) ?_ ?_;rotate_left
               ·exact zqs
               refine pure_ (i:=40) (N:=some 99) (v:=undef) (a':=?_) (zqb 46 2199023255551) rfl rfl (any_of HT_.out zqk) (fun _ _ _ h=>h) (Or.inr ⟨by rfl,rfl⟩) ?_ ?_;rotate_left
               ·exact zqs
               refine pure_ (i:=41) (N:=some 100) (v:=undef) (a':=?_) (zqb 46 4398046511103) rfl rfl (any_of HT_.out zqk) (fun _ _ _ h=>h) (Or.inr ⟨by rfl,rfl⟩) ?_ ?_;rotate_left
               ·exact zqs
               refine pure_ (i:=42) (N:=some 101) (v:=undef) (a':=?_) (zqb 46 8796093022207) rfl rfl (any_of HT_.out zqk) (fun _ _ _ h=>h) (Or.inr ⟨by rfl,rfl⟩) ?_ ?_;rotate_left
               ·exact zqs
               refine pure_ (i:=43) (N:=some 102) (v:=?_) (a':=?_) (zqb 46 17592186044415) rfl rfl (any_of HT_.out zqk) (fun _ _ _ h=>h) (Or.inl ⟨by rfl,?_⟩) ?_ ?_;rotate_left
               ·exact zqt
               rotate_left
               ·exact zqs
               refine pure_ (i:=44) (N:=some 103) (v:=?_) (a':=?_) (zqb 46 35184372088831) rfl rfl (any_of HT_.out zqk) (fun _ _ _ h=>h) (Or.inl ⟨by rfl,?_⟩) ?_ ?_;rotate_left
               ·exact zqt
               rotate_left
               ·exact zqs
               refine pure_ (i:=45) (N:=some 2) (v:=?_) (a':=?_) (zqb 46 70368744177663) rfl rfl (any_of HT_.out zqk) (fun _ _ _ h=>h) (Or.inl ⟨by rfl,?_⟩) ?_ ?_;rotate_left
               ·exact zqt
               rotate_left
               ·exact zqs
               refine done_ (done_of HT_.out zqk) ?_;try go_wp2
               go_ret
               exact⟨zq11,zq3⟩
              ·rw [if_neg m2] at H;have s8:((rd (rd_L3 a1 a8) a6)==0)=false:=beq_eq_false_iff_ne.mpr m2;have s9:((rd (rd_L3 a1 a8) a6) !=0)=true:=bne_iff_ne.mpr m2
               by_cases m5:a7=b5
               ·rw [if_pos m5] at H;have t0:(a7==b5)=true:=beq_iff_eq.mpr m5;have t1:(a7 !=b5)=false:=bne_eq_false_iff_eq.mpr m5;clear m5;replace H:=Option.bind_eq_some_iff.mp H;obtain⟨f1,p9,H⟩:=H;replace H:(some (f1==b5))=some r:=H;have A61:=zqm p9;clear p9;obtain rfl:=Option.some.inj H
                go_enter Try.func5,Try.ntmps5
                (try go_wp2_with (first|((with_reducible refine gate_callee (f:=25) rfl ?_);refine goesL_ (some 15) rfl rfl Try.func25 zqk rfl #[.slice A0 l0.length c0] rfl zq1 ?_;(with_reducible refine(spec_DrawBehindOf.calls k _ _ l0 a1 a5 a8 a6 a9 _ ?side1 ?side2 A3.out).mono ?_);(case side1=> exact zq99);(case side2=>exact l4.out);rintro e w62 ⟨k3,k4,rfl,f6,f7,hb⟩;refine⟨_,rfl,?_⟩;have a2:=zqm (Kd.S_lower f6 (below_size zq0));have a3:=zqm (Kd.Q_lower f7 (below_size zq0));replace HB:=zqm (below_step zq0 hb);clear hb f6 f7)|((with_reducible refine gate_dst (N:=3) rfl ?_);refine box_event ?hg (N:=3) ?hd (cs:= #[.slice none 0 0,.slice none 0 0]) (t:=30) ?hr ?_;(case hd=>rfl);(case hg=>rfl);(case hr=>first|(go_simp;done)|(go_simp;rfl));intro a4 hg v2 hbox hb;replace a2:=zqm (Kd.S_below zq6 hb);replace a3:=zqm (Kd.Q_below zq20 hb);have f8:=zqm (below_step zq0 hb);have a0:=zqm (hbox);have j4:=zqm ((by rw [hg];exact(below_size zq0):w.heap.size≤a4));have b1:=zqm ((by rw [hg];exact(below_size zq0):w.heap.size≤a4));clear HB;have HB:=f8;clear f8 hb hbox hg;obtain⟨g2,d2,x6⟩:=Kd.S_slice a2.out;subst x6;have a3h:v2.cell? ⟨a4,0,none⟩=some (.slice none 0 0):=(blk_cell a0.out 0).trans rfl;have a3i:v2.cell? ⟨a4,1,none⟩=some (.slice none 0 0):=(blk_cell a0.out 1).trans rfl;have a3j:=blk_frozen a0.out 0;have a3k:=blk_frozen a0.out 1;obtain⟨d6,d3,x7,_⟩:=Kd.Q_slice a3.out;subst x7)|((with_reducible refine gate_callee (f:=26) rfl ?_);refine goesL_ (some 24) rfl rfl Try.func26 zqk rfl #[.agg #[.slice g2 a1.length d2,.slice d6 a5.length d3],.int .i64 a8,.int .i64 a6,.int .i64 a9] rfl zq1 ?_;(with_reducible refine(impl_BehindOf.calls _ _ a1 _ _ a5 a8 a6 a9 a7 _ ?side1 ?side2 ?side3 ?side4 A4.out).mono ?_);(case side1=>refine(Kd.S_reads' (e:=28) (base:=w.heap.size) (ok:=fun k_=>some k_≠(.slice d6 a5.length d3:Value).ownBlock) (n:=a1.length) (c:=d2) ?_).2.2;exact zq218);(case side2=>exact(Kd.S_reads' a2.out).2.1);(case side3=>refine(Kd.Q_reads' (e:=3) (base:=w.heap.size) (ok:=fun k_=>True) (n:=a5.length) (c:=d3) ?_).2.2;exact zq187);(case side4=>exact(Kd.Q_reads' a3.out).2.1);rintro e v3 ⟨rfl,hb⟩;refine⟨_,rfl,?_⟩;replace a2:=zqm (Kd.S_below zq218 hb);replace a3:=zqm (Kd.Q_below zq187 hb);replace a0:=zqm (blk_below (g:=a4) (o:= .cells #[.slice g2 a1.length d2,.slice d6 a5.length d3] 30 (0,0)) (by(with_reducible repeat(first|refine blk_drewN ?_ _|refine blk_drew ?_|refine blk_alloc ?_ _));refine blk_put (cs:= #[.slice g2 a1.length d2,.slice none 0 0]) ?_ 1 _ rfl;(with_reducible repeat(first|refine blk_drewN ?_ _|refine blk_drew ?_|refine blk_alloc ?_ _));refine blk_put (cs:= #[.slice none 0 0,.slice none 0 0]) ?_ 0 _ rfl;(with_reducible repeat(first|refine blk_drewN ?_ _|refine blk_drew ?_|refine blk_alloc ?_ _));exact a0.out) hb);replace HB:=zqm (below_step zq3 hb);clear hb;have a3l:v3.cell? ⟨a4,0,none⟩=some (.slice g2 a1.length d2):=(blk_cell a0.out 0).trans rfl;have a3m:v3.cell? ⟨a4,1,none⟩=some (.slice d6 a5.length d3):=(blk_cell a0.out 1).trans rfl;have a3n:=blk_frozen a0.out 0;have a3o:=blk_frozen a0.out 1)|((with_reducible refine gate_callee (f:=27) rfl ?_);refine goesL_ (some 30) rfl rfl Try.func27 zqk rfl #[.agg #[.slice g2 a1.length d2,.slice d6 a5.length d3],.int .i64 a8,.int .i64 a6,.int .i64 a9] rfl zq1 ?_;(with_reducible refine(spec_BehindOf.calls k _ _ a1 _ _ a5 a8 a6 a9 f3 _ ?side1 ?side2 ?side3 ?side4 A5.out).mono ?_);(case side1=> exact zq5);(case side2=>exact(Kd.S_reads' a2.out).2.1);(case side3=> exact zq14);(case side4=>exact(Kd.Q_reads' a3.out).2.1);rintro e v4 ⟨rfl,hb⟩;refine⟨_,rfl,?_⟩;replace a2:=zqm (Kd.S_below zq6 hb);replace a3:=zqm (Kd.Q_below zq20 hb);replace a0:=zqm (blk_below (g:=a4) (o:= .cells #[.slice g2 a1.length d2,.slice d6 a5.length d3] 30 (0,0)) zq2 hb);replace HB:=zqm (below_step zq3 hb);clear hb;have a3p:v4.cell? ⟨a4,0,none⟩=some (.slice g2 a1.length d2):=(blk_cell a0.out 0).trans rfl;have a3q:v4.cell? ⟨a4,1,none⟩=some (.slice d6 a5.length d3):=(blk_cell a0.out 1).trans rfl;have a3r:=blk_frozen a0.out 0;have a3s:=blk_frozen a0.out 1)|((with_reducible refine gate_callee (f:=22) rfl ?_);refine goesL_ (some 40) rfl rfl Try.func22 zqk rfl #[.agg #[.slice g2 a1.length d2,.slice d6 a5.length d3]] rfl zq1 ?_;(with_reducible refine(spec_KeepsOk.calls k _ _ a1 _ _ a5 true _ ?side1 ?side2 ?side3 ?side4 m6.out).mono ?_);(case side1=> exact zq5);(case side2=>exact(Kd.S_reads' a2.out).2.1);(case side3=> exact zq14);(case side4=>exact(Kd.Q_reads' a3.out).2.1);rintro e v5 ⟨rfl,hb⟩;refine⟨_,rfl,?_⟩;replace a2:=zqm (Kd.S_below zq6 hb);replace a3:=zqm (Kd.Q_below zq20 hb);replace a0:=zqm (blk_below (g:=a4) (o:= .cells #[.slice g2 a1.length d2,.slice d6 a5.length d3] 30 (0,0)) zq2 hb);replace HB:=zqm (below_step zq3 hb);clear hb;have a3t:v5.cell? ⟨a4,0,none⟩=some (.slice g2 a1.length d2):=(blk_cell a0.out 0).trans rfl;have a3u:v5.cell? ⟨a4,1,none⟩=some (.slice d6 a5.length d3):=(blk_cell a0.out 1).trans rfl;have a3v:=blk_frozen a0.out 0;have a3w:=blk_frozen a0.out 1)|((with_reducible refine gate_callee (f:=20) rfl ?_);refine goesL_ (some 54) rfl rfl Try.func20 zqk rfl #[.agg #[.slice g2 a1.length d2,.slice d6 a5.length d3],.int .i64 a8,.int .i64 a9] rfl zq1 ?_;(with_reducible refine(impl_ProjectOf.calls _ _ a1 _ _ a5 a8 a9 b5 _ ?side1 ?side2 ?side3 ?side4 n8.out).mono ?_);(case side1=> exact zq5);(case side2=>exact(Kd.S_reads' a2.out).2.1);(case side3=> exact zq14);(case side4=>exact(Kd.Q_reads' a3.out).2.1);rintro e v6 ⟨rfl,hb⟩;refine⟨_,rfl,?_⟩;replace a2:=zqm (Kd.S_below zq6 hb);replace a3:=zqm (Kd.Q_below zq20 hb);replace a0:=zqm (blk_below (g:=a4) (o:= .cells #[.slice g2 a1.length d2,.slice d6 a5.length d3] 30 (0,0)) zq2 hb);replace HB:=zqm (below_step zq3 hb);clear hb;have a3x:v6.cell? ⟨a4,0,none⟩=some (.slice g2 a1.length d2):=(blk_cell a0.out 0).trans rfl;have a3y:v6.cell? ⟨a4,1,none⟩=some (.slice d6 a5.length d3):=(blk_cell a0.out 1).trans rfl;have a3z:=blk_frozen a0.out 0;have a4a:=blk_frozen a0.out 1)|((with_reducible refine gate_callee (f:=20) rfl ?_);refine goesL_ (some 58) rfl rfl Try.func20 zqk rfl #[.agg #[.slice g2 a1.length d2,.slice d6 a5.length d3],.int .i64 a8,.int .i64 a6] rfl zq1 ?_;(with_reducible refine(impl_ProjectOf.calls _ _ a1 _ _ a5 a8 a6 d1 _ ?side1 ?side2 ?side3 ?side4 l9.out).mono ?_);(case side1=> exact zq5);(case side2=>exact(Kd.S_reads' a2.out).2.1);(case side3=> exact zq14);(case side4=>exact(Kd.Q_reads' a3.out).2.1);rintro e w75 ⟨rfl,hb⟩;refine⟨_,rfl,?_⟩;replace a2:=zqm (Kd.S_below zq6 hb);replace a3:=zqm (Kd.Q_below zq20 hb);replace a0:=zqm (blk_below (g:=a4) (o:= .cells #[.slice g2 a1.length d2,.slice d6 a5.length d3] 30 (0,0)) zq2 hb);replace HB:=zqm (below_step zq3 hb);clear hb)))
                replace a2:=zqm (Kd.S_drew a2.out);replace a3:=zqm (Kd.Q_drew a3.out);replace a0:=zqm (blk_drew a0.out);replace HB:=zqm (below_drew1 HB.out);have e7:0≤(a7:Int):=zqo;have e8:a7<(a1.length:Int):=zqo;obtain⟨b8,l5,h4,k1,b9,d7,d8⟩:=at_L3 (Kd.S_reads' a2.out).2.2 a7 e7 e8
                cases k1
                obtain⟨m0,h5,h6,f2⟩:=Kd.S_get a2.out [] a7 e7 zq350;obtain⟨l1,rfl,c1⟩:=h6;have b6:=f2 0 _ rfl;rw [Nat.add_zero,show ((Kd.slice 3 (Kd.int .i64))).sz=1 from rfl,Nat.mul_one] at b6;replace b6:=Option.some.inj (b6.symm.trans b9);rw [b6] at c1;have b7:=zqm (show Kd.R (Kd.int .i64) 3 _ _ _ _ (rd_L3 a1 a7) from c1);clear b6 c1 f2 h5;have b0:=zqm d8;have l2:=zqm d7;clear d8 d7;replace e7:=eq_true e7;replace e8:=eq_true e8;have g0:0≤(a6:Int):=zqo;have g1:a6<((rd_L3 a1 a7).length:Int):=zqo;obtain⟨g7,k2,d9⟩:=Kd.at_int zq46 a6 g0 g1
                cases k2
                replace g0:=eq_true g0;replace g1:=eq_true g1;have h7:0≤(a8:Int):=zqo;have h8:a8<(a1.length:Int):=zqo;obtain⟨l6,k6,k7,m3,f4,h2,h3⟩:=at_L3 (Kd.S_reads' a2.out).2.2 a8 h7 h8;obtain rfl:b8=l6:=(by injection m3);obtain⟨p2,k8,k9,i5⟩:=Kd.S_get a2.out [] a8 h7 zq388;obtain⟨m7,rfl,f5⟩:=k9;have c5:=i5 0 _ rfl;rw [Nat.add_zero,show ((Kd.slice 3 (Kd.int .i64))).sz=1 from rfl,Nat.mul_one] at c5;replace c5:=Option.some.inj (c5.symm.trans f4);rw [c5] at f5;have b4:=zqm (show Kd.R (Kd.int .i64) 3 _ _ _ _ (rd_L3 a1 a8) from f5);clear c5 f5 i5 k8;have b2:=zqm h3;have m8:=zqm h2;clear h3 h2;replace h7:=eq_true h7;replace h8:=eq_true h8;have j2:0≤(a6:Int):=zqo;have j3:a6<((rd_L3 a1 a8).length:Int):=zqo;obtain⟨l7,m4,j9⟩:=Kd.at_int zq168 a6 j2 j3;refine start_ (n:=46) (S:=fun w'=>w'.cell? ⟨a4,0,none⟩=some (.slice (some b8) a1.length d2)∧w'.cell? ⟨a4,1,none⟩=some (.slice d6 a5.length d3)∧w'.cell? (b8.add (a7).toNat)=some (.slice (some g7) (rd_L3 a1 a7).length h4)∧w'.cell? (g7.add (a6).toNat)=some (.int .i64 (rd (rd_L3 a1 a7) a6))∧w'.cell? (b8.add (a8).toNat)=some (.slice k6 (rd_L3 a1 a8).length k7)∧w'.cell? (l7.add (a6).toNat)=some (.int .i64 (rd (rd_L3 a1 a8) a6))) (ds:= []) (zqb 46 0) zqk rfl rfl ⟨(blk_cell a0.out 0).trans rfl,(blk_cell a0.out 1).trans rfl,b9,d9,f4,j9⟩ (fun hHeld=>?_);refine with_tabW laws_FnBehindOf.tab13 laws_FnBehindOf.bits13 (fun HT_ HW_=>?_);generalize w75.drew=w76 at a2 a3 a0 HB b7 b4 b0 b2 b9 d9 f4 hHeld ⊢;refine pure_ (i:=0) (N:=some 59) (v:=?_) (a':=?_) (zqb 46 1) rfl rfl (any_of HT_.out zqk) (fun _ _ _ h=>h) (Or.inl ⟨by rfl,?_⟩) ?_ ?_;rotate_left
                ·exact zqt
                rotate_left
                ·exact zqs
                refine pure_ (i:=2) (N:=some 61) (v:=?_) (a':=?_) (zqb 46 5) rfl rfl (any_of HT_.out zqk) (fun _ _ _ h=>h) (Or.inl ⟨by rfl,?_⟩) ?_ ?_;rotate_left
                ·exact zqt
                rotate_left
                ·exact zqs
                refine pure_ (i:=5) (N:=some 64) (v:=?_) (a':=?_) (zqb 46 37) rfl rfl (any_of HT_.out zqk) (fun _ _ _ h=>h) (Or.inl ⟨by rfl,?_⟩) ?_ ?_;rotate_left
                ·exact zqt
                rotate_left
                ·exact zqs
                refine take_ (i:=1) (N:=some 60) (v:=?_) (a':=?_) (zqb 46 39) rfl rfl (take_ofW HT_.out HW_.out zqk) (fun _ _ _ h=>h) (Or.inl ⟨by rfl,?_⟩) hHeld ?_ ?_;rotate_left
                ·rintro w' ⟨s0,s1,s2,s3,s4,s5⟩;go_simp;with_reducible rfl
                rotate_left
                ·exact zqs
                refine pure_ (i:=3) (N:=some 62) (v:=?_) (a':=?_) (zqb 46 47) rfl rfl (any_of HT_.out zqk) (fun _ _ _ h=>h) (Or.inl ⟨by rfl,?_⟩) ?_ ?_;rotate_left
                ·exact zqt
                rotate_left
                ·exact zqs
                refine take_ (i:=4) (N:=some 63) (v:=?_) (a':=?_) (zqb 46 63) rfl rfl (take_ofW HT_.out HW_.out zqk) (fun _ _ _ h=>h) (Or.inl ⟨by rfl,?_⟩) hHeld ?_ ?_;rotate_left
                ·rintro w' ⟨s0,s1,s2,s3,s4,s5⟩;go_simp;with_reducible rfl
                rotate_left
                ·exact zqs
                refine pure_ (i:=6) (N:=some 65) (v:=?_) (a':=?_) (zqb 46 127) rfl rfl (any_of HT_.out zqk) (fun _ _ _ h=>h) (Or.inl ⟨by rfl,?_⟩) ?_ ?_;rotate_left
                ·exact zqt
                rotate_left
                ·exact zqs
                refine take_ (i:=7) (N:=some 66) (v:=?_) (a':=?_) (zqb 46 255) rfl rfl (take_ofW HT_.out HW_.out zqk) (fun _ _ _ h=>h) (Or.inl ⟨by rfl,?_⟩) hHeld ?_ ?_;rotate_left
                ·rintro w' ⟨s0,s1,s2,s3,s4,s5⟩;go_simp;with_reducible rfl
                rotate_left
                ·exact zqs
                refine pure_ (i:=8) (N:=some 67) (v:=?_) (a':=?_) (zqb 46 511) rfl rfl (any_of HT_.out zqk) (fun _ _ _ h=>h) (Or.inl ⟨by rfl,?_⟩) ?_ ?_;rotate_left
                ·exact zqt
                rotate_left
                ·exact zqs
                refine pure_ (i:=9) (N:=some 68) (v:=?_) (a':=?_) (zqb 46 1023) rfl rfl (any_of HT_.out zqk) (fun _ _ _ h=>h) (Or.inl ⟨by rfl,?_⟩) ?_ ?_;rotate_left
                ·exact zqt
                rotate_left
                ·exact zqs
                refine pure_ (i:=11) (N:=some 70) (v:=?_) (a':=?_) (zqb 46 3071) rfl rfl (any_of HT_.out zqk) (fun _ _ _ h=>h) (Or.inl ⟨by rfl,?_⟩) ?_ ?_;rotate_left
                ·exact zqt
                rotate_left
                ·exact zqs
                refine pure_ (i:=12) (N:=some 71) (v:=?_) (a':=?_) (zqb 46 7167) rfl rfl (any_of HT_.out zqk) (fun _ _ _ h=>h) (Or.inl ⟨by rfl,?_⟩) ?_ ?_;rotate_left
                ·exact zqt
                rotate_left
                ·exact zqs
                refine pure_ (i:=15) (N:=some 74) (v:=?_) (a':=?_) (zqb 46 39935) rfl rfl (any_of HT_.out zqk) (fun _ _ _ h=>h) (Or.inl ⟨by rfl,?_⟩) ?_ ?_;rotate_left
                ·exact zqt
                rotate_left
                ·exact zqs
                refine pure_ (i:=16) (N:=some 75) (v:=?_) (a':=?_) (zqb 46 105471) rfl rfl (any_of HT_.out zqk) (fun _ _ _ h=>h) (Or.inl ⟨by rfl,?_⟩) ?_ ?_;rotate_left
                ·exact zqt
                rotate_left
                ·exact zqs
                refine take_ (i:=10) (N:=some 69) (v:=?_) (a':=?_) (zqb 46 106495) rfl rfl (take_ofW HT_.out HW_.out zqk) (fun _ _ _ h=>h) (Or.inl ⟨by rfl,?_⟩) hHeld ?_ ?_;rotate_left
                ·rintro w' ⟨s0,s1,s2,s3,s4,s5⟩;go_simp;with_reducible rfl
                rotate_left
                ·exact zqs
                refine take_ (i:=14) (N:=some 73) (v:=?_) (a':=?_) (zqb 46 122879) rfl rfl (take_ofW HT_.out HW_.out zqk) (fun _ _ _ h=>h) (Or.inl ⟨by rfl,?_⟩) hHeld ?_ ?_;rotate_left
                ·rintro w' ⟨s0,s1,s2,s3,s4,s5⟩;go_simp;with_reducible rfl
                rotate_left
                ·exact zqs
                refine one_ (i:=13) (N:=some 72) (zqb 46 131071) rfl rfl (one_of HT_.out zqk) (by decide) (fun K hK=>?_);refine goes_ Try.func28 zqk rfl #[.agg #[.slice (some b8) a1.length d2,.slice d6 a5.length d3],.int .i64 b5,.int .i64 a6] (by rfl) rfl rfl zq1 ?_;(with_reducible refine(impl_ApartOk.calls _ _ a1 _ _ a5 b5 a6 d0 _ ?side1 ?side2 ?side3 ?side4 o7.out).mono ?_);(case side1=> exact zq5);(case side2=>exact(Kd.S_reads' a2.out).2.1);(case side3=> exact zq14);(case side4=>exact(Kd.Q_reads' a3.out).2.1);rintro e w77 ⟨rfl,hb⟩;have h0:=(hb.cell (World.block_lt_of_cell? _ _ (hHeld.2.2.1))).trans (hHeld.2.2.1);have h1:=(hb.cell (World.block_lt_of_cell? _ _ (hHeld.2.2.2.1))).trans (hHeld.2.2.2.1);have i1:=(hb.cell (World.block_lt_of_cell? _ _ (hHeld.2.2.2.2.1))).trans (hHeld.2.2.2.2.1);have i2:=(hb.cell (World.block_lt_of_cell? _ _ (hHeld.2.2.2.2.2))).trans (hHeld.2.2.2.2.2);refine⟨_,rfl,?_⟩
                first|(replace b4:=zqm (Kd.R_below b4.out hb))|(replace b4:=zqm (Kd.R_below (Kd.R_drewN b4.out _) hb))
                first|(replace b2:=zqm (Kd.C_below b2.out hb))|(replace b2:=zqm (Kd.C_below (Kd.C_drewN b2.out _) hb))
                replace a2:=zqm (Kd.S_below zq6 hb);replace a3:=zqm (Kd.Q_below zq20 hb);replace b7:=zqm (Kd.R_below zq140 hb);replace a0:=zqm (blk_below (g:=a4) (o:= .cells #[.slice (some b8) a1.length d2,.slice d6 a5.length d3] 30 (0,0)) zq2 hb);replace b0:=zqm (Kd.C_below zq46 hb);replace HB:=zqm (below_step zq3 hb);refine hK.out _ _ ⟨(blk_cell a0.out 0).trans rfl,(blk_cell a0.out 1).trans rfl,h0,h1,i1,i2⟩ (fun hHeld=>?_);clear hK K;refine norm_ (a':=?_) ?_ ?_;rotate_left
                ·show Act.put _ (some 72) _=_;exact zqs
                refine one_ (i:=17) (N:=some 76) (zqb 46 262143) rfl rfl (one_of HT_.out zqk) (by decide) (fun K hK=>?_);refine goes_ Try.func28 zqk rfl #[.agg #[.slice (some b8) a1.length d2,.slice d6 a5.length d3],.int .i64 d1,.int .i64 a9] (by rfl) rfl rfl zq1 ?_;(with_reducible refine(impl_ApartOk.calls _ _ a1 _ _ a5 d1 a9 c4 _ ?side1 ?side2 ?side3 ?side4 o8.out).mono ?_);(case side1=> exact zq5);(case side2=>exact(Kd.S_reads' a2.out).2.1);(case side3=> exact zq14);(case side4=>exact(Kd.Q_reads' a3.out).2.1);rintro e w78 ⟨rfl,hb⟩;have h0:=(hb.cell (World.block_lt_of_cell? _ _ (hHeld.2.2.1))).trans (hHeld.2.2.1);have h1:=(hb.cell (World.block_lt_of_cell? _ _ (hHeld.2.2.2.1))).trans (hHeld.2.2.2.1);have i1:=(hb.cell (World.block_lt_of_cell? _ _ (hHeld.2.2.2.2.1))).trans (hHeld.2.2.2.2.1);have i2:=(hb.cell (World.block_lt_of_cell? _ _ (hHeld.2.2.2.2.2))).trans (hHeld.2.2.2.2.2);refine⟨_,rfl,?_⟩
                first|(replace b4:=zqm (Kd.R_below b4.out hb))|(replace b4:=zqm (Kd.R_below (Kd.R_drewN b4.out _) hb))
                first|(replace b2:=zqm (Kd.C_below b2.out hb))|(replace b2:=zqm (Kd.C_below (Kd.C_drewN b2.out _) hb))
                replace a2:=zqm (Kd.S_below zq6 hb);replace a3:=zqm (Kd.Q_below zq20 hb);replace b7:=zqm (Kd.R_below zq140 hb);replace a0:=zqm (blk_below (g:=a4) (o:= .cells #[.slice (some b8) a1.length d2,.slice d6 a5.length d3] 30 (0,0)) zq2 hb);replace b0:=zqm (Kd.C_below zq46 hb);replace HB:=zqm (below_step zq3 hb);
                cases m4
                replace j2:=eq_true j2;replace j3:=eq_true j3;refine hK.out _ _ ⟨(blk_cell a0.out 0).trans rfl,(blk_cell a0.out 1).trans rfl,h0,h1,i1,i2⟩ (fun hHeld=>?_);clear hK K;refine norm_ (a':=?_) ?_ ?_;rotate_left
                ·show Act.put _ (some 76) _=_;exact zqs
                refine pure_ (i:=18) (N:=some 77) (v:=?_) (a':=?_) (zqb 46 524287) rfl rfl (any_of HT_.out zqk) (fun _ _ _ h=>h) (Or.inl ⟨by rfl,?_⟩) ?_ ?_;rotate_left
                ·exact zqt
                rotate_left
                ·exact zqs
                refine pure_ (i:=19) (N:=some 78) (v:=?_) (a':=?_) (zqb 46 1048575) rfl rfl (any_of HT_.out zqk) (fun _ _ _ h=>h) (Or.inl ⟨by rfl,?_⟩) ?_ ?_;rotate_left
                ·exact zqt
                rotate_left
                ·exact zqs
                refine pure_ (i:=20) (N:=some 79) (v:=?_) (a':=?_) (zqb 46 2097151) rfl rfl (any_of HT_.out zqk) (fun _ _ _ h=>h) (Or.inl ⟨by rfl,?_⟩) ?_ ?_;rotate_left
                ·exact zqt
                rotate_left
                ·exact zqs
                refine pure_ (i:=21) (N:=some 80) (v:=?_) (a':=?_) (zqb 46 4194303) rfl rfl (any_of HT_.out zqk) (fun _ _ _ h=>h) (Or.inl ⟨by rfl,?_⟩) ?_ ?_;rotate_left
                ·exact zqt
                rotate_left
                ·exact zqs
                refine pure_ (i:=23) (N:=some 82) (v:=?_) (a':=?_) (zqb 46 12582911) rfl rfl (any_of HT_.out zqk) (fun _ _ _ h=>h) (Or.inl ⟨by rfl,?_⟩) ?_ ?_;rotate_left
                ·exact zqt
                rotate_left
                ·exact zqs
                refine pure_ (i:=26) (N:=some 85) (v:=?_) (a':=?_) (zqb 46 79691775) rfl rfl (any_of HT_.out zqk) (fun _ _ _ h=>h) (Or.inl ⟨by rfl,?_⟩) ?_ ?_;rotate_left
                ·exact zqt
                rotate_left
                ·exact zqs
                refine take_ (i:=22) (N:=some 81) (v:=?_) (a':=?_) (zqb 46 83886079) rfl rfl (take_ofW HT_.out HW_.out zqk) (fun _ _ _ h=>h) (Or.inl ⟨by rfl,?_⟩) hHeld ?_ ?_;rotate_left
                ·rintro w' ⟨s0,s1,s2,s3,s4,s5⟩;go_simp;with_reducible rfl
                rotate_left
                ·exact zqs
                refine pure_ (i:=24) (N:=some 83) (v:=?_) (a':=?_) (zqb 46 100663295) rfl rfl (any_of HT_.out zqk) (fun _ _ _ h=>h) (Or.inl ⟨by rfl,?_⟩) ?_ ?_;rotate_left
                ·exact zqt
                rotate_left
                ·exact zqs
                refine take_ (i:=25) (N:=some 84) (v:=?_) (a':=?_) (zqb 46 134217727) rfl rfl (take_ofW HT_.out HW_.out zqk) (fun _ _ _ h=>h) (Or.inl ⟨by rfl,?_⟩) hHeld ?_ ?_;rotate_left
                ·rintro w' ⟨s0,s1,s2,s3,s4,s5⟩;go_simp;with_reducible rfl
                rotate_left
                ·exact zqs
                refine pure_ (i:=27) (N:=some 86) (v:=?_) (a':=?_) (zqb 46 268435455) rfl rfl (any_of HT_.out zqk) (fun _ _ _ h=>h) (Or.inl ⟨by rfl,?_⟩) ?_ ?_;rotate_left
                ·exact zqt
                rotate_left
                ·exact zqs
                refine take_ (i:=28) (N:=some 87) (v:=?_) (a':=?_) (zqb 46 536870911) rfl rfl (take_ofW HT_.out HW_.out zqk) (fun _ _ _ h=>h) (Or.inl ⟨by rfl,?_⟩) hHeld ?_ ?_;rotate_left
                ·rintro w' ⟨s0,s1,s2,s3,s4,s5⟩;go_simp;with_reducible rfl
                rotate_left
                ·exact zqs
                refine pure_ (i:=29) (N:=some 88) (v:=?_) (a':=?_) (zqb 46 1073741823) rfl rfl (any_of HT_.out zqk) (fun _ _ _ h=>h) (Or.inl ⟨by rfl,?_⟩) ?_ ?_;rotate_left
                ·exact zqt
                rotate_left
                ·exact zqs
                refine pure_ (i:=30) (N:=some 89) (v:=?_) (a':=?_) (zqb 46 2147483647) rfl rfl (any_of HT_.out zqk) (fun _ _ _ h=>h) (Or.inl ⟨by rfl,?_⟩) ?_ ?_;rotate_left
                ·exact zqt
                rotate_left
                ·exact zqs
                refine pure_ (i:=31) (N:=some 90) (v:=?_) (a':=?_) (zqb 46 4294967295) rfl rfl (any_of HT_.out zqk) (fun _ _ _ h=>h) (Or.inl ⟨by rfl,?_⟩) ?_ ?_;rotate_left
                ·exact zqt
                rotate_left
                ·exact zqs
                refine pure_ (i:=32) (N:=some 91) (v:=?_) (a':=?_) (zqb 46 8589934591) rfl rfl (any_of HT_.out zqk) (fun _ _ _ h=>h) (Or.inl ⟨by rfl,?_⟩) ?_ ?_;rotate_left
                ·exact zqt
                rotate_left
                ·exact zqs
                refine pure_ (i:=33) (N:=some 92) (v:=?_) (a':=?_) (zqb 46 17179869183) rfl rfl (any_of HT_.out zqk) (fun _ _ _ h=>h) (Or.inl ⟨by rfl,?_⟩) ?_ ?_;rotate_left
                ·exact zqt
                rotate_left
                ·exact zqs
                refine pure_ (i:=34) (N:=some 93) (v:=?_) (a':=?_) (zqb 46 34359738367) rfl rfl (any_of HT_.out zqk) (fun _ _ _ h=>h) (Or.inl ⟨by rfl,?_⟩) ?_ ?_;rotate_left
                ·exact zqt
                rotate_left
                ·exact zqs
                refine pure_ (i:=36) (N:=some 95) (v:=?_) (a':=?_) (zqb 46 103079215103) rfl rfl (any_of HT_.out zqk) (fun _ _ _ h=>h) (Or.inl ⟨by rfl,?_⟩) ?_ ?_;rotate_left
                ·exact zqt
                rotate_left
                ·exact zqs
                refine pure_ (i:=37) (N:=some 96) (v:=?_) (a':=?_) (zqb 46 240518168575) rfl rfl (any_of HT_.out zqk) (fun _ _ _ h=>h) (Or.inl ⟨by rfl,?_⟩) ?_ ?_;rotate_left
                ·exact zqt
                rotate_left
                ·exact zqs
                refine pure_ (i:=38) (N:=some 97) (v:=?_) (a':=?_) (zqb 46 515396075519) rfl rfl (any_of HT_.out zqk) (fun _ _ _ h=>h) (Or.inl ⟨by rfl,?_⟩) ?_ ?_;rotate_left
                ·exact zqt
                rotate_left
                ·exact zqs
                refine pure_ (i:=40) (N:=some 99) (v:=?_) (a':=?_) (zqb 46 1614907703295) rfl rfl (any_of HT_.out zqk) (fun _ _ _ h=>h) (Or.inl ⟨by rfl,?_⟩) ?_ ?_;rotate_left
                ·exact zqt
                rotate_left
                ·exact zqs
                refine take_ (i:=35) (N:=some 94) (v:=?_) (a':=?_) (zqb 46 1649267441663) rfl rfl (take_ofW HT_.out HW_.out zqk) (fun _ _ _ h=>h) (Or.inl ⟨by rfl,?_⟩) hHeld ?_ ?_;rotate_left
                ·rintro w' ⟨s0,s1,s2,s3,s4,s5⟩;go_simp;with_reducible rfl
                rotate_left
                ·exact zqs
                refine one_ (i:=39) (N:=some 98) (zqb 46 2199023255551) rfl rfl (one_of HT_.out zqk) (by decide) (fun K hK=>?_);refine goes_ Try.func26 zqk rfl #[.agg #[.slice (some b8) a1.length d2,.slice d6 a5.length d3],.int .i64 a6,.int .i64 a8,.int .i64 a9] (by rfl) rfl rfl zq1 ?_;(with_reducible refine(impl_BehindOf.calls _ _ a1 _ _ a5 a6 a8 a9 f1 _ ?side1 ?side2 ?side3 ?side4 A61.out).mono ?_);(case side1=> exact zq5);(case side2=>exact(Kd.S_reads' a2.out).2.1);(case side3=> exact zq14);(case side4=>exact(Kd.Q_reads' a3.out).2.1);rintro e w79 ⟨rfl,hb⟩;have h0:=(hb.cell (World.block_lt_of_cell? _ _ (hHeld.2.2.1))).trans (hHeld.2.2.1);have h1:=(hb.cell (World.block_lt_of_cell? _ _ (hHeld.2.2.2.1))).trans (hHeld.2.2.2.1);have i1:=(hb.cell (World.block_lt_of_cell? _ _ (hHeld.2.2.2.2.1))).trans (hHeld.2.2.2.2.1);have i2:=(hb.cell (World.block_lt_of_cell? _ _ (hHeld.2.2.2.2.2))).trans (hHeld.2.2.2.2.2);refine⟨_,rfl,?_⟩;replace a2:=zqm (Kd.S_below zq6 hb);replace a3:=zqm (Kd.Q_below zq20 hb);replace b7:=zqm (Kd.R_below zq140 hb);replace b4:=zqm (Kd.R_below zq172 hb);replace a0:=zqm (blk_below (g:=a4) (o:= .cells #[.slice (some b8) a1.length d2,.slice d6 a5.length d3] 30 (0,0)) zq2 hb);replace b0:=zqm (Kd.C_below zq46 hb);replace b2:=zqm (Kd.C_below zq168 hb);replace HB:=zqm (below_step zq3 hb);clear hb;refine hK.out _ _ ⟨(blk_cell a0.out 0).trans rfl,(blk_cell a0.out 1).trans rfl,h0,h1,i1,i2⟩ (fun hHeld=>?_);clear hK K;refine norm_ (a':=?_) ?_ ?_;rotate_left
                ·show Act.put _ (some 98) _=_;exact zqs
                refine pure_ (i:=41) (N:=some 100) (v:=?_) (a':=?_) (zqb 46 4398046511103) rfl rfl (any_of HT_.out zqk) (fun _ _ _ h=>h) (Or.inl ⟨by rfl,?_⟩) ?_ ?_;rotate_left
                ·exact zqt
                rotate_left
                ·exact zqs
                refine pure_ (i:=42) (N:=some 101) (v:=?_) (a':=?_) (zqb 46 8796093022207) rfl rfl (any_of HT_.out zqk) (fun _ _ _ h=>h) (Or.inl ⟨by rfl,?_⟩) ?_ ?_;rotate_left
                ·exact zqt
                rotate_left
                ·exact zqs
                refine pure_ (i:=43) (N:=some 102) (v:=?_) (a':=?_) (zqb 46 17592186044415) rfl rfl (any_of HT_.out zqk) (fun _ _ _ h=>h) (Or.inl ⟨by rfl,?_⟩) ?_ ?_;rotate_left
                ·exact zqt
                rotate_left
                ·exact zqs
                refine pure_ (i:=44) (N:=some 103) (v:=?_) (a':=?_) (zqb 46 35184372088831) rfl rfl (any_of HT_.out zqk) (fun _ _ _ h=>h) (Or.inl ⟨by rfl,?_⟩) ?_ ?_;rotate_left
                ·exact zqt
                rotate_left
                ·exact zqs
                refine pure_ (i:=45) (N:=some 2) (v:=?_) (a':=?_) (zqb 46 70368744177663) rfl rfl (any_of HT_.out zqk) (fun _ _ _ h=>h) (Or.inl ⟨by rfl,?_⟩) ?_ ?_;rotate_left
                ·exact zqt
                rotate_left
                ·exact zqs
                refine done_ (done_of HT_.out zqk) ?_;try go_wp2
                go_ret
                exact⟨zq11,zq3⟩
               ·rw [if_neg m5] at H;have t0:(a7==b5)=false:=beq_eq_false_iff_ne.mpr m5;have t1:(a7 !=b5)=true:=bne_iff_ne.mpr m5;obtain rfl:=Option.some.inj H
                go_enter Try.func5,Try.ntmps5
                (try go_wp2_with (first|((with_reducible refine gate_callee (f:=25) rfl ?_);refine goesL_ (some 15) rfl rfl Try.func25 zqk rfl #[.slice A0 l0.length c0] rfl zq1 ?_;(with_reducible refine(spec_DrawBehindOf.calls k _ _ l0 a1 a5 a8 a6 a9 _ ?side1 ?side2 A3.out).mono ?_);(case side1=> exact zq99);(case side2=>exact l4.out);rintro e w80 ⟨k3,k4,rfl,f6,f7,hb⟩;refine⟨_,rfl,?_⟩;have a2:=zqm (Kd.S_lower f6 (below_size zq0));have a3:=zqm (Kd.Q_lower f7 (below_size zq0));replace HB:=zqm (below_step zq0 hb);clear hb f6 f7)|((with_reducible refine gate_dst (N:=3) rfl ?_);refine box_event ?hg (N:=3) ?hd (cs:= #[.slice none 0 0,.slice none 0 0]) (t:=30) ?hr ?_;(case hd=>rfl);(case hg=>rfl);(case hr=>first|(go_simp;done)|(go_simp;rfl));intro a4 hg v7 hbox hb;replace a2:=zqm (Kd.S_below zq6 hb);replace a3:=zqm (Kd.Q_below zq20 hb);have f8:=zqm (below_step zq0 hb);have a0:=zqm (hbox);have j4:=zqm ((by rw [hg];exact(below_size zq0):w.heap.size≤a4));have b1:=zqm ((by rw [hg];exact(below_size zq0):w.heap.size≤a4));clear HB;have HB:=f8;clear f8 hb hbox hg;obtain⟨g3,e3,x8⟩:=Kd.S_slice a2.out;subst x8;have a4b:v7.cell? ⟨a4,0,none⟩=some (.slice none 0 0):=(blk_cell a0.out 0).trans rfl;have a4c:v7.cell? ⟨a4,1,none⟩=some (.slice none 0 0):=(blk_cell a0.out 1).trans rfl;have a4d:=blk_frozen a0.out 0;have a4e:=blk_frozen a0.out 1;obtain⟨e9,e4,x9,_⟩:=Kd.Q_slice a3.out;subst x9)|((with_reducible refine gate_callee (f:=26) rfl ?_);refine goesL_ (some 24) rfl rfl Try.func26 zqk rfl #[.agg #[.slice g3 a1.length e3,.slice e9 a5.length e4],.int .i64 a8,.int .i64 a6,.int .i64 a9] rfl zq1 ?_;(with_reducible refine(impl_BehindOf.calls _ _ a1 _ _ a5 a8 a6 a9 a7 _ ?side1 ?side2 ?side3 ?side4 A4.out).mono ?_);(case side1=>refine(Kd.S_reads' (e:=28) (base:=w.heap.size) (ok:=fun k_=>some k_≠(.slice e9 a5.length e4:Value).ownBlock) (n:=a1.length) (c:=e3) ?_).2.2;exact zq239);(case side2=>exact(Kd.S_reads' a2.out).2.1);(case side3=>refine(Kd.Q_reads' (e:=3) (base:=w.heap.size) (ok:=fun k_=>True) (n:=a5.length) (c:=e4) ?_).2.2;exact zq228);(case side4=>exact(Kd.Q_reads' a3.out).2.1);rintro e v8 ⟨rfl,hb⟩;refine⟨_,rfl,?_⟩;replace a2:=zqm (Kd.S_below zq239 hb);replace a3:=zqm (Kd.Q_below zq228 hb);replace a0:=zqm (blk_below (g:=a4) (o:= .cells #[.slice g3 a1.length e3,.slice e9 a5.length e4] 30 (0,0)) (by(with_reducible repeat(first|refine blk_drewN ?_ _|refine blk_drew ?_|refine blk_alloc ?_ _));refine blk_put (cs:= #[.slice g3 a1.length e3,.slice none 0 0]) ?_ 1 _ rfl;(with_reducible repeat(first|refine blk_drewN ?_ _|refine blk_drew ?_|refine blk_alloc ?_ _));refine blk_put (cs:= #[.slice none 0 0,.slice none 0 0]) ?_ 0 _ rfl;(with_reducible repeat(first|refine blk_drewN ?_ _|refine blk_drew ?_|refine blk_alloc ?_ _));exact a0.out) hb);replace HB:=zqm (below_step zq3 hb);clear hb;have a4f:v8.cell? ⟨a4,0,none⟩=some (.slice g3 a1.length e3):=(blk_cell a0.out 0).trans rfl;have a4g:v8.cell? ⟨a4,1,none⟩=some (.slice e9 a5.length e4):=(blk_cell a0.out 1).trans rfl;have a4h:=blk_frozen a0.out 0;have a4i:=blk_frozen a0.out 1)|((with_reducible refine gate_callee (f:=27) rfl ?_);refine goesL_ (some 30) rfl rfl Try.func27 zqk rfl #[.agg #[.slice g3 a1.length e3,.slice e9 a5.length e4],.int .i64 a8,.int .i64 a6,.int .i64 a9] rfl zq1 ?_;(with_reducible refine(spec_BehindOf.calls k _ _ a1 _ _ a5 a8 a6 a9 f3 _ ?side1 ?side2 ?side3 ?side4 A5.out).mono ?_);(case side1=> exact zq5);(case side2=>exact(Kd.S_reads' a2.out).2.1);(case side3=> exact zq14);(case side4=>exact(Kd.Q_reads' a3.out).2.1);rintro e v9 ⟨rfl,hb⟩;refine⟨_,rfl,?_⟩;replace a2:=zqm (Kd.S_below zq6 hb);replace a3:=zqm (Kd.Q_below zq20 hb);replace a0:=zqm (blk_below (g:=a4) (o:= .cells #[.slice g3 a1.length e3,.slice e9 a5.length e4] 30 (0,0)) zq2 hb);replace HB:=zqm (below_step zq3 hb);clear hb;have a4j:v9.cell? ⟨a4,0,none⟩=some (.slice g3 a1.length e3):=(blk_cell a0.out 0).trans rfl;have a4k:v9.cell? ⟨a4,1,none⟩=some (.slice e9 a5.length e4):=(blk_cell a0.out 1).trans rfl;have a4l:=blk_frozen a0.out 0;have a4m:=blk_frozen a0.out 1)|((with_reducible refine gate_callee (f:=22) rfl ?_);refine goesL_ (some 40) rfl rfl Try.func22 zqk rfl #[.agg #[.slice g3 a1.length e3,.slice e9 a5.length e4]] rfl zq1 ?_;(with_reducible refine(spec_KeepsOk.calls k _ _ a1 _ _ a5 true _ ?side1 ?side2 ?side3 ?side4 m6.out).mono ?_);(case side1=> exact zq5);(case side2=>exact(Kd.S_reads' a2.out).2.1);(case side3=> exact zq14);(case side4=>exact(Kd.Q_reads' a3.out).2.1);rintro e w0 ⟨rfl,hb⟩;refine⟨_,rfl,?_⟩;replace a2:=zqm (Kd.S_below zq6 hb);replace a3:=zqm (Kd.Q_below zq20 hb);replace a0:=zqm (blk_below (g:=a4) (o:= .cells #[.slice g3 a1.length e3,.slice e9 a5.length e4] 30 (0,0)) zq2 hb);replace HB:=zqm (below_step zq3 hb);clear hb;have a4n:w0.cell? ⟨a4,0,none⟩=some (.slice g3 a1.length e3):=(blk_cell a0.out 0).trans rfl;have a4o:w0.cell? ⟨a4,1,none⟩=some (.slice e9 a5.length e4):=(blk_cell a0.out 1).trans rfl;have a4p:=blk_frozen a0.out 0;have a4q:=blk_frozen a0.out 1)|((with_reducible refine gate_callee (f:=20) rfl ?_);refine goesL_ (some 54) rfl rfl Try.func20 zqk rfl #[.agg #[.slice g3 a1.length e3,.slice e9 a5.length e4],.int .i64 a8,.int .i64 a9] rfl zq1 ?_;(with_reducible refine(impl_ProjectOf.calls _ _ a1 _ _ a5 a8 a9 b5 _ ?side1 ?side2 ?side3 ?side4 n8.out).mono ?_);(case side1=> exact zq5);(case side2=>exact(Kd.S_reads' a2.out).2.1);(case side3=> exact zq14);(case side4=>exact(Kd.Q_reads' a3.out).2.1);rintro e w1 ⟨rfl,hb⟩;refine⟨_,rfl,?_⟩;replace a2:=zqm (Kd.S_below zq6 hb);replace a3:=zqm (Kd.Q_below zq20 hb);replace a0:=zqm (blk_below (g:=a4) (o:= .cells #[.slice g3 a1.length e3,.slice e9 a5.length e4] 30 (0,0)) zq2 hb);replace HB:=zqm (below_step zq3 hb);clear hb;have a4r:w1.cell? ⟨a4,0,none⟩=some (.slice g3 a1.length e3):=(blk_cell a0.out 0).trans rfl;have a4s:w1.cell? ⟨a4,1,none⟩=some (.slice e9 a5.length e4):=(blk_cell a0.out 1).trans rfl;have a4t:=blk_frozen a0.out 0;have a4u:=blk_frozen a0.out 1)|((with_reducible refine gate_callee (f:=20) rfl ?_);refine goesL_ (some 58) rfl rfl Try.func20 zqk rfl #[.agg #[.slice g3 a1.length e3,.slice e9 a5.length e4],.int .i64 a8,.int .i64 a6] rfl zq1 ?_;(with_reducible refine(impl_ProjectOf.calls _ _ a1 _ _ a5 a8 a6 d1 _ ?side1 ?side2 ?side3 ?side4 l9.out).mono ?_);(case side1=> exact zq5);(case side2=>exact(Kd.S_reads' a2.out).2.1);(case side3=> exact zq14);(case side4=>exact(Kd.Q_reads' a3.out).2.1);rintro e w93 ⟨rfl,hb⟩;refine⟨_,rfl,?_⟩;replace a2:=zqm (Kd.S_below zq6 hb);replace a3:=zqm (Kd.Q_below zq20 hb);replace a0:=zqm (blk_below (g:=a4) (o:= .cells #[.slice g3 a1.length e3,.slice e9 a5.length e4] 30 (0,0)) zq2 hb);replace HB:=zqm (below_step zq3 hb);clear hb)))
                replace a2:=zqm (Kd.S_drew a2.out);replace a3:=zqm (Kd.Q_drew a3.out);replace a0:=zqm (blk_drew a0.out);replace HB:=zqm (below_drew1 HB.out);have e7:0≤(a7:Int):=zqo;have e8:a7<(a1.length:Int):=zqo;obtain⟨b8,l5,h4,k1,b9,d7,d8⟩:=at_L3 (Kd.S_reads' a2.out).2.2 a7 e7 e8
                cases k1
                obtain⟨m0,h5,h6,f2⟩:=Kd.S_get a2.out [] a7 e7 zq350;obtain⟨l1,rfl,c1⟩:=h6;have b6:=f2 0 _ rfl;rw [Nat.add_zero,show ((Kd.slice 3 (Kd.int .i64))).sz=1 from rfl,Nat.mul_one] at b6;replace b6:=Option.some.inj (b6.symm.trans b9);rw [b6] at c1;have b7:=zqm (show Kd.R (Kd.int .i64) 3 _ _ _ _ (rd_L3 a1 a7) from c1);clear b6 c1 f2 h5;have b0:=zqm d8;have l2:=zqm d7;clear d8 d7;replace e7:=eq_true e7;replace e8:=eq_true e8;have g0:0≤(a6:Int):=zqo;have g1:a6<((rd_L3 a1 a7).length:Int):=zqo;obtain⟨g7,k2,d9⟩:=Kd.at_int zq46 a6 g0 g1
                cases k2
                replace g0:=eq_true g0;replace g1:=eq_true g1;have h7:0≤(a8:Int):=zqo;have h8:a8<(a1.length:Int):=zqo;obtain⟨l6,k6,k7,m3,f4,h2,h3⟩:=at_L3 (Kd.S_reads' a2.out).2.2 a8 h7 h8;obtain rfl:b8=l6:=(by injection m3);obtain⟨p2,k8,k9,i5⟩:=Kd.S_get a2.out [] a8 h7 zq388;obtain⟨m7,rfl,f5⟩:=k9;have c5:=i5 0 _ rfl;rw [Nat.add_zero,show ((Kd.slice 3 (Kd.int .i64))).sz=1 from rfl,Nat.mul_one] at c5;replace c5:=Option.some.inj (c5.symm.trans f4);rw [c5] at f5;have b4:=zqm (show Kd.R (Kd.int .i64) 3 _ _ _ _ (rd_L3 a1 a8) from f5);clear c5 f5 i5 k8;have b2:=zqm h3;have m8:=zqm h2;clear h3 h2;replace h7:=eq_true h7;replace h8:=eq_true h8;have j2:0≤(a6:Int):=zqo;have j3:a6<((rd_L3 a1 a8).length:Int):=zqo;obtain⟨l7,m4,j9⟩:=Kd.at_int zq168 a6 j2 j3;refine start_ (n:=46) (S:=fun w'=>w'.cell? ⟨a4,0,none⟩=some (.slice (some b8) a1.length e3)∧w'.cell? ⟨a4,1,none⟩=some (.slice e9 a5.length e4)∧w'.cell? (b8.add (a7).toNat)=some (.slice (some g7) (rd_L3 a1 a7).length h4)∧w'.cell? (g7.add (a6).toNat)=some (.int .i64 (rd (rd_L3 a1 a7) a6))∧w'.cell? (b8.add (a8).toNat)=some (.slice k6 (rd_L3 a1 a8).length k7)∧w'.cell? (l7.add (a6).toNat)=some (.int .i64 (rd (rd_L3 a1 a8) a6))) (ds:= []) (zqb 46 0) zqk rfl rfl ⟨(blk_cell a0.out 0).trans rfl,(blk_cell a0.out 1).trans rfl,b9,d9,f4,j9⟩ (fun hHeld=>?_);refine with_tabW laws_FnBehindOf.tab13 laws_FnBehindOf.bits13 (fun HT_ HW_=>?_);generalize w93.drew=w94 at a2 a3 a0 HB b7 b4 b0 b2 b9 d9 f4 hHeld ⊢;refine pure_ (i:=0) (N:=some 59) (v:=?_) (a':=?_) (zqb 46 1) rfl rfl (any_of HT_.out zqk) (fun _ _ _ h=>h) (Or.inl ⟨by rfl,?_⟩) ?_ ?_;rotate_left
                ·exact zqt
                rotate_left
                ·exact zqs
                refine pure_ (i:=2) (N:=some 61) (v:=?_) (a':=?_) (zqb 46 5) rfl rfl (any_of HT_.out zqk) (fun _ _ _ h=>h) (Or.inl ⟨by rfl,?_⟩) ?_ ?_;rotate_left
                ·exact zqt
                rotate_left
                ·exact zqs
                refine pure_ (i:=5) (N:=some 64) (v:=?_) (a':=?_) (zqb 46 37) rfl rfl (any_of HT_.out zqk) (fun _ _ _ h=>h) (Or.inl ⟨by rfl,?_⟩) ?_ ?_;rotate_left
                ·exact zqt
                rotate_left
                ·exact zqs
                refine take_ (i:=1) (N:=some 60) (v:=?_) (a':=?_) (zqb 46 39) rfl rfl (take_ofW HT_.out HW_.out zqk) (fun _ _ _ h=>h) (Or.inl ⟨by rfl,?_⟩) hHeld ?_ ?_;rotate_left
                ·rintro w' ⟨s0,s1,s2,s3,s4,s5⟩;go_simp;with_reducible rfl
                rotate_left
                ·exact zqs
                refine pure_ (i:=3) (N:=some 62) (v:=?_) (a':=?_) (zqb 46 47) rfl rfl (any_of HT_.out zqk) (fun _ _ _ h=>h) (Or.inl ⟨by rfl,?_⟩) ?_ ?_;rotate_left
                ·exact zqt
                rotate_left
                ·exact zqs
                refine take_ (i:=4) (N:=some 63) (v:=?_) (a':=?_) (zqb 46 63) rfl rfl (take_ofW HT_.out HW_.out zqk) (fun _ _ _ h=>h) (Or.inl ⟨by rfl,?_⟩) hHeld ?_ ?_;rotate_left
                ·rintro w' ⟨s0,s1,s2,s3,s4,s5⟩;go_simp;with_reducible rfl
                rotate_left
                ·exact zqs
                refine pure_ (i:=6) (N:=some 65) (v:=?_) (a':=?_) (zqb 46 127) rfl rfl (any_of HT_.out zqk) (fun _ _ _ h=>h) (Or.inl ⟨by rfl,?_⟩) ?_ ?_;rotate_left
                ·exact zqt
                rotate_left
                ·exact zqs
                refine take_ (i:=7) (N:=some 66) (v:=?_) (a':=?_) (zqb 46 255) rfl rfl (take_ofW HT_.out HW_.out zqk) (fun _ _ _ h=>h) (Or.inl ⟨by rfl,?_⟩) hHeld ?_ ?_;rotate_left
                ·rintro w' ⟨s0,s1,s2,s3,s4,s5⟩;go_simp;with_reducible rfl
                rotate_left
                ·exact zqs
                refine pure_ (i:=8) (N:=some 67) (v:=?_) (a':=?_) (zqb 46 511) rfl rfl (any_of HT_.out zqk) (fun _ _ _ h=>h) (Or.inl ⟨by rfl,?_⟩) ?_ ?_;rotate_left
                ·exact zqt
                rotate_left
                ·exact zqs
                refine pure_ (i:=9) (N:=some 68) (v:=?_) (a':=?_) (zqb 46 1023) rfl rfl (any_of HT_.out zqk) (fun _ _ _ h=>h) (Or.inl ⟨by rfl,?_⟩) ?_ ?_;rotate_left
                ·exact zqt
                rotate_left
                ·exact zqs
                refine pure_ (i:=11) (N:=some 70) (v:=?_) (a':=?_) (zqb 46 3071) rfl rfl (any_of HT_.out zqk) (fun _ _ _ h=>h) (Or.inl ⟨by rfl,?_⟩) ?_ ?_;rotate_left
                ·exact zqt
                rotate_left
                ·exact zqs
                refine pure_ (i:=12) (N:=some 71) (v:=?_) (a':=?_) (zqb 46 7167) rfl rfl (any_of HT_.out zqk) (fun _ _ _ h=>h) (Or.inl ⟨by rfl,?_⟩) ?_ ?_;rotate_left
                ·exact zqt
                rotate_left
                ·exact zqs
                refine pure_ (i:=15) (N:=some 74) (v:=?_) (a':=?_) (zqb 46 39935) rfl rfl (any_of HT_.out zqk) (fun _ _ _ h=>h) (Or.inl ⟨by rfl,?_⟩) ?_ ?_;rotate_left
                ·exact zqt
                rotate_left
                ·exact zqs
                refine pure_ (i:=16) (N:=some 75) (v:=?_) (a':=?_) (zqb 46 105471) rfl rfl (any_of HT_.out zqk) (fun _ _ _ h=>h) (Or.inl ⟨by rfl,?_⟩) ?_ ?_;rotate_left
                ·exact zqt
                rotate_left
                ·exact zqs
                refine take_ (i:=10) (N:=some 69) (v:=?_) (a':=?_) (zqb 46 106495) rfl rfl (take_ofW HT_.out HW_.out zqk) (fun _ _ _ h=>h) (Or.inl ⟨by rfl,?_⟩) hHeld ?_ ?_;rotate_left
                ·rintro w' ⟨s0,s1,s2,s3,s4,s5⟩;go_simp;with_reducible rfl
                rotate_left
                ·exact zqs
                refine take_ (i:=14) (N:=some 73) (v:=?_) (a':=?_) (zqb 46 122879) rfl rfl (take_ofW HT_.out HW_.out zqk) (fun _ _ _ h=>h) (Or.inl ⟨by rfl,?_⟩) hHeld ?_ ?_;rotate_left
                ·rintro w' ⟨s0,s1,s2,s3,s4,s5⟩;go_simp;with_reducible rfl
                rotate_left
                ·exact zqs
                refine one_ (i:=13) (N:=some 72) (zqb 46 131071) rfl rfl (one_of HT_.out zqk) (by decide) (fun K hK=>?_);refine goes_ Try.func28 zqk rfl #[.agg #[.slice (some b8) a1.length e3,.slice e9 a5.length e4],.int .i64 b5,.int .i64 a6] (by rfl) rfl rfl zq1 ?_;(with_reducible refine(impl_ApartOk.calls _ _ a1 _ _ a5 b5 a6 d0 _ ?side1 ?side2 ?side3 ?side4 o7.out).mono ?_);(case side1=> exact zq5);(case side2=>exact(Kd.S_reads' a2.out).2.1);(case side3=> exact zq14);(case side4=>exact(Kd.Q_reads' a3.out).2.1);rintro e w95 ⟨rfl,hb⟩;have h0:=(hb.cell (World.block_lt_of_cell? _ _ (hHeld.2.2.1))).trans (hHeld.2.2.1);have h1:=(hb.cell (World.block_lt_of_cell? _ _ (hHeld.2.2.2.1))).trans (hHeld.2.2.2.1);have i1:=(hb.cell (World.block_lt_of_cell? _ _ (hHeld.2.2.2.2.1))).trans (hHeld.2.2.2.2.1);have i2:=(hb.cell (World.block_lt_of_cell? _ _ (hHeld.2.2.2.2.2))).trans (hHeld.2.2.2.2.2);refine⟨_,rfl,?_⟩
                first|(replace b4:=zqm (Kd.R_below b4.out hb))|(replace b4:=zqm (Kd.R_below (Kd.R_drewN b4.out _) hb))
                first|(replace b2:=zqm (Kd.C_below b2.out hb))|(replace b2:=zqm (Kd.C_below (Kd.C_drewN b2.out _) hb))
                replace a2:=zqm (Kd.S_below zq6 hb);replace a3:=zqm (Kd.Q_below zq20 hb);replace b7:=zqm (Kd.R_below zq140 hb);replace a0:=zqm (blk_below (g:=a4) (o:= .cells #[.slice (some b8) a1.length e3,.slice e9 a5.length e4] 30 (0,0)) zq2 hb);replace b0:=zqm (Kd.C_below zq46 hb);replace HB:=zqm (below_step zq3 hb);refine hK.out _ _ ⟨(blk_cell a0.out 0).trans rfl,(blk_cell a0.out 1).trans rfl,h0,h1,i1,i2⟩ (fun hHeld=>?_);clear hK K;refine norm_ (a':=?_) ?_ ?_;rotate_left
                ·show Act.put _ (some 72) _=_;exact zqs
                refine one_ (i:=17) (N:=some 76) (zqb 46 262143) rfl rfl (one_of HT_.out zqk) (by decide) (fun K hK=>?_);refine goes_ Try.func28 zqk rfl #[.agg #[.slice (some b8) a1.length e3,.slice e9 a5.length e4],.int .i64 d1,.int .i64 a9] (by rfl) rfl rfl zq1 ?_;(with_reducible refine(impl_ApartOk.calls _ _ a1 _ _ a5 d1 a9 c4 _ ?side1 ?side2 ?side3 ?side4 o8.out).mono ?_);(case side1=> exact zq5);(case side2=>exact(Kd.S_reads' a2.out).2.1);(case side3=> exact zq14);(case side4=>exact(Kd.Q_reads' a3.out).2.1);rintro e w96 ⟨rfl,hb⟩;have h0:=(hb.cell (World.block_lt_of_cell? _ _ (hHeld.2.2.1))).trans (hHeld.2.2.1);have h1:=(hb.cell (World.block_lt_of_cell? _ _ (hHeld.2.2.2.1))).trans (hHeld.2.2.2.1);have i1:=(hb.cell (World.block_lt_of_cell? _ _ (hHeld.2.2.2.2.1))).trans (hHeld.2.2.2.2.1);have i2:=(hb.cell (World.block_lt_of_cell? _ _ (hHeld.2.2.2.2.2))).trans (hHeld.2.2.2.2.2);refine⟨_,rfl,?_⟩
                first|(replace b4:=zqm (Kd.R_below b4.out hb))|(replace b4:=zqm (Kd.R_below (Kd.R_drewN b4.out _) hb))
                first|(replace b2:=zqm (Kd.C_below b2.out hb))|(replace b2:=zqm (Kd.C_below (Kd.C_drewN b2.out _) hb))
                replace a2:=zqm (Kd.S_below zq6 hb);replace a3:=zqm (Kd.Q_below zq20 hb);replace b7:=zqm (Kd.R_below zq140 hb);replace a0:=zqm (blk_below (g:=a4) (o:= .cells #[.slice (some b8) a1.length e3,.slice e9 a5.length e4] 30 (0,0)) zq2 hb);replace b0:=zqm (Kd.C_below zq46 hb);replace HB:=zqm (below_step zq3 hb);
                cases m4
                replace j2:=eq_true j2;replace j3:=eq_true j3;refine hK.out _ _ ⟨(blk_cell a0.out 0).trans rfl,(blk_cell a0.out 1).trans rfl,h0,h1,i1,i2⟩ (fun hHeld=>?_);clear hK K;refine norm_ (a':=?_) ?_ ?_;rotate_left
                ·show Act.put _ (some 76) _=_;exact zqs
                refine pure_ (i:=18) (N:=some 77) (v:=?_) (a':=?_) (zqb 46 524287) rfl rfl (any_of HT_.out zqk) (fun _ _ _ h=>h) (Or.inl ⟨by rfl,?_⟩) ?_ ?_;rotate_left
                ·exact zqt
                rotate_left
                ·exact zqs
                refine pure_ (i:=19) (N:=some 78) (v:=?_) (a':=?_) (zqb 46 1048575) rfl rfl (any_of HT_.out zqk) (fun _ _ _ h=>h) (Or.inl ⟨by rfl,?_⟩) ?_ ?_;rotate_left
                ·exact zqt
                rotate_left
                ·exact zqs
                refine pure_ (i:=20) (N:=some 79) (v:=?_) (a':=?_) (zqb 46 2097151) rfl rfl (any_of HT_.out zqk) (fun _ _ _ h=>h) (Or.inl ⟨by rfl,?_⟩) ?_ ?_;rotate_left
                ·exact zqt
                rotate_left
                ·exact zqs
                refine pure_ (i:=21) (N:=some 80) (v:=?_) (a':=?_) (zqb 46 4194303) rfl rfl (any_of HT_.out zqk) (fun _ _ _ h=>h) (Or.inl ⟨by rfl,?_⟩) ?_ ?_;rotate_left
                ·exact zqt
                rotate_left
                ·exact zqs
                refine pure_ (i:=23) (N:=some 82) (v:=?_) (a':=?_) (zqb 46 12582911) rfl rfl (any_of HT_.out zqk) (fun _ _ _ h=>h) (Or.inl ⟨by rfl,?_⟩) ?_ ?_;rotate_left
                ·exact zqt
                rotate_left
                ·exact zqs
                refine pure_ (i:=26) (N:=some 85) (v:=?_) (a':=?_) (zqb 46 79691775) rfl rfl (any_of HT_.out zqk) (fun _ _ _ h=>h) (Or.inl ⟨by rfl,?_⟩) ?_ ?_;rotate_left
                ·exact zqt
                rotate_left
                ·exact zqs
                refine take_ (i:=22) (N:=some 81) (v:=?_) (a':=?_) (zqb 46 83886079) rfl rfl (take_ofW HT_.out HW_.out zqk) (fun _ _ _ h=>h) (Or.inl ⟨by rfl,?_⟩) hHeld ?_ ?_;rotate_left
                ·rintro w' ⟨s0,s1,s2,s3,s4,s5⟩;go_simp;with_reducible rfl
                rotate_left
                ·exact zqs
                refine pure_ (i:=24) (N:=some 83) (v:=?_) (a':=?_) (zqb 46 100663295) rfl rfl (any_of HT_.out zqk) (fun _ _ _ h=>h) (Or.inl ⟨by rfl,?_⟩) ?_ ?_;rotate_left
                ·exact zqt
                rotate_left
                ·exact zqs
                refine take_ (i:=25) (N:=some 84) (v:=?_) (a':=?_) (zqb 46 134217727) rfl rfl (take_ofW HT_.out HW_.out zqk) (fun _ _ _ h=>h) (Or.inl ⟨by rfl,?_⟩) hHeld ?_ ?_;rotate_left
                ·rintro w' ⟨s0,s1,s2,s3,s4,s5⟩;go_simp;with_reducible rfl
                rotate_left
                ·exact zqs
                refine pure_ (i:=27) (N:=some 86) (v:=?_) (a':=?_) (zqb 46 268435455) rfl rfl (any_of HT_.out zqk) (fun _ _ _ h=>h) (Or.inl ⟨by rfl,?_⟩) ?_ ?_;rotate_left
                ·exact zqt
                rotate_left
                ·exact zqs
                refine take_ (i:=28) (N:=some 87) (v:=?_) (a':=?_) (zqb 46 536870911) rfl rfl (take_ofW HT_.out HW_.out zqk) (fun _ _ _ h=>h) (Or.inl ⟨by rfl,?_⟩) hHeld ?_ ?_;rotate_left
                ·rintro w' ⟨s0,s1,s2,s3,s4,s5⟩;go_simp;with_reducible rfl
                rotate_left
                ·exact zqs
                refine pure_ (i:=29) (N:=some 88) (v:=?_) (a':=?_) (zqb 46 1073741823) rfl rfl (any_of HT_.out zqk) (fun _ _ _ h=>h) (Or.inl ⟨by rfl,?_⟩) ?_ ?_;rotate_left
                ·exact zqt
                rotate_left
                ·exact zqs
                refine pure_ (i:=30) (N:=some 89) (v:=?_) (a':=?_) (zqb 46 2147483647) rfl rfl (any_of HT_.out zqk) (fun _ _ _ h=>h) (Or.inl ⟨by rfl,?_⟩) ?_ ?_;rotate_left
                ·exact zqt
                rotate_left
                ·exact zqs
                refine pure_ (i:=31) (N:=some 90) (v:=?_) (a':=?_) (zqb 46 4294967295) rfl rfl (any_of HT_.out zqk) (fun _ _ _ h=>h) (Or.inl ⟨by rfl,?_⟩) ?_ ?_;rotate_left
                ·exact zqt
                rotate_left
                ·exact zqs
                refine pure_ (i:=32) (N:=some 91) (v:=?_) (a':=?_) (zqb 46 8589934591) rfl rfl (any_of HT_.out zqk) (fun _ _ _ h=>h) (Or.inl ⟨by rfl,?_⟩) ?_ ?_;rotate_left
                ·exact zqt
                rotate_left
                ·exact zqs
                refine pure_ (i:=33) (N:=some 92) (v:=?_) (a':=?_) (zqb 46 17179869183) rfl rfl (any_of HT_.out zqk) (fun _ _ _ h=>h) (Or.inl ⟨by rfl,?_⟩) ?_ ?_;rotate_left
                ·exact zqt
                rotate_left
                ·exact zqs
                refine pure_ (i:=34) (N:=some 93) (v:=?_) (a':=?_) (zqb 46 34359738367) rfl rfl (any_of HT_.out zqk) (fun _ _ _ h=>h) (Or.inl ⟨by rfl,?_⟩) ?_ ?_;rotate_left
                ·exact zqt
                rotate_left
                ·exact zqs
                refine pure_ (i:=35) (N:=some 94) (v:=undef) (a':=?_) (zqb 46 68719476735) rfl rfl (any_of HT_.out zqk) (fun _ _ _ h=>h) (Or.inr ⟨by rfl,rfl⟩) ?_ ?_;rotate_left
                ·exact zqs
                refine pure_ (i:=36) (N:=some 95) (v:=undef) (a':=?_) (zqb 46 137438953471) rfl rfl (any_of HT_.out zqk) (fun _ _ _ h=>h) (Or.inr ⟨by rfl,rfl⟩) ?_ ?_;rotate_left
                ·exact zqs
                refine pure_ (i:=37) (N:=some 96) (v:=undef) (a':=?_) (zqb 46 274877906943) rfl rfl (any_of HT_.out zqk) (fun _ _ _ h=>h) (Or.inr ⟨by rfl,rfl⟩) ?_ ?_;rotate_left
                ·exact zqs
                refine pure_ (i:=38) (N:=some 97) (v:=undef) (a':=?_) (zqb 46 549755813887) rfl rfl (any_of HT_.out zqk) (fun _ _ _ h=>h) (Or.inr ⟨by rfl,rfl⟩) ?_ ?_;rotate_left
                ·exact zqs
                refine pure_ (i:=39) (N:=some 98) (v:=undef) (a':=?_) (zqb 46 1099511627775) rfl rfl (any_of HT_.out zqk) (fun _ _ _ h=>h) (Or.inr ⟨by rfl,rfl⟩) ?_ ?_;rotate_left
                ·exact zqs
                refine pure_ (i:=40) (N:=some 99) (v:=undef) (a':=?_) (zqb 46 2199023255551) rfl rfl (any_of HT_.out zqk) (fun _ _ _ h=>h) (Or.inr ⟨by rfl,rfl⟩) ?_ ?_;rotate_left
                ·exact zqs
                refine pure_ (i:=41) (N:=some 100) (v:=undef) (a':=?_) (zqb 46 4398046511103) rfl rfl (any_of HT_.out zqk) (fun _ _ _ h=>h) (Or.inr ⟨by rfl,rfl⟩) ?_ ?_;rotate_left
                ·exact zqs
                refine pure_ (i:=42) (N:=some 101) (v:=?_) (a':=?_) (zqb 46 8796093022207) rfl rfl (any_of HT_.out zqk) (fun _ _ _ h=>h) (Or.inl ⟨by rfl,?_⟩) ?_ ?_;rotate_left
                ·exact zqt
                rotate_left
                ·exact zqs
                refine pure_ (i:=43) (N:=some 102) (v:=?_) (a':=?_) (zqb 46 17592186044415) rfl rfl (any_of HT_.out zqk) (fun _ _ _ h=>h) (Or.inl ⟨by rfl,?_⟩) ?_ ?_;rotate_left
                ·exact zqt
                rotate_left
                ·exact zqs
                refine pure_ (i:=44) (N:=some 103) (v:=?_) (a':=?_) (zqb 46 35184372088831) rfl rfl (any_of HT_.out zqk) (fun _ _ _ h=>h) (Or.inl ⟨by rfl,?_⟩) ?_ ?_;rotate_left
                ·exact zqt
                rotate_left
                ·exact zqs
                refine pure_ (i:=45) (N:=some 2) (v:=?_) (a':=?_) (zqb 46 70368744177663) rfl rfl (any_of HT_.out zqk) (fun _ _ _ h=>h) (Or.inl ⟨by rfl,?_⟩) ?_ ?_;rotate_left
                ·exact zqt
                rotate_left
                ·exact zqs
                refine done_ (done_of HT_.out zqk) ?_;try go_wp2
                go_ret
                exact⟨zq11,zq3⟩
             ·rw [if_neg p1] at H;exact absurd H (by simp)
            ·rw [if_neg p0] at H;exact absurd H (by simp)
           ·rw [if_neg o9] at H;exact absurd H (by simp)
          ·rw [if_neg k5] at H;(have r9:(d0==c4)=false:=by simpa using k5);(try(have s6:decide (d0=c4)=false:=by simpa using k5));(try(have s7:(d0==c4)=false:=by simpa using k5));(try(have a5q: ¬(d0=c4):=by simpa using k5));clear k5;obtain rfl:=Option.some.inj H
           go_enter Try.func5,Try.ntmps5
           (try go_wp2_with (first|((with_reducible refine gate_callee (f:=25) rfl ?_);refine goesL_ (some 15) rfl rfl Try.func25 zqk rfl #[.slice A0 l0.length c0] rfl zq1 ?_;(with_reducible refine(spec_DrawBehindOf.calls k _ _ l0 a1 a5 a8 a6 a9 _ ?side1 ?side2 A3.out).mono ?_);(case side1=> exact zq99);(case side2=>exact l4.out);rintro e w97 ⟨k3,k4,rfl,f6,f7,hb⟩;refine⟨_,rfl,?_⟩;have a2:=zqm (Kd.S_lower f6 (below_size zq0));have a3:=zqm (Kd.Q_lower f7 (below_size zq0));replace HB:=zqm (below_step zq0 hb);clear hb f6 f7)|((with_reducible refine gate_dst (N:=3) rfl ?_);refine box_event ?hg (N:=3) ?hd (cs:= #[.slice none 0 0,.slice none 0 0]) (t:=30) ?hr ?_;(case hd=>rfl);(case hg=>rfl);(case hr=>first|(go_simp;done)|(go_simp;rfl));intro a4 hg w2 hbox hb;replace a2:=zqm (Kd.S_below zq6 hb);replace a3:=zqm (Kd.Q_below zq20 hb);have f8:=zqm (below_step zq0 hb);have a0:=zqm (hbox);have j4:=zqm ((by rw [hg];exact(below_size zq0):w.heap.size≤a4));have b1:=zqm ((by rw [hg];exact(below_size zq0):w.heap.size≤a4));clear HB;have HB:=f8;clear f8 hb hbox hg;obtain⟨g4,e5,y0⟩:=Kd.S_slice a2.out;subst y0;have y1:w2.cell? ⟨a4,0,none⟩=some (.slice none 0 0):=(blk_cell a0.out 0).trans rfl;have y2:w2.cell? ⟨a4,1,none⟩=some (.slice none 0 0):=(blk_cell a0.out 1).trans rfl;have y3:=blk_frozen a0.out 0;have y4:=blk_frozen a0.out 1;obtain⟨c9,c3,t2,_⟩:=Kd.Q_slice a3.out;subst t2)|((with_reducible refine gate_callee (f:=26) rfl ?_);refine goesL_ (some 24) rfl rfl Try.func26 zqk rfl #[.agg #[.slice g4 a1.length e5,.slice c9 a5.length c3],.int .i64 a8,.int .i64 a6,.int .i64 a9] rfl zq1 ?_;(with_reducible refine(impl_BehindOf.calls _ _ a1 _ _ a5 a8 a6 a9 a7 _ ?side1 ?side2 ?side3 ?side4 A4.out).mono ?_);(case side1=>refine(Kd.S_reads' (e:=28) (base:=w.heap.size) (ok:=fun k_=>some k_≠(.slice c9 a5.length c3:Value).ownBlock) (n:=a1.length) (c:=e5) ?_).2.2;exact zq197);(case side2=>exact(Kd.S_reads' a2.out).2.1);(case side3=>refine(Kd.Q_reads' (e:=3) (base:=w.heap.size) (ok:=fun k_=>True) (n:=a5.length) (c:=c3) ?_).2.2;exact zq255);(case side4=>exact(Kd.Q_reads' a3.out).2.1);rintro e q0 ⟨rfl,hb⟩;refine⟨_,rfl,?_⟩;replace a2:=zqm (Kd.S_below zq197 hb);replace a3:=zqm (Kd.Q_below zq255 hb);replace a0:=zqm (blk_below (g:=a4) (o:= .cells #[.slice g4 a1.length e5,.slice c9 a5.length c3] 30 (0,0)) (by(with_reducible repeat(first|refine blk_drewN ?_ _|refine blk_drew ?_|refine blk_alloc ?_ _));refine blk_put (cs:= #[.slice g4 a1.length e5,.slice none 0 0]) ?_ 1 _ rfl;(with_reducible repeat(first|refine blk_drewN ?_ _|refine blk_drew ?_|refine blk_alloc ?_ _));refine blk_put (cs:= #[.slice none 0 0,.slice none 0 0]) ?_ 0 _ rfl;(with_reducible repeat(first|refine blk_drewN ?_ _|refine blk_drew ?_|refine blk_alloc ?_ _));exact a0.out) hb);replace HB:=zqm (below_step zq3 hb);clear hb;have y5:q0.cell? ⟨a4,0,none⟩=some (.slice g4 a1.length e5):=(blk_cell a0.out 0).trans rfl;have y6:q0.cell? ⟨a4,1,none⟩=some (.slice c9 a5.length c3):=(blk_cell a0.out 1).trans rfl;have y7:=blk_frozen a0.out 0;have y8:=blk_frozen a0.out 1)|((with_reducible refine gate_callee (f:=27) rfl ?_);refine goesL_ (some 30) rfl rfl Try.func27 zqk rfl #[.agg #[.slice g4 a1.length e5,.slice c9 a5.length c3],.int .i64 a8,.int .i64 a6,.int .i64 a9] rfl zq1 ?_;(with_reducible refine(spec_BehindOf.calls k _ _ a1 _ _ a5 a8 a6 a9 f3 _ ?side1 ?side2 ?side3 ?side4 A5.out).mono ?_);(case side1=> exact zq5);(case side2=>exact(Kd.S_reads' a2.out).2.1);(case side3=> exact zq14);(case side4=>exact(Kd.Q_reads' a3.out).2.1);rintro e q1 ⟨rfl,hb⟩;refine⟨_,rfl,?_⟩;replace a2:=zqm (Kd.S_below zq6 hb);replace a3:=zqm (Kd.Q_below zq20 hb);replace a0:=zqm (blk_below (g:=a4) (o:= .cells #[.slice g4 a1.length e5,.slice c9 a5.length c3] 30 (0,0)) zq2 hb);replace HB:=zqm (below_step zq3 hb);clear hb;have y9:q1.cell? ⟨a4,0,none⟩=some (.slice g4 a1.length e5):=(blk_cell a0.out 0).trans rfl;have z0:q1.cell? ⟨a4,1,none⟩=some (.slice c9 a5.length c3):=(blk_cell a0.out 1).trans rfl;have z1:=blk_frozen a0.out 0;have z2:=blk_frozen a0.out 1)|((with_reducible refine gate_callee (f:=22) rfl ?_);refine goesL_ (some 40) rfl rfl Try.func22 zqk rfl #[.agg #[.slice g4 a1.length e5,.slice c9 a5.length c3]] rfl zq1 ?_;(with_reducible refine(spec_KeepsOk.calls k _ _ a1 _ _ a5 true _ ?side1 ?side2 ?side3 ?side4 m6.out).mono ?_);(case side1=> exact zq5);(case side2=>exact(Kd.S_reads' a2.out).2.1);(case side3=> exact zq14);(case side4=>exact(Kd.Q_reads' a3.out).2.1);rintro e q2 ⟨rfl,hb⟩;refine⟨_,rfl,?_⟩;replace a2:=zqm (Kd.S_below zq6 hb);replace a3:=zqm (Kd.Q_below zq20 hb);replace a0:=zqm (blk_below (g:=a4) (o:= .cells #[.slice g4 a1.length e5,.slice c9 a5.length c3] 30 (0,0)) zq2 hb);replace HB:=zqm (below_step zq3 hb);clear hb;have z3:q2.cell? ⟨a4,0,none⟩=some (.slice g4 a1.length e5):=(blk_cell a0.out 0).trans rfl;have z4:q2.cell? ⟨a4,1,none⟩=some (.slice c9 a5.length c3):=(blk_cell a0.out 1).trans rfl;have z5:=blk_frozen a0.out 0;have z6:=blk_frozen a0.out 1)|((with_reducible refine gate_callee (f:=20) rfl ?_);refine goesL_ (some 54) rfl rfl Try.func20 zqk rfl #[.agg #[.slice g4 a1.length e5,.slice c9 a5.length c3],.int .i64 a8,.int .i64 a9] rfl zq1 ?_;(with_reducible refine(impl_ProjectOf.calls _ _ a1 _ _ a5 a8 a9 b5 _ ?side1 ?side2 ?side3 ?side4 n8.out).mono ?_);(case side1=> exact zq5);(case side2=>exact(Kd.S_reads' a2.out).2.1);(case side3=> exact zq14);(case side4=>exact(Kd.Q_reads' a3.out).2.1);rintro e q3 ⟨rfl,hb⟩;refine⟨_,rfl,?_⟩;replace a2:=zqm (Kd.S_below zq6 hb);replace a3:=zqm (Kd.Q_below zq20 hb);replace a0:=zqm (blk_below (g:=a4) (o:= .cells #[.slice g4 a1.length e5,.slice c9 a5.length c3] 30 (0,0)) zq2 hb);replace HB:=zqm (below_step zq3 hb);clear hb;have z7:q3.cell? ⟨a4,0,none⟩=some (.slice g4 a1.length e5):=(blk_cell a0.out 0).trans rfl;have z8:q3.cell? ⟨a4,1,none⟩=some (.slice c9 a5.length c3):=(blk_cell a0.out 1).trans rfl;have z9:=blk_frozen a0.out 0;have a0a:=blk_frozen a0.out 1)|((with_reducible refine gate_callee (f:=20) rfl ?_);refine goesL_ (some 58) rfl rfl Try.func20 zqk rfl #[.agg #[.slice g4 a1.length e5,.slice c9 a5.length c3],.int .i64 a8,.int .i64 a6] rfl zq1 ?_;(with_reducible refine(impl_ProjectOf.calls _ _ a1 _ _ a5 a8 a6 d1 _ ?side1 ?side2 ?side3 ?side4 l9.out).mono ?_);(case side1=> exact zq5);(case side2=>exact(Kd.S_reads' a2.out).2.1);(case side3=> exact zq14);(case side4=>exact(Kd.Q_reads' a3.out).2.1);rintro e a0b ⟨rfl,hb⟩;refine⟨_,rfl,?_⟩;replace a2:=zqm (Kd.S_below zq6 hb);replace a3:=zqm (Kd.Q_below zq20 hb);replace a0:=zqm (blk_below (g:=a4) (o:= .cells #[.slice g4 a1.length e5,.slice c9 a5.length c3] 30 (0,0)) zq2 hb);replace HB:=zqm (below_step zq3 hb);clear hb)))
           replace a2:=zqm (Kd.S_drew a2.out);replace a3:=zqm (Kd.Q_drew a3.out);replace a0:=zqm (blk_drew a0.out);replace HB:=zqm (below_drew1 HB.out);have e7:0≤(a7:Int):=zqo;have e8:a7<(a1.length:Int):=zqo;obtain⟨b8,l5,h4,k1,b9,d7,d8⟩:=at_L3 (Kd.S_reads' a2.out).2.2 a7 e7 e8
           cases k1
           obtain⟨m0,h5,h6,f2⟩:=Kd.S_get a2.out [] a7 e7 zq350;obtain⟨l1,rfl,c1⟩:=h6;have b6:=f2 0 _ rfl;rw [Nat.add_zero,show ((Kd.slice 3 (Kd.int .i64))).sz=1 from rfl,Nat.mul_one] at b6;replace b6:=Option.some.inj (b6.symm.trans b9);rw [b6] at c1;have b7:=zqm (show Kd.R (Kd.int .i64) 3 _ _ _ _ (rd_L3 a1 a7) from c1);clear b6 c1 f2 h5;have b0:=zqm d8;have l2:=zqm d7;clear d8 d7;replace e7:=eq_true e7;replace e8:=eq_true e8;have g0:0≤(a6:Int):=zqo;have g1:a6<((rd_L3 a1 a7).length:Int):=zqo;obtain⟨g7,k2,d9⟩:=Kd.at_int zq46 a6 g0 g1
           cases k2
           replace g0:=eq_true g0;replace g1:=eq_true g1;refine start_ (n:=46) (S:=fun w'=>w'.cell? ⟨a4,0,none⟩=some (.slice (some b8) a1.length e5)∧w'.cell? ⟨a4,1,none⟩=some (.slice c9 a5.length c3)∧w'.cell? (b8.add (a7).toNat)=some (.slice (some g7) (rd_L3 a1 a7).length h4)∧w'.cell? (g7.add (a6).toNat)=some (.int .i64 (rd (rd_L3 a1 a7) a6))) (ds:= []) (zqb 46 0) zqk rfl rfl ⟨(blk_cell a0.out 0).trans rfl,(blk_cell a0.out 1).trans rfl,b9,d9⟩ (fun hHeld=>?_);refine with_tabW laws_FnBehindOf.tab13 laws_FnBehindOf.bits13 (fun HT_ HW_=>?_);generalize a0b.drew=a5u at a2 a3 a0 HB b7 b0 b9 d9 hHeld ⊢;refine pure_ (i:=0) (N:=some 59) (v:=?_) (a':=?_) (zqb 46 1) rfl rfl (any_of HT_.out zqk) (fun _ _ _ h=>h) (Or.inl ⟨by rfl,?_⟩) ?_ ?_;rotate_left
           ·exact zqt
           rotate_left
           ·exact zqs
           refine pure_ (i:=2) (N:=some 61) (v:=?_) (a':=?_) (zqb 46 5) rfl rfl (any_of HT_.out zqk) (fun _ _ _ h=>h) (Or.inl ⟨by rfl,?_⟩) ?_ ?_;rotate_left
           ·exact zqt
           rotate_left
           ·exact zqs
           refine pure_ (i:=5) (N:=some 64) (v:=?_) (a':=?_) (zqb 46 37) rfl rfl (any_of HT_.out zqk) (fun _ _ _ h=>h) (Or.inl ⟨by rfl,?_⟩) ?_ ?_;rotate_left
           ·exact zqt
           rotate_left
           ·exact zqs
           refine take_ (i:=1) (N:=some 60) (v:=?_) (a':=?_) (zqb 46 39) rfl rfl (take_ofW HT_.out HW_.out zqk) (fun _ _ _ h=>h) (Or.inl ⟨by rfl,?_⟩) hHeld ?_ ?_;rotate_left
           ·rintro w' ⟨s0,s1,s2,s3⟩;go_simp;with_reducible rfl
           rotate_left
           ·exact zqs
           refine pure_ (i:=3) (N:=some 62) (v:=?_) (a':=?_) (zqb 46 47) rfl rfl (any_of HT_.out zqk) (fun _ _ _ h=>h) (Or.inl ⟨by rfl,?_⟩) ?_ ?_;rotate_left
           ·exact zqt
           rotate_left
           ·exact zqs
           refine take_ (i:=4) (N:=some 63) (v:=?_) (a':=?_) (zqb 46 63) rfl rfl (take_ofW HT_.out HW_.out zqk) (fun _ _ _ h=>h) (Or.inl ⟨by rfl,?_⟩) hHeld ?_ ?_;rotate_left
           ·rintro w' ⟨s0,s1,s2,s3⟩;go_simp;with_reducible rfl
           rotate_left
           ·exact zqs
           refine pure_ (i:=6) (N:=some 65) (v:=?_) (a':=?_) (zqb 46 127) rfl rfl (any_of HT_.out zqk) (fun _ _ _ h=>h) (Or.inl ⟨by rfl,?_⟩) ?_ ?_;rotate_left
           ·exact zqt
           rotate_left
           ·exact zqs
           refine take_ (i:=7) (N:=some 66) (v:=?_) (a':=?_) (zqb 46 255) rfl rfl (take_ofW HT_.out HW_.out zqk) (fun _ _ _ h=>h) (Or.inl ⟨by rfl,?_⟩) hHeld ?_ ?_;rotate_left
           ·rintro w' ⟨s0,s1,s2,s3⟩;go_simp;with_reducible rfl
           rotate_left
           ·exact zqs
           refine pure_ (i:=8) (N:=some 67) (v:=?_) (a':=?_) (zqb 46 511) rfl rfl (any_of HT_.out zqk) (fun _ _ _ h=>h) (Or.inl ⟨by rfl,?_⟩) ?_ ?_;rotate_left
           ·exact zqt
           rotate_left
           ·exact zqs
           refine pure_ (i:=9) (N:=some 68) (v:=?_) (a':=?_) (zqb 46 1023) rfl rfl (any_of HT_.out zqk) (fun _ _ _ h=>h) (Or.inl ⟨by rfl,?_⟩) ?_ ?_;rotate_left
           ·exact zqt
           rotate_left
           ·exact zqs
           refine pure_ (i:=11) (N:=some 70) (v:=?_) (a':=?_) (zqb 46 3071) rfl rfl (any_of HT_.out zqk) (fun _ _ _ h=>h) (Or.inl ⟨by rfl,?_⟩) ?_ ?_;rotate_left
           ·exact zqt
           rotate_left
           ·exact zqs
           refine pure_ (i:=12) (N:=some 71) (v:=?_) (a':=?_) (zqb 46 7167) rfl rfl (any_of HT_.out zqk) (fun _ _ _ h=>h) (Or.inl ⟨by rfl,?_⟩) ?_ ?_;rotate_left
           ·exact zqt
           rotate_left
           ·exact zqs
           refine pure_ (i:=15) (N:=some 74) (v:=?_) (a':=?_) (zqb 46 39935) rfl rfl (any_of HT_.out zqk) (fun _ _ _ h=>h) (Or.inl ⟨by rfl,?_⟩) ?_ ?_;rotate_left
           ·exact zqt
           rotate_left
           ·exact zqs
           refine pure_ (i:=16) (N:=some 75) (v:=?_) (a':=?_) (zqb 46 105471) rfl rfl (any_of HT_.out zqk) (fun _ _ _ h=>h) (Or.inl ⟨by rfl,?_⟩) ?_ ?_;rotate_left
           ·exact zqt
           rotate_left
           ·exact zqs
           refine take_ (i:=10) (N:=some 69) (v:=?_) (a':=?_) (zqb 46 106495) rfl rfl (take_ofW HT_.out HW_.out zqk) (fun _ _ _ h=>h) (Or.inl ⟨by rfl,?_⟩) hHeld ?_ ?_;rotate_left
           ·rintro w' ⟨s0,s1,s2,s3⟩;go_simp;with_reducible rfl
           rotate_left
           ·exact zqs
           refine take_ (i:=14) (N:=some 73) (v:=?_) (a':=?_) (zqb 46 122879) rfl rfl (take_ofW HT_.out HW_.out zqk) (fun _ _ _ h=>h) (Or.inl ⟨by rfl,?_⟩) hHeld ?_ ?_;rotate_left
           ·rintro w' ⟨s0,s1,s2,s3⟩;go_simp;with_reducible rfl
           rotate_left
           ·exact zqs
           refine one_ (i:=13) (N:=some 72) (zqb 46 131071) rfl rfl (one_of HT_.out zqk) (by decide) (fun K hK=>?_);refine goes_ Try.func28 zqk rfl #[.agg #[.slice (some b8) a1.length e5,.slice c9 a5.length c3],.int .i64 b5,.int .i64 a6] (by rfl) rfl rfl zq1 ?_;(with_reducible refine(impl_ApartOk.calls _ _ a1 _ _ a5 b5 a6 d0 _ ?side1 ?side2 ?side3 ?side4 o7.out).mono ?_);(case side1=> exact zq5);(case side2=>exact(Kd.S_reads' a2.out).2.1);(case side3=> exact zq14);(case side4=>exact(Kd.Q_reads' a3.out).2.1);rintro e a5v ⟨rfl,hb⟩;have h0:=(hb.cell (World.block_lt_of_cell? _ _ (hHeld.2.2.1))).trans (hHeld.2.2.1);have h1:=(hb.cell (World.block_lt_of_cell? _ _ (hHeld.2.2.2))).trans (hHeld.2.2.2);refine⟨_,rfl,?_⟩;replace a2:=zqm (Kd.S_below zq6 hb);replace a3:=zqm (Kd.Q_below zq20 hb);replace b7:=zqm (Kd.R_below zq140 hb);replace a0:=zqm (blk_below (g:=a4) (o:= .cells #[.slice (some b8) a1.length e5,.slice c9 a5.length c3] 30 (0,0)) zq2 hb);replace b0:=zqm (Kd.C_below zq46 hb);replace HB:=zqm (below_step zq3 hb);clear hb;refine hK.out _ _ ⟨(blk_cell a0.out 0).trans rfl,(blk_cell a0.out 1).trans rfl,h0,h1⟩ (fun hHeld=>?_);clear hK K;refine norm_ (a':=?_) ?_ ?_;rotate_left
           ·show Act.put _ (some 72) _=_;exact zqs
           refine one_ (i:=17) (N:=some 76) (zqb 46 262143) rfl rfl (one_of HT_.out zqk) (by decide) (fun K hK=>?_);refine goes_ Try.func28 zqk rfl #[.agg #[.slice (some b8) a1.length e5,.slice c9 a5.length c3],.int .i64 d1,.int .i64 a9] (by rfl) rfl rfl zq1 ?_;(with_reducible refine(impl_ApartOk.calls _ _ a1 _ _ a5 d1 a9 c4 _ ?side1 ?side2 ?side3 ?side4 o8.out).mono ?_);(case side1=> exact zq5);(case side2=>exact(Kd.S_reads' a2.out).2.1);(case side3=> exact zq14);(case side4=>exact(Kd.Q_reads' a3.out).2.1);rintro e a5w ⟨rfl,hb⟩;have h0:=(hb.cell (World.block_lt_of_cell? _ _ (hHeld.2.2.1))).trans (hHeld.2.2.1);have h1:=(hb.cell (World.block_lt_of_cell? _ _ (hHeld.2.2.2))).trans (hHeld.2.2.2);refine⟨_,rfl,?_⟩;replace a2:=zqm (Kd.S_below zq6 hb);replace a3:=zqm (Kd.Q_below zq20 hb);replace b7:=zqm (Kd.R_below zq140 hb);replace a0:=zqm (blk_below (g:=a4) (o:= .cells #[.slice (some b8) a1.length e5,.slice c9 a5.length c3] 30 (0,0)) zq2 hb);replace b0:=zqm (Kd.C_below zq46 hb);replace HB:=zqm (below_step zq3 hb);clear hb;refine hK.out _ _ ⟨(blk_cell a0.out 0).trans rfl,(blk_cell a0.out 1).trans rfl,h0,h1⟩ (fun hHeld=>?_);clear hK K;refine norm_ (a':=?_) ?_ ?_;rotate_left
           ·show Act.put _ (some 76) _=_;exact zqs
           refine pure_ (i:=18) (N:=some 77) (v:=?_) (a':=?_) (zqb 46 524287) rfl rfl (any_of HT_.out zqk) (fun _ _ _ h=>h) (Or.inl ⟨by rfl,?_⟩) ?_ ?_;rotate_left
           ·exact zqt
           rotate_left
           ·exact zqs
           refine pure_ (i:=19) (N:=some 78) (v:=?_) (a':=?_) (zqb 46 1048575) rfl rfl (any_of HT_.out zqk) (fun _ _ _ h=>h) (Or.inl ⟨by rfl,?_⟩) ?_ ?_;rotate_left
           ·exact zqt
           rotate_left
           ·exact zqs
           refine pure_ (i:=20) (N:=some 79) (v:=?_) (a':=?_) (zqb 46 2097151) rfl rfl (any_of HT_.out zqk) (fun _ _ _ h=>h) (Or.inl ⟨by rfl,?_⟩) ?_ ?_;rotate_left
           ·exact zqt
           rotate_left
           ·exact zqs
           refine pure_ (i:=21) (N:=some 80) (v:=undef) (a':=?_) (zqb 46 4194303) rfl rfl (any_of HT_.out zqk) (fun _ _ _ h=>h) (Or.inr ⟨by rfl,rfl⟩) ?_ ?_;rotate_left
           ·exact zqs
           refine pure_ (i:=22) (N:=some 81) (v:=undef) (a':=?_) (zqb 46 8388607) rfl rfl (any_of HT_.out zqk) (fun _ _ _ h=>h) (Or.inr ⟨by rfl,rfl⟩) ?_ ?_;rotate_left
           ·exact zqs
           refine pure_ (i:=23) (N:=some 82) (v:=undef) (a':=?_) (zqb 46 16777215) rfl rfl (any_of HT_.out zqk) (fun _ _ _ h=>h) (Or.inr ⟨by rfl,rfl⟩) ?_ ?_;rotate_left
           ·exact zqs
           refine pure_ (i:=24) (N:=some 83) (v:=undef) (a':=?_) (zqb 46 33554431) rfl rfl (any_of HT_.out zqk) (fun _ _ _ h=>h) (Or.inr ⟨by rfl,rfl⟩) ?_ ?_;rotate_left
           ·exact zqs
           refine pure_ (i:=25) (N:=some 84) (v:=undef) (a':=?_) (zqb 46 67108863) rfl rfl (any_of HT_.out zqk) (fun _ _ _ h=>h) (Or.inr ⟨by rfl,rfl⟩) ?_ ?_;rotate_left
           ·exact zqs
           refine pure_ (i:=26) (N:=some 85) (v:=undef) (a':=?_) (zqb 46 134217727) rfl rfl (any_of HT_.out zqk) (fun _ _ _ h=>h) (Or.inr ⟨by rfl,rfl⟩) ?_ ?_;rotate_left
           ·exact zqs
           refine pure_ (i:=27) (N:=some 86) (v:=undef) (a':=?_) (zqb 46 268435455) rfl rfl (any_of HT_.out zqk) (fun _ _ _ h=>h) (Or.inr ⟨by rfl,rfl⟩) ?_ ?_;rotate_left
           ·exact zqs
           refine pure_ (i:=28) (N:=some 87) (v:=undef) (a':=?_) (zqb 46 536870911) rfl rfl (any_of HT_.out zqk) (fun _ _ _ h=>h) (Or.inr ⟨by rfl,rfl⟩) ?_ ?_;rotate_left
           ·exact zqs
           refine pure_ (i:=29) (N:=some 88) (v:=undef) (a':=?_) (zqb 46 1073741823) rfl rfl (any_of HT_.out zqk) (fun _ _ _ h=>h) (Or.inr ⟨by rfl,rfl⟩) ?_ ?_;rotate_left
           ·exact zqs
           refine pure_ (i:=30) (N:=some 89) (v:=undef) (a':=?_) (zqb 46 2147483647) rfl rfl (any_of HT_.out zqk) (fun _ _ _ h=>h) (Or.inr ⟨by rfl,rfl⟩) ?_ ?_;rotate_left
           ·exact zqs
           refine pure_ (i:=31) (N:=some 90) (v:=undef) (a':=?_) (zqb 46 4294967295) rfl rfl (any_of HT_.out zqk) (fun _ _ _ h=>h) (Or.inr ⟨by rfl,rfl⟩) ?_ ?_;rotate_left
           ·exact zqs
           refine pure_ (i:=32) (N:=some 91) (v:=undef) (a':=?_) (zqb 46 8589934591) rfl rfl (any_of HT_.out zqk) (fun _ _ _ h=>h) (Or.inr ⟨by rfl,rfl⟩) ?_ ?_;rotate_left
           ·exact zqs
           refine pure_ (i:=33) (N:=some 92) (v:=undef) (a':=?_) (zqb 46 17179869183) rfl rfl (any_of HT_.out zqk) (fun _ _ _ h=>h) (Or.inr ⟨by rfl,rfl⟩) ?_ ?_;rotate_left
           ·exact zqs
           refine pure_ (i:=34) (N:=some 93) (v:=undef) (a':=?_) (zqb 46 34359738367) rfl rfl (any_of HT_.out zqk) (fun _ _ _ h=>h) (Or.inr ⟨by rfl,rfl⟩) ?_ ?_;rotate_left
           ·exact zqs
           refine pure_ (i:=35) (N:=some 94) (v:=undef) (a':=?_) (zqb 46 68719476735) rfl rfl (any_of HT_.out zqk) (fun _ _ _ h=>h) (Or.inr ⟨by rfl,rfl⟩) ?_ ?_;rotate_left
           ·exact zqs
           refine pure_ (i:=36) (N:=some 95) (v:=undef) (a':=?_) (zqb 46 137438953471) rfl rfl (any_of HT_.out zqk) (fun _ _ _ h=>h) (Or.inr ⟨by rfl,rfl⟩) ?_ ?_;rotate_left
           ·exact zqs
           refine pure_ (i:=37) (N:=some 96) (v:=undef) (a':=?_) (zqb 46 274877906943) rfl rfl (any_of HT_.out zqk) (fun _ _ _ h=>h) (Or.inr ⟨by rfl,rfl⟩) ?_ ?_;rotate_left
           ·exact zqs
           refine pure_ (i:=38) (N:=some 97) (v:=undef) (a':=?_) (zqb 46 549755813887) rfl rfl (any_of HT_.out zqk) (fun _ _ _ h=>h) (Or.inr ⟨by rfl,rfl⟩) ?_ ?_;rotate_left
           ·exact zqs
           refine pure_ (i:=39) (N:=some 98) (v:=undef) (a':=?_) (zqb 46 1099511627775) rfl rfl (any_of HT_.out zqk) (fun _ _ _ h=>h) (Or.inr ⟨by rfl,rfl⟩) ?_ ?_;rotate_left
           ·exact zqs
           refine pure_ (i:=40) (N:=some 99) (v:=undef) (a':=?_) (zqb 46 2199023255551) rfl rfl (any_of HT_.out zqk) (fun _ _ _ h=>h) (Or.inr ⟨by rfl,rfl⟩) ?_ ?_;rotate_left
           ·exact zqs
           refine pure_ (i:=41) (N:=some 100) (v:=undef) (a':=?_) (zqb 46 4398046511103) rfl rfl (any_of HT_.out zqk) (fun _ _ _ h=>h) (Or.inr ⟨by rfl,rfl⟩) ?_ ?_;rotate_left
           ·exact zqs
           refine pure_ (i:=42) (N:=some 101) (v:=undef) (a':=?_) (zqb 46 8796093022207) rfl rfl (any_of HT_.out zqk) (fun _ _ _ h=>h) (Or.inr ⟨by rfl,rfl⟩) ?_ ?_;rotate_left
           ·exact zqs
           refine pure_ (i:=43) (N:=some 102) (v:=undef) (a':=?_) (zqb 46 17592186044415) rfl rfl (any_of HT_.out zqk) (fun _ _ _ h=>h) (Or.inr ⟨by rfl,rfl⟩) ?_ ?_;rotate_left
           ·exact zqs
           refine pure_ (i:=44) (N:=some 103) (v:=?_) (a':=?_) (zqb 46 35184372088831) rfl rfl (any_of HT_.out zqk) (fun _ _ _ h=>h) (Or.inl ⟨by rfl,?_⟩) ?_ ?_;rotate_left
           ·exact zqt
           rotate_left
           ·exact zqs
           refine pure_ (i:=45) (N:=some 2) (v:=?_) (a':=?_) (zqb 46 70368744177663) rfl rfl (any_of HT_.out zqk) (fun _ _ _ h=>h) (Or.inl ⟨by rfl,?_⟩) ?_ ?_;rotate_left
           ·exact zqt
           rotate_left
           ·exact zqs
           refine done_ (done_of HT_.out zqk) ?_;try go_wp2
           go_ret
           exact⟨zq11,zq3⟩
         ·rw [if_neg m1] at H;have r7:((rd (rd_L3 a1 a7) a6)==1)=false:=beq_eq_false_iff_ne.mpr m1;have r8:((rd (rd_L3 a1 a7) a6) !=1)=true:=bne_iff_ne.mpr m1;obtain rfl:=Option.some.inj H
          go_enter Try.func5,Try.ntmps5
          (try go_wp2_with (first|((with_reducible refine gate_callee (f:=25) rfl ?_);refine goesL_ (some 15) rfl rfl Try.func25 zqk rfl #[.slice A0 l0.length c0] rfl zq1 ?_;(with_reducible refine(spec_DrawBehindOf.calls k _ _ l0 a1 a5 a8 a6 a9 _ ?side1 ?side2 A3.out).mono ?_);(case side1=> exact zq99);(case side2=>exact l4.out);rintro e a5x ⟨k3,k4,rfl,f6,f7,hb⟩;refine⟨_,rfl,?_⟩;have a2:=zqm (Kd.S_lower f6 (below_size zq0));have a3:=zqm (Kd.Q_lower f7 (below_size zq0));replace HB:=zqm (below_step zq0 hb);clear hb f6 f7)|((with_reducible refine gate_dst (N:=3) rfl ?_);refine box_event ?hg (N:=3) ?hd (cs:= #[.slice none 0 0,.slice none 0 0]) (t:=30) ?hr ?_;(case hd=>rfl);(case hg=>rfl);(case hr=>first|(go_simp;done)|(go_simp;rfl));intro a4 hg q4 hbox hb;replace a2:=zqm (Kd.S_below zq6 hb);replace a3:=zqm (Kd.Q_below zq20 hb);have f8:=zqm (below_step zq0 hb);have a0:=zqm (hbox);have j4:=zqm ((by rw [hg];exact(below_size zq0):w.heap.size≤a4));have b1:=zqm ((by rw [hg];exact(below_size zq0):w.heap.size≤a4));clear HB;have HB:=f8;clear f8 hb hbox hg;obtain⟨f0,d4,t3⟩:=Kd.S_slice a2.out;subst t3;have a0c:q4.cell? ⟨a4,0,none⟩=some (.slice none 0 0):=(blk_cell a0.out 0).trans rfl;have a0d:q4.cell? ⟨a4,1,none⟩=some (.slice none 0 0):=(blk_cell a0.out 1).trans rfl;have a0e:=blk_frozen a0.out 0;have a0f:=blk_frozen a0.out 1;obtain⟨e0,d5,t4,_⟩:=Kd.Q_slice a3.out;subst t4)|((with_reducible refine gate_callee (f:=26) rfl ?_);refine goesL_ (some 24) rfl rfl Try.func26 zqk rfl #[.agg #[.slice f0 a1.length d4,.slice e0 a5.length d5],.int .i64 a8,.int .i64 a6,.int .i64 a9] rfl zq1 ?_;(with_reducible refine(impl_BehindOf.calls _ _ a1 _ _ a5 a8 a6 a9 a7 _ ?side1 ?side2 ?side3 ?side4 A4.out).mono ?_);(case side1=>refine(Kd.S_reads' (e:=28) (base:=w.heap.size) (ok:=fun k_=>some k_≠(.slice e0 a5.length d5:Value).ownBlock) (n:=a1.length) (c:=d4) ?_).2.2;exact zq260);(case side2=>exact(Kd.S_reads' a2.out).2.1);(case side3=>refine(Kd.Q_reads' (e:=3) (base:=w.heap.size) (ok:=fun k_=>True) (n:=a5.length) (c:=d5) ?_).2.2;exact zq243);(case side4=>exact(Kd.Q_reads' a3.out).2.1);rintro e q5 ⟨rfl,hb⟩;refine⟨_,rfl,?_⟩;replace a2:=zqm (Kd.S_below zq260 hb);replace a3:=zqm (Kd.Q_below zq243 hb);replace a0:=zqm (blk_below (g:=a4) (o:= .cells #[.slice f0 a1.length d4,.slice e0 a5.length d5] 30 (0,0)) (by(with_reducible repeat(first|refine blk_drewN ?_ _|refine blk_drew ?_|refine blk_alloc ?_ _));refine blk_put (cs:= #[.slice f0 a1.length d4,.slice none 0 0]) ?_ 1 _ rfl;(with_reducible repeat(first|refine blk_drewN ?_ _|refine blk_drew ?_|refine blk_alloc ?_ _));refine blk_put (cs:= #[.slice none 0 0,.slice none 0 0]) ?_ 0 _ rfl;(with_reducible repeat(first|refine blk_drewN ?_ _|refine blk_drew ?_|refine blk_alloc ?_ _));exact a0.out) hb);replace HB:=zqm (below_step zq3 hb);clear hb;have a0g:q5.cell? ⟨a4,0,none⟩=some (.slice f0 a1.length d4):=(blk_cell a0.out 0).trans rfl;have a0h:q5.cell? ⟨a4,1,none⟩=some (.slice e0 a5.length d5):=(blk_cell a0.out 1).trans rfl;have a0i:=blk_frozen a0.out 0;have a0j:=blk_frozen a0.out 1)|((with_reducible refine gate_callee (f:=27) rfl ?_);refine goesL_ (some 30) rfl rfl Try.func27 zqk rfl #[.agg #[.slice f0 a1.length d4,.slice e0 a5.length d5],.int .i64 a8,.int .i64 a6,.int .i64 a9] rfl zq1 ?_;(with_reducible refine(spec_BehindOf.calls k _ _ a1 _ _ a5 a8 a6 a9 f3 _ ?side1 ?side2 ?side3 ?side4 A5.out).mono ?_);(case side1=> exact zq5);(case side2=>exact(Kd.S_reads' a2.out).2.1);(case side3=> exact zq14);(case side4=>exact(Kd.Q_reads' a3.out).2.1);rintro e q6 ⟨rfl,hb⟩;refine⟨_,rfl,?_⟩;replace a2:=zqm (Kd.S_below zq6 hb);replace a3:=zqm (Kd.Q_below zq20 hb);replace a0:=zqm (blk_below (g:=a4) (o:= .cells #[.slice f0 a1.length d4,.slice e0 a5.length d5] 30 (0,0)) zq2 hb);replace HB:=zqm (below_step zq3 hb);clear hb;have a0k:q6.cell? ⟨a4,0,none⟩=some (.slice f0 a1.length d4):=(blk_cell a0.out 0).trans rfl;have a0l:q6.cell? ⟨a4,1,none⟩=some (.slice e0 a5.length d5):=(blk_cell a0.out 1).trans rfl;have a0m:=blk_frozen a0.out 0;have a0n:=blk_frozen a0.out 1)|((with_reducible refine gate_callee (f:=22) rfl ?_);refine goesL_ (some 40) rfl rfl Try.func22 zqk rfl #[.agg #[.slice f0 a1.length d4,.slice e0 a5.length d5]] rfl zq1 ?_;(with_reducible refine(spec_KeepsOk.calls k _ _ a1 _ _ a5 true _ ?side1 ?side2 ?side3 ?side4 m6.out).mono ?_);(case side1=> exact zq5);(case side2=>exact(Kd.S_reads' a2.out).2.1);(case side3=> exact zq14);(case side4=>exact(Kd.Q_reads' a3.out).2.1);rintro e q7 ⟨rfl,hb⟩;refine⟨_,rfl,?_⟩;replace a2:=zqm (Kd.S_below zq6 hb);replace a3:=zqm (Kd.Q_below zq20 hb);replace a0:=zqm (blk_below (g:=a4) (o:= .cells #[.slice f0 a1.length d4,.slice e0 a5.length d5] 30 (0,0)) zq2 hb);replace HB:=zqm (below_step zq3 hb);clear hb;have a0o:q7.cell? ⟨a4,0,none⟩=some (.slice f0 a1.length d4):=(blk_cell a0.out 0).trans rfl;have a0p:q7.cell? ⟨a4,1,none⟩=some (.slice e0 a5.length d5):=(blk_cell a0.out 1).trans rfl;have a0q:=blk_frozen a0.out 0;have a0r:=blk_frozen a0.out 1)|((with_reducible refine gate_callee (f:=20) rfl ?_);refine goesL_ (some 54) rfl rfl Try.func20 zqk rfl #[.agg #[.slice f0 a1.length d4,.slice e0 a5.length d5],.int .i64 a8,.int .i64 a9] rfl zq1 ?_;(with_reducible refine(impl_ProjectOf.calls _ _ a1 _ _ a5 a8 a9 b5 _ ?side1 ?side2 ?side3 ?side4 n8.out).mono ?_);(case side1=> exact zq5);(case side2=>exact(Kd.S_reads' a2.out).2.1);(case side3=> exact zq14);(case side4=>exact(Kd.Q_reads' a3.out).2.1);rintro e q8 ⟨rfl,hb⟩;refine⟨_,rfl,?_⟩;replace a2:=zqm (Kd.S_below zq6 hb);replace a3:=zqm (Kd.Q_below zq20 hb);replace a0:=zqm (blk_below (g:=a4) (o:= .cells #[.slice f0 a1.length d4,.slice e0 a5.length d5] 30 (0,0)) zq2 hb);replace HB:=zqm (below_step zq3 hb);clear hb;have a0s:q8.cell? ⟨a4,0,none⟩=some (.slice f0 a1.length d4):=(blk_cell a0.out 0).trans rfl;have a0t:q8.cell? ⟨a4,1,none⟩=some (.slice e0 a5.length d5):=(blk_cell a0.out 1).trans rfl;have a0u:=blk_frozen a0.out 0;have a0v:=blk_frozen a0.out 1)|((with_reducible refine gate_callee (f:=20) rfl ?_);refine goesL_ (some 58) rfl rfl Try.func20 zqk rfl #[.agg #[.slice f0 a1.length d4,.slice e0 a5.length d5],.int .i64 a8,.int .i64 a6] rfl zq1 ?_;(with_reducible refine(impl_ProjectOf.calls _ _ a1 _ _ a5 a8 a6 d1 _ ?side1 ?side2 ?side3 ?side4 l9.out).mono ?_);(case side1=> exact zq5);(case side2=>exact(Kd.S_reads' a2.out).2.1);(case side3=> exact zq14);(case side4=>exact(Kd.Q_reads' a3.out).2.1);rintro e a0w ⟨rfl,hb⟩;refine⟨_,rfl,?_⟩;replace a2:=zqm (Kd.S_below zq6 hb);replace a3:=zqm (Kd.Q_below zq20 hb);replace a0:=zqm (blk_below (g:=a4) (o:= .cells #[.slice f0 a1.length d4,.slice e0 a5.length d5] 30 (0,0)) zq2 hb);replace HB:=zqm (below_step zq3 hb);clear hb)))
          replace a2:=zqm (Kd.S_drew a2.out);replace a3:=zqm (Kd.Q_drew a3.out);replace a0:=zqm (blk_drew a0.out);replace HB:=zqm (below_drew1 HB.out);have e7:0≤(a7:Int):=zqo;have e8:a7<(a1.length:Int):=zqo;obtain⟨b8,l5,h4,k1,b9,d7,d8⟩:=at_L3 (Kd.S_reads' a2.out).2.2 a7 e7 e8
          cases k1
          obtain⟨m0,h5,h6,f2⟩:=Kd.S_get a2.out [] a7 e7 zq350;obtain⟨l1,rfl,c1⟩:=h6;have b6:=f2 0 _ rfl;rw [Nat.add_zero,show ((Kd.slice 3 (Kd.int .i64))).sz=1 from rfl,Nat.mul_one] at b6;replace b6:=Option.some.inj (b6.symm.trans b9);rw [b6] at c1;have b7:=zqm (show Kd.R (Kd.int .i64) 3 _ _ _ _ (rd_L3 a1 a7) from c1);clear b6 c1 f2 h5;have b0:=zqm d8;have l2:=zqm d7;clear d8 d7;replace e7:=eq_true e7;replace e8:=eq_true e8;have g0:0≤(a6:Int):=zqo;have g1:a6<((rd_L3 a1 a7).length:Int):=zqo;obtain⟨g7,k2,d9⟩:=Kd.at_int zq46 a6 g0 g1
          cases k2
          replace g0:=eq_true g0;replace g1:=eq_true g1;refine start_ (n:=46) (S:=fun w'=>w'.cell? ⟨a4,0,none⟩=some (.slice (some b8) a1.length d4)∧w'.cell? ⟨a4,1,none⟩=some (.slice e0 a5.length d5)∧w'.cell? (b8.add (a7).toNat)=some (.slice (some g7) (rd_L3 a1 a7).length h4)∧w'.cell? (g7.add (a6).toNat)=some (.int .i64 (rd (rd_L3 a1 a7) a6))) (ds:= []) (zqb 46 0) zqk rfl rfl ⟨(blk_cell a0.out 0).trans rfl,(blk_cell a0.out 1).trans rfl,b9,d9⟩ (fun hHeld=>?_);refine with_tabW laws_FnBehindOf.tab13 laws_FnBehindOf.bits13 (fun HT_ HW_=>?_);generalize a0w.drew=a5y at a2 a3 a0 HB b7 b0 b9 d9 hHeld ⊢;refine pure_ (i:=0) (N:=some 59) (v:=?_) (a':=?_) (zqb 46 1) rfl rfl (any_of HT_.out zqk) (fun _ _ _ h=>h) (Or.inl ⟨by rfl,?_⟩) ?_ ?_;rotate_left
          ·exact zqt
          rotate_left
          ·exact zqs
          refine pure_ (i:=2) (N:=some 61) (v:=?_) (a':=?_) (zqb 46 5) rfl rfl (any_of HT_.out zqk) (fun _ _ _ h=>h) (Or.inl ⟨by rfl,?_⟩) ?_ ?_;rotate_left
          ·exact zqt
          rotate_left
          ·exact zqs
          refine pure_ (i:=5) (N:=some 64) (v:=?_) (a':=?_) (zqb 46 37) rfl rfl (any_of HT_.out zqk) (fun _ _ _ h=>h) (Or.inl ⟨by rfl,?_⟩) ?_ ?_;rotate_left
          ·exact zqt
          rotate_left
          ·exact zqs
          refine take_ (i:=1) (N:=some 60) (v:=?_) (a':=?_) (zqb 46 39) rfl rfl (take_ofW HT_.out HW_.out zqk) (fun _ _ _ h=>h) (Or.inl ⟨by rfl,?_⟩) hHeld ?_ ?_;rotate_left
          ·rintro w' ⟨s0,s1,s2,s3⟩;go_simp;with_reducible rfl
          rotate_left
          ·exact zqs
          refine pure_ (i:=3) (N:=some 62) (v:=?_) (a':=?_) (zqb 46 47) rfl rfl (any_of HT_.out zqk) (fun _ _ _ h=>h) (Or.inl ⟨by rfl,?_⟩) ?_ ?_;rotate_left
          ·exact zqt
          rotate_left
          ·exact zqs
          refine take_ (i:=4) (N:=some 63) (v:=?_) (a':=?_) (zqb 46 63) rfl rfl (take_ofW HT_.out HW_.out zqk) (fun _ _ _ h=>h) (Or.inl ⟨by rfl,?_⟩) hHeld ?_ ?_;rotate_left
          ·rintro w' ⟨s0,s1,s2,s3⟩;go_simp;with_reducible rfl
          rotate_left
          ·exact zqs
          refine pure_ (i:=6) (N:=some 65) (v:=?_) (a':=?_) (zqb 46 127) rfl rfl (any_of HT_.out zqk) (fun _ _ _ h=>h) (Or.inl ⟨by rfl,?_⟩) ?_ ?_;rotate_left
          ·exact zqt
          rotate_left
          ·exact zqs
          refine take_ (i:=7) (N:=some 66) (v:=?_) (a':=?_) (zqb 46 255) rfl rfl (take_ofW HT_.out HW_.out zqk) (fun _ _ _ h=>h) (Or.inl ⟨by rfl,?_⟩) hHeld ?_ ?_;rotate_left
          ·rintro w' ⟨s0,s1,s2,s3⟩;go_simp;with_reducible rfl
          rotate_left
          ·exact zqs
          refine pure_ (i:=8) (N:=some 67) (v:=?_) (a':=?_) (zqb 46 511) rfl rfl (any_of HT_.out zqk) (fun _ _ _ h=>h) (Or.inl ⟨by rfl,?_⟩) ?_ ?_;rotate_left
          ·exact zqt
          rotate_left
          ·exact zqs
          refine pure_ (i:=9) (N:=some 68) (v:=?_) (a':=?_) (zqb 46 1023) rfl rfl (any_of HT_.out zqk) (fun _ _ _ h=>h) (Or.inl ⟨by rfl,?_⟩) ?_ ?_;rotate_left
          ·exact zqt
          rotate_left
          ·exact zqs
          refine pure_ (i:=10) (N:=some 69) (v:=undef) (a':=?_) (zqb 46 2047) rfl rfl (any_of HT_.out zqk) (fun _ _ _ h=>h) (Or.inr ⟨by rfl,rfl⟩) ?_ ?_;rotate_left
          ·exact zqs
          refine pure_ (i:=11) (N:=some 70) (v:=undef) (a':=?_) (zqb 46 4095) rfl rfl (any_of HT_.out zqk) (fun _ _ _ h=>h) (Or.inr ⟨by rfl,rfl⟩) ?_ ?_;rotate_left
          ·exact zqs
          refine pure_ (i:=12) (N:=some 71) (v:=undef) (a':=?_) (zqb 46 8191) rfl rfl (any_of HT_.out zqk) (fun _ _ _ h=>h) (Or.inr ⟨by rfl,rfl⟩) ?_ ?_;rotate_left
          ·exact zqs
          refine pure_ (i:=13) (N:=some 72) (v:=undef) (a':=?_) (zqb 46 16383) rfl rfl (any_of HT_.out zqk) (fun _ _ _ h=>h) (Or.inr ⟨by rfl,rfl⟩) ?_ ?_;rotate_left
          ·exact zqs
          refine pure_ (i:=14) (N:=some 73) (v:=undef) (a':=?_) (zqb 46 32767) rfl rfl (any_of HT_.out zqk) (fun _ _ _ h=>h) (Or.inr ⟨by rfl,rfl⟩) ?_ ?_;rotate_left
          ·exact zqs
          refine pure_ (i:=15) (N:=some 74) (v:=undef) (a':=?_) (zqb 46 65535) rfl rfl (any_of HT_.out zqk) (fun _ _ _ h=>h) (Or.inr ⟨by rfl,rfl⟩) ?_ ?_;rotate_left
          ·exact zqs
          refine pure_ (i:=16) (N:=some 75) (v:=undef) (a':=?_) (zqb 46 131071) rfl rfl (any_of HT_.out zqk) (fun _ _ _ h=>h) (Or.inr ⟨by rfl,rfl⟩) ?_ ?_;rotate_left
          ·exact zqs
          refine pure_ (i:=17) (N:=some 76) (v:=undef) (a':=?_) (zqb 46 262143) rfl rfl (any_of HT_.out zqk) (fun _ _ _ h=>h) (Or.inr ⟨by rfl,rfl⟩) ?_ ?_;rotate_left
          ·exact zqs
          refine pure_ (i:=18) (N:=some 77) (v:=undef) (a':=?_) (zqb 46 524287) rfl rfl (any_of HT_.out zqk) (fun _ _ _ h=>h) (Or.inr ⟨by rfl,rfl⟩) ?_ ?_;rotate_left
          ·exact zqs
          refine pure_ (i:=19) (N:=some 78) (v:=?_) (a':=?_) (zqb 46 1048575) rfl rfl (any_of HT_.out zqk) (fun _ _ _ h=>h) (Or.inl ⟨by rfl,?_⟩) ?_ ?_;rotate_left
          ·exact zqt
          rotate_left
          ·exact zqs
          refine pure_ (i:=20) (N:=some 79) (v:=?_) (a':=?_) (zqb 46 2097151) rfl rfl (any_of HT_.out zqk) (fun _ _ _ h=>h) (Or.inl ⟨by rfl,?_⟩) ?_ ?_;rotate_left
          ·exact zqt
          rotate_left
          ·exact zqs
          refine pure_ (i:=21) (N:=some 80) (v:=undef) (a':=?_) (zqb 46 4194303) rfl rfl (any_of HT_.out zqk) (fun _ _ _ h=>h) (Or.inr ⟨by rfl,rfl⟩) ?_ ?_;rotate_left
          ·exact zqs
          refine pure_ (i:=22) (N:=some 81) (v:=undef) (a':=?_) (zqb 46 8388607) rfl rfl (any_of HT_.out zqk) (fun _ _ _ h=>h) (Or.inr ⟨by rfl,rfl⟩) ?_ ?_;rotate_left
          ·exact zqs
          refine pure_ (i:=23) (N:=some 82) (v:=undef) (a':=?_) (zqb 46 16777215) rfl rfl (any_of HT_.out zqk) (fun _ _ _ h=>h) (Or.inr ⟨by rfl,rfl⟩) ?_ ?_;rotate_left
          ·exact zqs
          refine pure_ (i:=24) (N:=some 83) (v:=undef) (a':=?_) (zqb 46 33554431) rfl rfl (any_of HT_.out zqk) (fun _ _ _ h=>h) (Or.inr ⟨by rfl,rfl⟩) ?_ ?_;rotate_left
          ·exact zqs
          refine pure_ (i:=25) (N:=some 84) (v:=undef) (a':=?_) (zqb 46 67108863) rfl rfl (any_of HT_.out zqk) (fun _ _ _ h=>h) (Or.inr ⟨by rfl,rfl⟩) ?_ ?_;rotate_left
          ·exact zqs
          refine pure_ (i:=26) (N:=some 85) (v:=undef) (a':=?_) (zqb 46 134217727) rfl rfl (any_of HT_.out zqk) (fun _ _ _ h=>h) (Or.inr ⟨by rfl,rfl⟩) ?_ ?_;rotate_left
          ·exact zqs
          refine pure_ (i:=27) (N:=some 86) (v:=undef) (a':=?_) (zqb 46 268435455) rfl rfl (any_of HT_.out zqk) (fun _ _ _ h=>h) (Or.inr ⟨by rfl,rfl⟩) ?_ ?_;rotate_left
          ·exact zqs
          refine pure_ (i:=28) (N:=some 87) (v:=undef) (a':=?_) (zqb 46 536870911) rfl rfl (any_of HT_.out zqk) (fun _ _ _ h=>h) (Or.inr ⟨by rfl,rfl⟩) ?_ ?_;rotate_left
          ·exact zqs
          refine pure_ (i:=29) (N:=some 88) (v:=undef) (a':=?_) (zqb 46 1073741823) rfl rfl (any_of HT_.out zqk) (fun _ _ _ h=>h) (Or.inr ⟨by rfl,rfl⟩) ?_ ?_;rotate_left
          ·exact zqs
          refine pure_ (i:=30) (N:=some 89) (v:=undef) (a':=?_) (zqb 46 2147483647) rfl rfl (any_of HT_.out zqk) (fun _ _ _ h=>h) (Or.inr ⟨by rfl,rfl⟩) ?_ ?_;rotate_left
          ·exact zqs
          refine pure_ (i:=31) (N:=some 90) (v:=undef) (a':=?_) (zqb 46 4294967295) rfl rfl (any_of HT_.out zqk) (fun _ _ _ h=>h) (Or.inr ⟨by rfl,rfl⟩) ?_ ?_;rotate_left
          ·exact zqs
          refine pure_ (i:=32) (N:=some 91) (v:=undef) (a':=?_) (zqb 46 8589934591) rfl rfl (any_of HT_.out zqk) (fun _ _ _ h=>h) (Or.inr ⟨by rfl,rfl⟩) ?_ ?_;rotate_left
          ·exact zqs
          refine pure_ (i:=33) (N:=some 92) (v:=undef) (a':=?_) (zqb 46 17179869183) rfl rfl (any_of HT_.out zqk) (fun _ _ _ h=>h) (Or.inr ⟨by rfl,rfl⟩) ?_ ?_;rotate_left
          ·exact zqs
          refine pure_ (i:=34) (N:=some 93) (v:=undef) (a':=?_) (zqb 46 34359738367) rfl rfl (any_of HT_.out zqk) (fun _ _ _ h=>h) (Or.inr ⟨by rfl,rfl⟩) ?_ ?_;rotate_left
          ·exact zqs
          refine pure_ (i:=35) (N:=some 94) (v:=undef) (a':=?_) (zqb 46 68719476735) rfl rfl (any_of HT_.out zqk) (fun _ _ _ h=>h) (Or.inr ⟨by rfl,rfl⟩) ?_ ?_;rotate_left
          ·exact zqs
          refine pure_ (i:=36) (N:=some 95) (v:=undef) (a':=?_) (zqb 46 137438953471) rfl rfl (any_of HT_.out zqk) (fun _ _ _ h=>h) (Or.inr ⟨by rfl,rfl⟩) ?_ ?_;rotate_left
          ·exact zqs
          refine pure_ (i:=37) (N:=some 96) (v:=undef) (a':=?_) (zqb 46 274877906943) rfl rfl (any_of HT_.out zqk) (fun _ _ _ h=>h) (Or.inr ⟨by rfl,rfl⟩) ?_ ?_;rotate_left
          ·exact zqs
          refine pure_ (i:=38) (N:=some 97) (v:=undef) (a':=?_) (zqb 46 549755813887) rfl rfl (any_of HT_.out zqk) (fun _ _ _ h=>h) (Or.inr ⟨by rfl,rfl⟩) ?_ ?_;rotate_left
          ·exact zqs
          refine pure_ (i:=39) (N:=some 98) (v:=undef) (a':=?_) (zqb 46 1099511627775) rfl rfl (any_of HT_.out zqk) (fun _ _ _ h=>h) (Or.inr ⟨by rfl,rfl⟩) ?_ ?_;rotate_left
          ·exact zqs
          refine pure_ (i:=40) (N:=some 99) (v:=undef) (a':=?_) (zqb 46 2199023255551) rfl rfl (any_of HT_.out zqk) (fun _ _ _ h=>h) (Or.inr ⟨by rfl,rfl⟩) ?_ ?_;rotate_left
          ·exact zqs
          refine pure_ (i:=41) (N:=some 100) (v:=undef) (a':=?_) (zqb 46 4398046511103) rfl rfl (any_of HT_.out zqk) (fun _ _ _ h=>h) (Or.inr ⟨by rfl,rfl⟩) ?_ ?_;rotate_left
          ·exact zqs
          refine pure_ (i:=42) (N:=some 101) (v:=undef) (a':=?_) (zqb 46 8796093022207) rfl rfl (any_of HT_.out zqk) (fun _ _ _ h=>h) (Or.inr ⟨by rfl,rfl⟩) ?_ ?_;rotate_left
          ·exact zqs
          refine pure_ (i:=43) (N:=some 102) (v:=undef) (a':=?_) (zqb 46 17592186044415) rfl rfl (any_of HT_.out zqk) (fun _ _ _ h=>h) (Or.inr ⟨by rfl,rfl⟩) ?_ ?_;rotate_left
          ·exact zqs
          refine pure_ (i:=44) (N:=some 103) (v:=?_) (a':=?_) (zqb 46 35184372088831) rfl rfl (any_of HT_.out zqk) (fun _ _ _ h=>h) (Or.inl ⟨by rfl,?_⟩) ?_ ?_;rotate_left
          ·exact zqt
          rotate_left
          ·exact zqs
          refine pure_ (i:=45) (N:=some 2) (v:=?_) (a':=?_) (zqb 46 70368744177663) rfl rfl (any_of HT_.out zqk) (fun _ _ _ h=>h) (Or.inl ⟨by rfl,?_⟩) ?_ ?_;rotate_left
          ·exact zqt
          rotate_left
          ·exact zqs
          refine done_ (done_of HT_.out zqk) ?_;try go_wp2
          go_ret
          exact⟨zq11,zq3⟩
        ·rw [if_neg o6] at H;exact absurd H (by simp)
       ·rw [if_neg o5] at H;exact absurd H (by simp)
      ·rw [if_neg o4] at H;exact absurd H (by simp)
     ·rw [if_neg o3] at H;exact absurd H (by simp)
    ·replace o2:=Bool.eq_false_iff.mpr o2;subst o2;(have H1:(if 0≤a7 then(if a7<(a1.length:Int) then(if 0≤a6 then(if a6<((rd_L3 a1 a7).length:Int) then(some ((rd (rd_L3 a1 a7) a6)==1)) else(none)) else(none)) else(none)) else(none))=some r:=by rw [if_neg (show¬(false=true) by decide)] at H;exact H);clear H;have H:=H1;clear H1
     by_cases n2:0≤a7
     ·rw [if_pos n2] at H;have a5d:decide (0≤a7)=true:=decide_eq_true n2;clear n2
      by_cases n3:a7<(a1.length:Int)
      ·rw [if_pos n3] at H;have a5e:decide (a7<(a1.length:Int))=true:=decide_eq_true n3;clear n3
       by_cases n4:0≤a6
       ·rw [if_pos n4] at H;have a5f:decide (0≤a6)=true:=decide_eq_true n4;clear n4
        by_cases n5:a6<((rd_L3 a1 a7).length:Int)
        ·rw [if_pos n5] at H;have a5g:decide (a6<((rd_L3 a1 a7).length:Int))=true:=decide_eq_true n5;clear n5;obtain rfl:=Option.some.inj H
         go_enter Try.func5,Try.ntmps5
         go_wp2_with (first|((with_reducible refine gate_callee (f:=25) rfl ?_);refine goesL_ (some 15) rfl rfl Try.func25 zqk rfl #[.slice A0 l0.length c0] rfl zq1 ?_;(with_reducible refine(spec_DrawBehindOf.calls k _ _ l0 a1 a5 a8 a6 a9 _ ?side1 ?side2 A3.out).mono ?_);(case side1=> exact zq99);(case side2=>exact l4.out);rintro e a5z ⟨k3,k4,rfl,f6,f7,hb⟩;refine⟨_,rfl,?_⟩;have a2:=zqm (Kd.S_lower f6 (below_size zq0));have a3:=zqm (Kd.Q_lower f7 (below_size zq0));replace HB:=zqm (below_step zq0 hb);clear hb f6 f7)|((with_reducible refine gate_dst (N:=3) rfl ?_);refine box_event ?hg (N:=3) ?hd (cs:= #[.slice none 0 0,.slice none 0 0]) (t:=30) ?hr ?_;(case hd=>rfl);(case hg=>rfl);(case hr=>first|(go_simp;done)|(go_simp;rfl));intro a4 hg q9 hbox hb;replace a2:=zqm (Kd.S_below zq6 hb);replace a3:=zqm (Kd.Q_below zq20 hb);have f8:=zqm (below_step zq0 hb);have a0:=zqm (hbox);have j4:=zqm ((by rw [hg];exact(below_size zq0):w.heap.size≤a4));have b1:=zqm ((by rw [hg];exact(below_size zq0):w.heap.size≤a4));clear HB;have HB:=f8;clear f8 hb hbox hg;obtain⟨g8,g5,t5⟩:=Kd.S_slice a2.out;subst t5;have a0x:q9.cell? ⟨a4,0,none⟩=some (.slice none 0 0):=(blk_cell a0.out 0).trans rfl;have a0y:q9.cell? ⟨a4,1,none⟩=some (.slice none 0 0):=(blk_cell a0.out 1).trans rfl;have a0z:=blk_frozen a0.out 0;have a1a:=blk_frozen a0.out 1;obtain⟨g9,g6,t6,_⟩:=Kd.Q_slice a3.out;subst t6)|((with_reducible refine gate_callee (f:=26) rfl ?_);refine goesL_ (some 24) rfl rfl Try.func26 zqk rfl #[.agg #[.slice g8 a1.length g5,.slice g9 a5.length g6],.int .i64 a8,.int .i64 a6,.int .i64 a9] rfl zq1 ?_;(with_reducible refine(impl_BehindOf.calls _ _ a1 _ _ a5 a8 a6 a9 a7 _ ?side1 ?side2 ?side3 ?side4 A4.out).mono ?_);(case side1=>refine(Kd.S_reads' (e:=28) (base:=w.heap.size) (ok:=fun k_=>some k_≠(.slice g9 a5.length g6:Value).ownBlock) (n:=a1.length) (c:=g5) ?_).2.2;exact zq201);(case side2=>exact(Kd.S_reads' a2.out).2.1);(case side3=>refine(Kd.Q_reads' (e:=3) (base:=w.heap.size) (ok:=fun k_=>True) (n:=a5.length) (c:=g6) ?_).2.2;exact zq224);(case side4=>exact(Kd.Q_reads' a3.out).2.1);rintro e r0 ⟨rfl,hb⟩;refine⟨_,rfl,?_⟩;replace a2:=zqm (Kd.S_below zq201 hb);replace a3:=zqm (Kd.Q_below zq224 hb);replace a0:=zqm (blk_below (g:=a4) (o:= .cells #[.slice g8 a1.length g5,.slice g9 a5.length g6] 30 (0,0)) (by(with_reducible repeat(first|refine blk_drewN ?_ _|refine blk_drew ?_|refine blk_alloc ?_ _));refine blk_put (cs:= #[.slice g8 a1.length g5,.slice none 0 0]) ?_ 1 _ rfl;(with_reducible repeat(first|refine blk_drewN ?_ _|refine blk_drew ?_|refine blk_alloc ?_ _));refine blk_put (cs:= #[.slice none 0 0,.slice none 0 0]) ?_ 0 _ rfl;(with_reducible repeat(first|refine blk_drewN ?_ _|refine blk_drew ?_|refine blk_alloc ?_ _));exact a0.out) hb);replace HB:=zqm (below_step zq3 hb);clear hb;have a1b:r0.cell? ⟨a4,0,none⟩=some (.slice g8 a1.length g5):=(blk_cell a0.out 0).trans rfl;have a1c:r0.cell? ⟨a4,1,none⟩=some (.slice g9 a5.length g6):=(blk_cell a0.out 1).trans rfl;have a1d:=blk_frozen a0.out 0;have a1e:=blk_frozen a0.out 1)|((with_reducible refine gate_callee (f:=27) rfl ?_);refine goesL_ (some 30) rfl rfl Try.func27 zqk rfl #[.agg #[.slice g8 a1.length g5,.slice g9 a5.length g6],.int .i64 a8,.int .i64 a6,.int .i64 a9] rfl zq1 ?_;(with_reducible refine(spec_BehindOf.calls k _ _ a1 _ _ a5 a8 a6 a9 f3 _ ?side1 ?side2 ?side3 ?side4 A5.out).mono ?_);(case side1=> exact zq5);(case side2=>exact(Kd.S_reads' a2.out).2.1);(case side3=> exact zq14);(case side4=>exact(Kd.Q_reads' a3.out).2.1);rintro e r1 ⟨rfl,hb⟩;refine⟨_,rfl,?_⟩;replace a2:=zqm (Kd.S_below zq6 hb);replace a3:=zqm (Kd.Q_below zq20 hb);replace a0:=zqm (blk_below (g:=a4) (o:= .cells #[.slice g8 a1.length g5,.slice g9 a5.length g6] 30 (0,0)) zq2 hb);replace HB:=zqm (below_step zq3 hb);clear hb;have a1f:r1.cell? ⟨a4,0,none⟩=some (.slice g8 a1.length g5):=(blk_cell a0.out 0).trans rfl;have a1g:r1.cell? ⟨a4,1,none⟩=some (.slice g9 a5.length g6):=(blk_cell a0.out 1).trans rfl;have a1h:=blk_frozen a0.out 0;have a1i:=blk_frozen a0.out 1)|((with_reducible refine gate_callee (f:=22) rfl ?_);refine goesL_ (some 40) rfl rfl Try.func22 zqk rfl #[.agg #[.slice g8 a1.length g5,.slice g9 a5.length g6]] rfl zq1 ?_;(with_reducible refine(spec_KeepsOk.calls k _ _ a1 _ _ a5 false _ ?side1 ?side2 ?side3 ?side4 m6.out).mono ?_);(case side1=> exact zq5);(case side2=>exact(Kd.S_reads' a2.out).2.1);(case side3=> exact zq14);(case side4=>exact(Kd.Q_reads' a3.out).2.1);rintro e r2 ⟨rfl,hb⟩;refine⟨_,rfl,?_⟩;replace a2:=zqm (Kd.S_below zq6 hb);replace a3:=zqm (Kd.Q_below zq20 hb);replace a0:=zqm (blk_below (g:=a4) (o:= .cells #[.slice g8 a1.length g5,.slice g9 a5.length g6] 30 (0,0)) zq2 hb);replace HB:=zqm (below_step zq3 hb);clear hb;have a1j:r2.cell? ⟨a4,0,none⟩=some (.slice g8 a1.length g5):=(blk_cell a0.out 0).trans rfl;have a1k:r2.cell? ⟨a4,1,none⟩=some (.slice g9 a5.length g6):=(blk_cell a0.out 1).trans rfl;have a1l:=blk_frozen a0.out 0;have a1m:=blk_frozen a0.out 1;have n6:0≤(a7:Int):=zqo;have n7:a7<(a1.length:Int):=zqo;obtain⟨a5r,a5h,a5i,a1n,p3,m9,n0⟩:=at_L3 (Kd.S_reads' a2.out).2.2 a7 n6 n7;cases a1n;obtain⟨a5s,r3,r4,n9⟩:=Kd.S_get a2.out [] a7 n6 (by first|exact n7|exact zqo|(have e_:=(Kd.S_reads' a2.out).1;omega));obtain⟨a4v,rfl,l8⟩:=r4;have k0:=n9 0 _ rfl;rw [Nat.add_zero,show ((Kd.slice 3 (Kd.int .i64))).sz=1 from rfl,Nat.mul_one] at k0;replace k0:=Option.some.inj (k0.symm.trans p3);rw [k0] at l8;have a4w:=zqm (show Kd.R (Kd.int .i64) 3 _ _ _ _ (rd_L3 a1 a7) from l8);clear k0 l8 n9 r3;have n1:=zqm n0;have a4x:=zqm m9;clear n0 m9;replace n6:=eq_true n6;replace n7:=eq_true n7;have o0:0≤(a6:Int):=zqo;have o1:a6<((rd_L3 a1 a7).length:Int):=zqo;obtain⟨a5t,a1o,a4y⟩:=Kd.at_int (by repeat(first|(with_reducible exact n1.out)|(with_reducible refine Kd.C_alloc ?_ _)|(with_reducible refine Kd.C_drewN ?_ _)|(with_reducible refine Kd.C_drew ?_)|exact n1.out)) a6 o0 o1;cases a1o;replace o0:=eq_true o0;replace o1:=eq_true o1))
         go_ret
         exact⟨zq11,zq3⟩
        ·rw [if_neg n5] at H;exact absurd H (by simp)
       ·rw [if_neg n4] at H;exact absurd H (by simp)
      ·rw [if_neg n3] at H;exact absurd H (by simp)
     ·rw [if_neg n2] at H;exact absurd H (by simp)
  ·rw [if_neg c6] at H;have w5:(a7==f3)=false:=beq_eq_false_iff_ne.mpr c6;have w6:(a7 !=f3)=true:=bne_iff_ne.mpr c6;obtain rfl:=Option.some.inj H
   go_enter Try.func5,Try.ntmps5
   go_wp2_with (first|((with_reducible refine gate_callee (f:=25) rfl ?_);refine goesL_ (some 15) rfl rfl Try.func25 zqk rfl #[.slice A0 l0.length c0] rfl zq1 ?_;(with_reducible refine(spec_DrawBehindOf.calls k _ _ l0 a1 a5 a8 a6 a9 _ ?side1 ?side2 A3.out).mono ?_);(case side1=> exact zq99);(case side2=>exact l4.out);rintro e a6a ⟨k3,k4,rfl,f6,f7,hb⟩;refine⟨_,rfl,?_⟩;have a2:=zqm (Kd.S_lower f6 (below_size zq0));have a3:=zqm (Kd.Q_lower f7 (below_size zq0));replace HB:=zqm (below_step zq0 hb);clear hb f6 f7)|((with_reducible refine gate_dst (N:=3) rfl ?_);refine box_event ?hg (N:=3) ?hd (cs:= #[.slice none 0 0,.slice none 0 0]) (t:=30) ?hr ?_;(case hd=>rfl);(case hg=>rfl);(case hr=>first|(go_simp;done)|(go_simp;rfl));intro a4 hg r5 hbox hb;replace a2:=zqm (Kd.S_below zq6 hb);replace a3:=zqm (Kd.Q_below zq20 hb);have f8:=zqm (below_step zq0 hb);have a0:=zqm (hbox);have j4:=zqm ((by rw [hg];exact(below_size zq0):w.heap.size≤a4));have b1:=zqm ((by rw [hg];exact(below_size zq0):w.heap.size≤a4));clear HB;have HB:=f8;clear f8 hb hbox hg;obtain⟨i3,h9,t7⟩:=Kd.S_slice a2.out;subst t7;have a1p:r5.cell? ⟨a4,0,none⟩=some (.slice none 0 0):=(blk_cell a0.out 0).trans rfl;have a1q:r5.cell? ⟨a4,1,none⟩=some (.slice none 0 0):=(blk_cell a0.out 1).trans rfl;have a1r:=blk_frozen a0.out 0;have a1s:=blk_frozen a0.out 1;obtain⟨i4,i0,t8,_⟩:=Kd.Q_slice a3.out;subst t8)|((with_reducible refine gate_callee (f:=26) rfl ?_);refine goesL_ (some 24) rfl rfl Try.func26 zqk rfl #[.agg #[.slice i3 a1.length h9,.slice i4 a5.length i0],.int .i64 a8,.int .i64 a6,.int .i64 a9] rfl zq1 ?_;(with_reducible refine(impl_BehindOf.calls _ _ a1 _ _ a5 a8 a6 a9 a7 _ ?side1 ?side2 ?side3 ?side4 A4.out).mono ?_);(case side1=>refine(Kd.S_reads' (e:=28) (base:=w.heap.size) (ok:=fun k_=>some k_≠(.slice i4 a5.length i0:Value).ownBlock) (n:=a1.length) (c:=h9) ?_).2.2;exact zq215);(case side2=>exact(Kd.S_reads' a2.out).2.1);(case side3=>refine(Kd.Q_reads' (e:=3) (base:=w.heap.size) (ok:=fun k_=>True) (n:=a5.length) (c:=i0) ?_).2.2;exact zq266);(case side4=>exact(Kd.Q_reads' a3.out).2.1);rintro e r6 ⟨rfl,hb⟩;refine⟨_,rfl,?_⟩;replace a2:=zqm (Kd.S_below zq215 hb);replace a3:=zqm (Kd.Q_below zq266 hb);replace a0:=zqm (blk_below (g:=a4) (o:= .cells #[.slice i3 a1.length h9,.slice i4 a5.length i0] 30 (0,0)) (by(with_reducible repeat(first|refine blk_drewN ?_ _|refine blk_drew ?_|refine blk_alloc ?_ _));refine blk_put (cs:= #[.slice i3 a1.length h9,.slice none 0 0]) ?_ 1 _ rfl;(with_reducible repeat(first|refine blk_drewN ?_ _|refine blk_drew ?_|refine blk_alloc ?_ _));refine blk_put (cs:= #[.slice none 0 0,.slice none 0 0]) ?_ 0 _ rfl;(with_reducible repeat(first|refine blk_drewN ?_ _|refine blk_drew ?_|refine blk_alloc ?_ _));exact a0.out) hb);replace HB:=zqm (below_step zq3 hb);clear hb;have a1t:r6.cell? ⟨a4,0,none⟩=some (.slice i3 a1.length h9):=(blk_cell a0.out 0).trans rfl;have a1u:r6.cell? ⟨a4,1,none⟩=some (.slice i4 a5.length i0):=(blk_cell a0.out 1).trans rfl;have a1v:=blk_frozen a0.out 0;have a1w:=blk_frozen a0.out 1)|((with_reducible refine gate_callee (f:=27) rfl ?_);refine goesL_ (some 30) rfl rfl Try.func27 zqk rfl #[.agg #[.slice i3 a1.length h9,.slice i4 a5.length i0],.int .i64 a8,.int .i64 a6,.int .i64 a9] rfl zq1 ?_;(with_reducible refine(spec_BehindOf.calls k _ _ a1 _ _ a5 a8 a6 a9 f3 _ ?side1 ?side2 ?side3 ?side4 A5.out).mono ?_);(case side1=> exact zq5);(case side2=>exact(Kd.S_reads' a2.out).2.1);(case side3=> exact zq14);(case side4=>exact(Kd.Q_reads' a3.out).2.1);rintro e a6b ⟨rfl,hb⟩;refine⟨_,rfl,?_⟩;replace a2:=zqm (Kd.S_below zq6 hb);replace a3:=zqm (Kd.Q_below zq20 hb);replace a0:=zqm (blk_below (g:=a4) (o:= .cells #[.slice i3 a1.length h9,.slice i4 a5.length i0] 30 (0,0)) zq2 hb);replace HB:=zqm (below_step zq3 hb);clear hb))
   go_ret
   exact⟨zq11,zq3⟩
def laws_FnBehindOf.Pure : Prop := ∀ (l0 : List Int), l0.length ≤ maxLen → l0.length * 1 ≤ 140737488351232 → (∀ x ∈ l0, (Lit.int .u8 x).wf = true) → ∃ k, laws_FnBehindOf.f k l0 = some true
theorem laws_FnBehindOf.walk (P : laws_FnBehindOf.Pure) (a0 : Option Addr) (len0 cap0 : Nat) (z0 : List Int) (w : World) (w0 : (a0 = none ∧ len0 = 0 ∧ cap0 = 0 ∧ z0 = []) ∨ ∃ x, a0 = some x ∧ len0 ≤ cap0 ∧ cap0 ≤ maxLen ∧ z0.length = cap0 ∧ (∀ i, i < z0.length → w.cell? (x.add i) = some (.int .u8 (z0.getD i 0))) ∧ ∀ n ∈ z0, (Lit.int .u8 n).wf = true) (y0 : len0 * 1 ≤ 140737488351232) :
  Calls Try.prog 5 #[.slice a0 len0 cap0] w fun e w' => e = .returned (.bool true) ∧ Below w.heap.size w w' := by
 obtain ⟨l0, rfl, hr0, hm0, hw0, hc0⟩ := ReadsInt.ofRowC w0
 obtain ⟨k, h⟩ := P l0 hm0 y0 hw0
 refine (laws_FnBehindOf.calls k _ _ l0 true w (Kd.C_of_reads (d := (0 : Int)) (h1 := fun _ => rfl) hr0) hc0 h).mono ?_
 rintro e w' ⟨rfl, hd⟩
 exact ⟨rfl, hd⟩
end Go.Proofs.Ytdoomkcgdcfmlaa.Print
end
section
namespace Go.Proofs.Ytdoomkcgdcfmlaa.Print
open Go.RowKit Go.Proofs.YtdoomkcgdcfmlaaW.PrintWords Go.Proofs.YtdoomkcgdcfmlaaW.PrintLast Go.Proofs.YtdoomkcgdcfmlaaW.PrintMore
open Oml
theorem spec_BehindOf.ev (U : List (List Int)) (N : List Int) (a b c : Int) : Ev (fun k => spec_BehindOf.f k U N a b c) (if logicB U N = true then (if [a, b, c].all (inR U.length) = true then (andI U b (orI U (notI N b) (andI U a (orI U (notI N a) c)))) else (-1)) else (-1)) := by
  unfold spec_BehindOf.f
  refine Ev.bind (spec_ProjectOf.ev U N a c) (Ev.bind (spec_ProjectOf.ev U N b _) (Ev.eq (Ev.now _) ?_))
  cases hl:logicB U N with
  |false=>simp
  | true =>
    have L:=logicB_iff.1 hl
    have neg:inR U.length (-1)=false:=by simp [inR]
    simp only [if_true,List.all_cons,List.all_nil,Bool.and_true]
    cases ha:inR U.length a with
    |false=>simp [neg]
    | true =>
      cases hb:inR U.length b with
      |false=>simp
      | true =>
        cases hc:inR U.length c with
        |false=>simp [neg]
        | true =>
          have:=inR_iff.2 (L.in_and (inR_iff.1 ha) (L.in_or (L.in_not (inR_iff.1 ha)) (inR_iff.1 hc)))
          simp [this]
theorem three_ev {b : List Int} (hb : Bytes b) (hl : b.length ≤ 2000) {p : Int} (h0 : 0 ≤ p) (h1 : p ≤ 999998000) (n : Int) : ∃ V M x y z q, Ev (fun k => spec_l20Three.f k b p n) (V, M, x, y, z, q) := by
  obtain⟨V,M,x,y,q,h,k1,k2⟩:=two_ev hb hl h0 (by omega) n
  obtain⟨v,e,_,_⟩:=pick_ev hb hl (p:=q) (by omega) (by omega) (mx (M.length:Int) 1)
  exact⟨V,M,x,y,v,q+1,Ev.bind h (Ev.bind e (Ev.now _))⟩
end Go.Proofs.Ytdoomkcgdcfmlaa.Print
end
section
namespace Go.Proofs.Ytdoomkcgdcfmlaa.Print
open Go.RowKit Go.Proofs.YtdoomkcgdcfmlaaW.PrintWords Go.Proofs.YtdoomkcgdcfmlaaW.PrintLast Go.Proofs.YtdoomkcgdcfmlaaW.PrintMore
open Oml
theorem drawBehindOf_ev {l : List Int} (h : Bytes l) : ∃ V M x y z, Ev (fun k => spec_DrawBehindOf.f k l) (V, M, x, y, z) := by
  obtain⟨b,hb,hbl,ho⟩:=open_ev h
  obtain⟨V,M,x,y,z,q,hd⟩:=three_ev hb hbl (p:=0) (by omega) (by omega) 14
  exact⟨V,M,x,y,z,by unfold spec_DrawBehindOf.f;exact Ev.pbind ho (Ev.bind hd (Ev.now _))⟩
theorem laws_FnBehindOf.ev (l : List Int) (h : Bytes l) : Ev (fun k => laws_FnBehindOf.f k l) true := by
  unfold laws_FnBehindOf.f
  by_cases hl:(l.length:Int)>1048576
  · exact Ev.ite_pos hl (Ev.now _)
  refine Ev.ite_neg hl ?_
  obtain⟨V,M,a,b,c,hd⟩:=drawBehindOf_ev h
  refine Ev.bind hd (Ev.pbind rfl (Ev.bind (spec_BehindOf.ev V M a b c) ?_))
  dsimp only
  refine Ev.ite_pos rfl ?_
  cases hg:logicB V M with
  |false=>exact Ev.ite_pos (by simp) (Ev.ite_pos (by simp) (Ev.bind alive_ok (Ev.now _)))
  |true=>
  have L:=logicB_iff.1 hg
  cases hin: [a,b,c].all (inR V.length) with
  |false=>exact Ev.ite_pos (by simp) (Ev.ite_pos (by simp) (Ev.bind alive_ok (Ev.now _)))
  |true=>
  simp only [List.all_cons,List.all_nil,Bool.and_true,Bool.and_eq_true,inR_iff] at hin
  obtain⟨x,rfl⟩:=fin_of hin.1
  obtain⟨y,rfl⟩:=fin_of hin.2.1
  obtain⟨z,rfl⟩:=fin_of hin.2.2
  have h1:=inR_three x y z
  have h2:=inR_three y x z
  have h3:=inR_two x z
  have h4:=inR_two x y
  have h5:=inR_two (L.ol.proj x z) y
  have h6:=inR_two (L.ol.proj x y) z
  have hx:=x.2
  have hy:=y.2
  have hn:=(L.ol.proj y (L.ol.proj x z)).2
  have r1:=L.row _ hn
  have r2:=L.row _ hx
  simp only [if_true,proj_fin L,impl_BehindOf.f,impl_ProjectOf.f,hg,h1,h2,h3,h4,rdL_nat,rd_nat,rd_row,r1,r2]
  refine Ev.ite_neg (by omega) (Ev.bind (spec_KeepsOk.ev V M) ?_)
  rw [if_pos hg]
  have hle:=(at2_fin L _ _).1.2 (OL.proj_le y (L.ol.proj x z))
  cases hk:keepB V M with
  | false =>
    refine Ev.ite_neg (by simp) (Ev.ite_pos (by omega) (Ev.ite_pos (by omega) (Ev.ite_pos (by omega) (Ev.ite_pos (by omega) ?_))))
    rw [hle]
    exact Ev.now _
  | true =>
    have K:=(keepB_iff L).1 hk
    refine Ev.ite_pos rfl (Ev.pbind rfl (Ev.pbind rfl (Ev.ite_pos (by omega) (Ev.ite_pos (by omega) (Ev.ite_pos (by omega) (Ev.ite_pos (by omega) (Ev.ite_pos hle ?_)))))))
    simp only [impl_ApartOk.f,hg,h5,h6,if_true,not_fin L,Int.toNat_natCast]
    refine Ev.pbind rfl (Ev.pbind rfl (Ev.ite_pos ?_ (Ev.ite_pos (by omega) (Ev.ite_pos (by omega) (Ev.ite_pos (by omega) ?_)))))
    · rw [beq_iff_eq, Bool.eq_iff_iff, beq_iff_eq, beq_iff_eq, (at2_fin L _ _).1, (at2_fin L _ _).1]
      exact K.proj_apart x y z
    by_cases hxy:L.ol.le x y
    · refine Ev.ite_neg (fun e => (at2_fin L x y).2.1 e hxy) (Ev.ite_pos ?_ (Ev.pbind rfl ?_))
      · rw [(K.proj_proj hxy z).1]
      · rw [(K.proj_proj hxy z).2,beq_self_eq_true];exact Ev.now _
    · exact Ev.ite_pos ((at2_fin L x y).2.2 hxy) (Ev.now _)
end Go.Proofs.Ytdoomkcgdcfmlaa.Print
namespace Go.Proofs.Ytdoomkcgdcfmlaa.Pure
open Go.RowKit Go.Proofs.Ytdoomkcgdcfmlaa.Print Go.Proofs.YtdoomkcgdcfmlaaW.PrintWords Go.Proofs.YtdoomkcgdcfmlaaW.PrintLast Go.Proofs.YtdoomkcgdcfmlaaW.PrintMore
theorem FnBehindOf : laws_FnBehindOf.Pure := fun l _ _ hw => (laws_FnBehindOf.ev l fun x hx => by
  have:=hw x hx
  first|exact Go.RowKit.bounds_u8 this|exact Go.ChangeShapes.bounds_u8 this|exact bounds_u8 this|(simp [Lit.wf,IntKind.wf] at this;omega)|(simp [Lit.wf] at this;omega)).rounds
end Go.Proofs.Ytdoomkcgdcfmlaa.Pure
end
