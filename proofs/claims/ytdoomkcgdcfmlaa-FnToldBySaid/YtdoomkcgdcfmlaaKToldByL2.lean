/- Part 2 of what this is proved by: for every text of bytes the law of ToldBy answers true -/
import Derived.Test.YtdoomkcgdcfmlaaKToldByL1
import Derived.Below
import Derived.Deep.Draws
import Derived.Deep.AppendLies
import Derived.Maps.AppendAt
import Derived.OwnWalk
import Derived.Laws.BytesArg
import Derived.Laws.MakeOwn
import Derived.Laws.OwnMore
import Derived.Deep.OwnRows
import Derived.Tactics
import Derived.Lib.ConvBytes
import Derived.Laws.Slices
import Derived.WalkKit
import Derived.KernelRfl
import Derived.RowKit3
import Derived.Deep.LoopGhost
import Derived.Deep.QuietTactic
import Derived.BigQuiet
import Derived.WideLaws
import Derived.Deep.DeepCutAuto
import Derived.Deep.CutBlock
import Derived.Deep.RegionHeld3
import Derived.Laws.Rows
import Derived.Lib.AppendStr
import Derived.ArgAppend
import Derived.Laws.IdiomCopy
import Derived.RowKit
import Derived.Test.YtdoomkcgdcfmlaaProg
import Derived.OrdersHeld
import Derived.Laws.BitsLemmas
import Derived.Laws.Bits64b
import Derived.ProofKit
import Derived.OpenShut
set_option linter.all false
section
namespace Go.Proofs.Ytdoomkcgdcfmlaa.Print
open Go.RowKit Go.Proofs.YtdoomkcgdcfmlaaW.PrintWords Go.Proofs.YtdoomkcgdcfmlaaW.PrintLast Go.Proofs.YtdoomkcgdcfmlaaW.PrintMore
def laws_FnToldBy.f (k : Nat) (l0 : List Int) : Option (Bool) := if (l0.length : Int) > 1048576 then (some true) else ((spec_DrawToldBy.f k l0).bind fun bt1085 => ((impl_ToldBy.f bt1085.1 bt1085.2.1 bt1085.2.2).bind fun t1093 => ((spec_ToldBy.f k bt1085.1 bt1085.2.1 bt1085.2.2).bind fun t1094 => (if t1093 = t1094 then (if t1093 < 0 then (if t1093 = (-1) then ((laws_alive.f k).bind fun t1095 => (some t1095)) else (some false)) else ((impl_NotOf.f bt1085.1 bt1085.2.1 bt1085.2.2).bind fun t1096 => ((impl_ToldBy.f bt1085.1 bt1085.2.1 t1096).bind fun t1097 => ((impl_StatesOf.f bt1085.1 bt1085.2.1).bind fun t1098 => (if (wrap64 (t1093 + t1097)) = (t1098.length : Int) then ((impl_NoOf.f bt1085.1 bt1085.2.1).bind fun t1101 => ((impl_ToldBy.f bt1085.1 bt1085.2.1 t1101).bind fun t1102 => (if t1102 = 0 then ((laws_alive.f k).bind fun t1103 => (some t1103)) else (some false)))) else (some false)))))) else (some false)))))
def laws_FnToldBy.T9 : Bool × List (List Nat × List Nat) := (true, [([], []), ([], []), ([], []), ([], []), ([2, 3], [2, 3]), ([1, 4, 4], [1, 4]), ([0, 5], [0, 5]), ([], []), ([7, 5], [7]), ([8], [8]), ([6, 9], [6, 9]), ([10, 8], [10]), ([11], [11]), ([11], [11]), ([13, 11, 11], [11, 13]), ([12, 14, 14, 11], [11, 12, 14]), ([15, 11], [11, 15]), ([11, 16], [11, 16]), ([17, 15], [17]), ([18, 18], [18]), ([18, 19], [18, 19]), ([20, 19, 0, 1, 2, 3, 4, 5, 6, 7, 8, 9, 10, 11, 12, 13, 14, 15, 16, 17, 18, 19, 20], [20])])
def laws_FnToldBy.B9 : List Nat := [0, 0, 0, 0, 12, 30, 63, 0, 190, 446, 1023, 2047, 4095, 4095, 12287, 32767, 65535, 131071, 262143, 524287, 1048575, 2097151]
theorem laws_FnToldBy.tab9 : rtab .any (opsOf Try.f13 9) = laws_FnToldBy.T9 := by kernel_rfl
theorem laws_FnToldBy.bits9 : waitsOk laws_FnToldBy.T9.2 laws_FnToldBy.B9 = true := by kernel_rfl
set_option maxHeartbeats 8000000 in
set_option maxRecDepth 100000 in
theorem laws_FnToldBy.calls (k : Nat) (A0 : Option Addr) (c0 : Nat) (l0 : List Int) (r : Bool) (w : World) (hr0 : Kd.C (Kd.int .u8) w A0 l0.length l0) (hc0 : l0.length ≤ c0) (h : laws_FnToldBy.f k l0 = some r) :
  Calls Try.prog 13 #[.slice A0 l0.length c0] w fun e w' => e = .returned (.bool r) ∧ Below w.heap.size w w' := by
 have hu30:=Try.underlying30;have f9:=zqm hr0;have g0:=zqm hc0;clear hr0 hc0;have HB:=zqm (Below.refl w.heap.size w);have H:(if(l0.length:Int)>1048576 then(some true) else((spec_DrawToldBy.f k l0).bind fun b3=>((impl_ToldBy.f b3.1 b3.2.1 b3.2.2).bind fun a7=>((spec_ToldBy.f k b3.1 b3.2.1 b3.2.2).bind fun b9=>(if a7=b9 then(if a7<0 then(if a7=(-1) then((laws_alive.f k).bind fun d6=>(some d6)) else(some false)) else((impl_NotOf.f b3.1 b3.2.1 b3.2.2).bind fun c1=>((impl_ToldBy.f b3.1 b3.2.1 c1).bind fun b0=>((impl_StatesOf.f b3.1 b3.2.1).bind fun a9=>(if(wrap64 (a7+b0))=(a9.length:Int) then((impl_NoOf.f b3.1 b3.2.1).bind fun b2=>((impl_ToldBy.f b3.1 b3.2.1 b2).bind fun b1=>(if b1=0 then((laws_alive.f k).bind fun b4=>(some b4)) else(some false)))) else(some false)))))) else(some false))))))=some r:=h;clear h
 by_cases c2:(l0.length:Int)>1048576
 ·rw [if_pos c2] at H;have j9:decide (1048576<(l0.length:Int))=true:=decide_eq_true c2;have k0:decide (1048576<l0.length)=true:=decide_eq_true (by omega);clear c2;obtain rfl:=Option.some.inj H
  go_enter Try.func13,Try.ntmps13
  go_wp2
  go_ret
  exact⟨zq11,zq0⟩
 ·rw [if_neg c2] at H;have j9:decide (1048576<(l0.length:Int))=false:=decide_eq_false c2;have k0:decide (1048576<l0.length)=false:=decide_eq_false (by omega);clear c2;replace H:=Option.bind_eq_some_iff.mp H;obtain⟨⟨a3,a4,a8⟩,i1,H⟩:=H;replace H:((impl_ToldBy.f a3 a4 a8).bind fun a7=>((spec_ToldBy.f k a3 a4 a8).bind fun b9=>(if a7=b9 then(if a7<0 then(if a7=(-1) then((laws_alive.f k).bind fun d6=>(some d6)) else(some false)) else((impl_NotOf.f a3 a4 a8).bind fun c1=>((impl_ToldBy.f a3 a4 c1).bind fun b0=>((impl_StatesOf.f a3 a4).bind fun a9=>(if(wrap64 (a7+b0))=(a9.length:Int) then((impl_NoOf.f a3 a4).bind fun b2=>((impl_ToldBy.f a3 a4 b2).bind fun b1=>(if b1=0 then((laws_alive.f k).bind fun b4=>(some b4)) else(some false)))) else(some false)))))) else(some false))))=some r:=H;have A3:=zqm i1;clear i1;replace H:=Option.bind_eq_some_iff.mp H;obtain⟨a7,i2,H⟩:=H;replace H:((spec_ToldBy.f k a3 a4 a8).bind fun b9=>(if a7=b9 then(if a7<0 then(if a7=(-1) then((laws_alive.f k).bind fun d6=>(some d6)) else(some false)) else((impl_NotOf.f a3 a4 a8).bind fun c1=>((impl_ToldBy.f a3 a4 c1).bind fun b0=>((impl_StatesOf.f a3 a4).bind fun a9=>(if(wrap64 (a7+b0))=(a9.length:Int) then((impl_NoOf.f a3 a4).bind fun b2=>((impl_ToldBy.f a3 a4 b2).bind fun b1=>(if b1=0 then((laws_alive.f k).bind fun b4=>(some b4)) else(some false)))) else(some false)))))) else(some false)))=some r:=H;have A4:=zqm i2;clear i2;replace H:=Option.bind_eq_some_iff.mp H;obtain⟨b9,i3,H⟩:=H;replace H:(if a7=b9 then(if a7<0 then(if a7=(-1) then((laws_alive.f k).bind fun d6=>(some d6)) else(some false)) else((impl_NotOf.f a3 a4 a8).bind fun c1=>((impl_ToldBy.f a3 a4 c1).bind fun b0=>((impl_StatesOf.f a3 a4).bind fun a9=>(if(wrap64 (a7+b0))=(a9.length:Int) then((impl_NoOf.f a3 a4).bind fun b2=>((impl_ToldBy.f a3 a4 b2).bind fun b1=>(if b1=0 then((laws_alive.f k).bind fun b4=>(some b4)) else(some false)))) else(some false)))))) else(some false))=some r:=H;have A5:=zqm i3;clear i3
  by_cases c6:a7=b9
  ·rw [if_pos c6] at H;have k1:(a7==b9)=true:=beq_iff_eq.mpr c6;have k2:(a7 !=b9)=false:=bne_eq_false_iff_eq.mpr c6;clear c6
   by_cases c7:a7<0
   ·rw [if_pos c7] at H;have k3:decide (a7<0)=true:=decide_eq_true c7;clear c7
    by_cases c8:a7=(-1)
    ·rw [if_pos c8] at H;have k4:(a7==(-1))=true:=beq_iff_eq.mpr c8;have k5:(a7 !=(-1))=false:=bne_eq_false_iff_eq.mpr c8;clear c8;replace H:=Option.bind_eq_some_iff.mp H;obtain⟨d6,i4,H⟩:=H;replace H:(some d6)=some r:=H;have A9:=zqm i4;clear i4;obtain rfl:=Option.some.inj H
     go_enter Try.func13,Try.ntmps13
     go_wp2_with (first|((with_reducible refine gate_callee (f:=61) rfl ?_);refine goesL_ (some 11) rfl rfl Try.func61 zqk rfl #[.slice A0 l0.length c0] rfl zq1 ?_;(with_reducible refine(spec_DrawToldBy.calls k _ _ l0 a3 a4 a8 _ ?side1 ?side2 A3.out).mono ?_);(case side1=> exact zq152);(case side2=>exact g0.out);rintro e r7 ⟨f2,f3,rfl,b5,d7,hb⟩;refine⟨_,rfl,?_⟩;have a2:=zqm (Kd.S_lower b5 (below_size zq0));have a1:=zqm (Kd.Q_lower d7 (below_size zq0));replace HB:=zqm (below_step zq0 hb);clear hb b5 d7)|((with_reducible refine gate_dst (N:=3) rfl ?_);refine box_event ?hg (N:=3) ?hd (cs:= #[.slice none 0 0,.slice none 0 0]) (t:=30) ?hr ?_;(case hd=>rfl);(case hg=>rfl);(case hr=>first|(go_simp;done)|(go_simp;rfl));intro a5 hg i5 hbox hb;replace a2:=zqm (Kd.S_below zq6 hb);replace a1:=zqm (Kd.Q_below zq41 hb);have d8:=zqm (below_step zq0 hb);have a0:=zqm (hbox);have f1:=zqm ((by rw [hg];exact(below_size zq0):w.heap.size≤a5));have a6:=zqm ((by rw [hg];exact(below_size zq0):w.heap.size≤a5));clear HB;have HB:=d8;clear d8 hb hbox hg;obtain⟨e1,d9,k6⟩:=Kd.S_slice a2.out;subst k6;have l9:i5.cell? ⟨a5,0,none⟩=some (.slice none 0 0):=(blk_cell a0.out 0).trans rfl;have m0:i5.cell? ⟨a5,1,none⟩=some (.slice none 0 0):=(blk_cell a0.out 1).trans rfl;have m1:=blk_frozen a0.out 0;have m2:=blk_frozen a0.out 1;obtain⟨e2,e0,k7,_⟩:=Kd.Q_slice a1.out;subst k7)|((with_reducible refine gate_callee (f:=62) rfl ?_);refine goesL_ (some 16) rfl rfl Try.func62 zqk rfl #[.agg #[.slice e1 a3.length d9,.slice e2 a4.length e0],.int .i64 a8] rfl zq1 ?_;(with_reducible refine(impl_ToldBy.calls _ _ a3 _ _ a4 a8 a7 _ ?side1 ?side2 ?side3 ?side4 A4.out).mono ?_);(case side1=>refine(Kd.S_reads' (e:=28) (base:=w.heap.size) (ok:=fun k_=>some k_≠(.slice e2 a4.length e0:Value).ownBlock) (n:=a3.length) (c:=d9) ?_).2.2;exact zq216);(case side2=>exact(Kd.S_reads' a2.out).2.1);(case side3=>refine(Kd.Q_reads' (e:=3) (base:=w.heap.size) (ok:=fun k_=>True) (n:=a4.length) (c:=e0) ?_).2.2;exact zq188);(case side4=>exact(Kd.Q_reads' a1.out).2.1);rintro e i6 ⟨rfl,hb⟩;refine⟨_,rfl,?_⟩;replace a2:=zqm (Kd.S_below zq216 hb);replace a1:=zqm (Kd.Q_below zq188 hb);replace a0:=zqm (blk_below (g:=a5) (o:= .cells #[.slice e1 a3.length d9,.slice e2 a4.length e0] 30 (0,0)) (by(with_reducible repeat(first|refine blk_drewN ?_ _|refine blk_drew ?_|refine blk_alloc ?_ _));refine blk_put (cs:= #[.slice e1 a3.length d9,.slice none 0 0]) ?_ 1 _ rfl;(with_reducible repeat(first|refine blk_drewN ?_ _|refine blk_drew ?_|refine blk_alloc ?_ _));refine blk_put (cs:= #[.slice none 0 0,.slice none 0 0]) ?_ 0 _ rfl;(with_reducible repeat(first|refine blk_drewN ?_ _|refine blk_drew ?_|refine blk_alloc ?_ _));exact a0.out) hb);replace HB:=zqm (below_step zq25 hb);clear hb;have m3:i6.cell? ⟨a5,0,none⟩=some (.slice e1 a3.length d9):=(blk_cell a0.out 0).trans rfl;have m4:i6.cell? ⟨a5,1,none⟩=some (.slice e2 a4.length e0):=(blk_cell a0.out 1).trans rfl;have m5:=blk_frozen a0.out 0;have m6:=blk_frozen a0.out 1)|((with_reducible refine gate_callee (f:=63) rfl ?_);refine goesL_ (some 20) rfl rfl Try.func63 zqk rfl #[.agg #[.slice e1 a3.length d9,.slice e2 a4.length e0],.int .i64 a8] rfl zq1 ?_;(with_reducible refine(spec_ToldBy.calls k _ _ a3 _ _ a4 a8 b9 _ ?side1 ?side2 ?side3 ?side4 A5.out).mono ?_);(case side1=> exact zq5);(case side2=>exact(Kd.S_reads' a2.out).2.1);(case side3=> exact zq39);(case side4=>exact(Kd.Q_reads' a1.out).2.1);rintro e r8 ⟨rfl,hb⟩;refine⟨_,rfl,?_⟩;replace a2:=zqm (Kd.S_below zq6 hb);replace a1:=zqm (Kd.Q_below zq41 hb);replace a0:=zqm (blk_below (g:=a5) (o:= .cells #[.slice e1 a3.length d9,.slice e2 a4.length e0] 30 (0,0)) zq2 hb);replace HB:=zqm (below_step zq25 hb);clear hb)|(go_at_call 18;(with_reducible refine(laws_alive.calls k d6 _ A9.out).mono ?_);rintro e r9 ⟨rfl,hb⟩;replace a2:=zqm (Kd.S_below zq6 hb);replace a1:=zqm (Kd.Q_below zq41 hb);replace a0:=zqm (blk_below (g:=a5) (o:= .cells #[.slice e1 a3.length d9,.slice e2 a4.length e0] 30 (0,0)) zq2 hb);replace HB:=zqm (below_step zq25 hb);clear hb))
     go_ret
     exact⟨zq11,zq25⟩
    ·rw [if_neg c8] at H;have k4:(a7==(-1))=false:=beq_eq_false_iff_ne.mpr c8;have k5:(a7 !=(-1))=true:=bne_iff_ne.mpr c8;obtain rfl:=Option.some.inj H
     go_enter Try.func13,Try.ntmps13
     go_wp2_with (first|((with_reducible refine gate_callee (f:=61) rfl ?_);refine goesL_ (some 11) rfl rfl Try.func61 zqk rfl #[.slice A0 l0.length c0] rfl zq1 ?_;(with_reducible refine(spec_DrawToldBy.calls k _ _ l0 a3 a4 a8 _ ?side1 ?side2 A3.out).mono ?_);(case side1=> exact zq152);(case side2=>exact g0.out);rintro e s2 ⟨f2,f3,rfl,b5,d7,hb⟩;refine⟨_,rfl,?_⟩;have a2:=zqm (Kd.S_lower b5 (below_size zq0));have a1:=zqm (Kd.Q_lower d7 (below_size zq0));replace HB:=zqm (below_step zq0 hb);clear hb b5 d7)|((with_reducible refine gate_dst (N:=3) rfl ?_);refine box_event ?hg (N:=3) ?hd (cs:= #[.slice none 0 0,.slice none 0 0]) (t:=30) ?hr ?_;(case hd=>rfl);(case hg=>rfl);(case hr=>first|(go_simp;done)|(go_simp;rfl));intro a5 hg i7 hbox hb;replace a2:=zqm (Kd.S_below zq6 hb);replace a1:=zqm (Kd.Q_below zq41 hb);have d8:=zqm (below_step zq0 hb);have a0:=zqm (hbox);have f1:=zqm ((by rw [hg];exact(below_size zq0):w.heap.size≤a5));have a6:=zqm ((by rw [hg];exact(below_size zq0):w.heap.size≤a5));clear HB;have HB:=d8;clear d8 hb hbox hg;obtain⟨e7,e3,k8⟩:=Kd.S_slice a2.out;subst k8;have m7:i7.cell? ⟨a5,0,none⟩=some (.slice none 0 0):=(blk_cell a0.out 0).trans rfl;have m8:i7.cell? ⟨a5,1,none⟩=some (.slice none 0 0):=(blk_cell a0.out 1).trans rfl;have m9:=blk_frozen a0.out 0;have n0:=blk_frozen a0.out 1;obtain⟨e8,e4,k9,_⟩:=Kd.Q_slice a1.out;subst k9)|((with_reducible refine gate_callee (f:=62) rfl ?_);refine goesL_ (some 16) rfl rfl Try.func62 zqk rfl #[.agg #[.slice e7 a3.length e3,.slice e8 a4.length e4],.int .i64 a8] rfl zq1 ?_;(with_reducible refine(impl_ToldBy.calls _ _ a3 _ _ a4 a8 a7 _ ?side1 ?side2 ?side3 ?side4 A4.out).mono ?_);(case side1=>refine(Kd.S_reads' (e:=28) (base:=w.heap.size) (ok:=fun k_=>some k_≠(.slice e8 a4.length e4:Value).ownBlock) (n:=a3.length) (c:=e3) ?_).2.2;exact zq240);(case side2=>exact(Kd.S_reads' a2.out).2.1);(case side3=>refine(Kd.Q_reads' (e:=3) (base:=w.heap.size) (ok:=fun k_=>True) (n:=a4.length) (c:=e4) ?_).2.2;exact zq231);(case side4=>exact(Kd.Q_reads' a1.out).2.1);rintro e i8 ⟨rfl,hb⟩;refine⟨_,rfl,?_⟩;replace a2:=zqm (Kd.S_below zq240 hb);replace a1:=zqm (Kd.Q_below zq231 hb);replace a0:=zqm (blk_below (g:=a5) (o:= .cells #[.slice e7 a3.length e3,.slice e8 a4.length e4] 30 (0,0)) (by(with_reducible repeat(first|refine blk_drewN ?_ _|refine blk_drew ?_|refine blk_alloc ?_ _));refine blk_put (cs:= #[.slice e7 a3.length e3,.slice none 0 0]) ?_ 1 _ rfl;(with_reducible repeat(first|refine blk_drewN ?_ _|refine blk_drew ?_|refine blk_alloc ?_ _));refine blk_put (cs:= #[.slice none 0 0,.slice none 0 0]) ?_ 0 _ rfl;(with_reducible repeat(first|refine blk_drewN ?_ _|refine blk_drew ?_|refine blk_alloc ?_ _));exact a0.out) hb);replace HB:=zqm (below_step zq25 hb);clear hb;have n1:i8.cell? ⟨a5,0,none⟩=some (.slice e7 a3.length e3):=(blk_cell a0.out 0).trans rfl;have n2:i8.cell? ⟨a5,1,none⟩=some (.slice e8 a4.length e4):=(blk_cell a0.out 1).trans rfl;have n3:=blk_frozen a0.out 0;have n4:=blk_frozen a0.out 1)|((with_reducible refine gate_callee (f:=63) rfl ?_);refine goesL_ (some 20) rfl rfl Try.func63 zqk rfl #[.agg #[.slice e7 a3.length e3,.slice e8 a4.length e4],.int .i64 a8] rfl zq1 ?_;(with_reducible refine(spec_ToldBy.calls k _ _ a3 _ _ a4 a8 b9 _ ?side1 ?side2 ?side3 ?side4 A5.out).mono ?_);(case side1=> exact zq5);(case side2=>exact(Kd.S_reads' a2.out).2.1);(case side3=> exact zq39);(case side4=>exact(Kd.Q_reads' a1.out).2.1);rintro e s3 ⟨rfl,hb⟩;refine⟨_,rfl,?_⟩;replace a2:=zqm (Kd.S_below zq6 hb);replace a1:=zqm (Kd.Q_below zq41 hb);replace a0:=zqm (blk_below (g:=a5) (o:= .cells #[.slice e7 a3.length e3,.slice e8 a4.length e4] 30 (0,0)) zq2 hb);replace HB:=zqm (below_step zq25 hb);clear hb))
     go_ret
     exact⟨zq11,zq25⟩
   ·rw [if_neg c7] at H;have k3:decide (a7<0)=false:=decide_eq_false c7;clear c7;replace H:=Option.bind_eq_some_iff.mp H;obtain⟨c1,g7,H⟩:=H;replace H:((impl_ToldBy.f a3 a4 c1).bind fun b0=>((impl_StatesOf.f a3 a4).bind fun a9=>(if(wrap64 (a7+b0))=(a9.length:Int) then((impl_NoOf.f a3 a4).bind fun b2=>((impl_ToldBy.f a3 a4 b2).bind fun b1=>(if b1=0 then((laws_alive.f k).bind fun b4=>(some b4)) else(some false)))) else(some false))))=some r:=H;have g8:=zqm g7;clear g7;replace H:=Option.bind_eq_some_iff.mp H;obtain⟨b0,g9,H⟩:=H;replace H:((impl_StatesOf.f a3 a4).bind fun a9=>(if(wrap64 (a7+b0))=(a9.length:Int) then((impl_NoOf.f a3 a4).bind fun b2=>((impl_ToldBy.f a3 a4 b2).bind fun b1=>(if b1=0 then((laws_alive.f k).bind fun b4=>(some b4)) else(some false)))) else(some false)))=some r:=H;have h0:=zqm g9;clear g9;replace H:=Option.bind_eq_some_iff.mp H;obtain⟨a9,h1,H⟩:=H;replace H:(if(wrap64 (a7+b0))=(a9.length:Int) then((impl_NoOf.f a3 a4).bind fun b2=>((impl_ToldBy.f a3 a4 b2).bind fun b1=>(if b1=0 then((laws_alive.f k).bind fun b4=>(some b4)) else(some false)))) else(some false))=some r:=H;have h2:=zqm h1;clear h1
    by_cases f7:(wrap64 (a7+b0))=(a9.length:Int)
    ·rw [if_pos f7] at H;have g1:((wrap64 (a7+b0))==(a9.length:Int))=true:=beq_iff_eq.mpr f7;(have c30w0:((IntKind.i64.wrap (a7+b0))==(a9.length:Int))=true:=by simp only [i64_w];exact g1);have g2:((wrap64 (a7+b0)) !=(a9.length:Int))=false:=bne_eq_false_iff_eq.mpr f7;(have c30w1:((IntKind.i64.wrap (a7+b0)) !=(a9.length:Int))=false:=by simp only [i64_w];exact g2);clear f7;replace H:=Option.bind_eq_some_iff.mp H;obtain⟨b2,h3,H⟩:=H;replace H:((impl_ToldBy.f a3 a4 b2).bind fun b1=>(if b1=0 then((laws_alive.f k).bind fun b4=>(some b4)) else(some false)))=some r:=H;have i9:=zqm h3;clear h3;replace H:=Option.bind_eq_some_iff.mp H;obtain⟨b1,h4,H⟩:=H;replace H:(if b1=0 then((laws_alive.f k).bind fun b4=>(some b4)) else(some false))=some r:=H;have j0:=zqm h4;clear h4
     by_cases f8:b1=0
     ·rw [if_pos f8] at H;have h9:(b1==0)=true:=beq_iff_eq.mpr f8;have i0:(b1 !=0)=false:=bne_eq_false_iff_eq.mpr f8;clear f8;replace H:=Option.bind_eq_some_iff.mp H;obtain⟨b4,h5,H⟩:=H;replace H:(some b4)=some r:=H;have q7:=zqm h5;clear h5;obtain rfl:=Option.some.inj H
      go_enter Try.func13,Try.ntmps13
      (try go_wp2_with (first|((with_reducible refine gate_callee (f:=61) rfl ?_);refine goesL_ (some 11) rfl rfl Try.func61 zqk rfl #[.slice A0 l0.length c0] rfl zq1 ?_;(with_reducible refine(spec_DrawToldBy.calls k _ _ l0 a3 a4 a8 _ ?side1 ?side2 A3.out).mono ?_);(case side1=> exact zq152);(case side2=>exact g0.out);rintro e s4 ⟨f2,f3,rfl,b5,d7,hb⟩;refine⟨_,rfl,?_⟩;have a2:=zqm (Kd.S_lower b5 (below_size zq0));have a1:=zqm (Kd.Q_lower d7 (below_size zq0));replace HB:=zqm (below_step zq0 hb);clear hb b5 d7)|((with_reducible refine gate_dst (N:=3) rfl ?_);refine box_event ?hg (N:=3) ?hd (cs:= #[.slice none 0 0,.slice none 0 0]) (t:=30) ?hr ?_;(case hd=>rfl);(case hg=>rfl);(case hr=>first|(go_simp;done)|(go_simp;rfl));intro a5 hg j1 hbox hb;replace a2:=zqm (Kd.S_below zq6 hb);replace a1:=zqm (Kd.Q_below zq41 hb);have d8:=zqm (below_step zq0 hb);have a0:=zqm (hbox);have f1:=zqm ((by rw [hg];exact(below_size zq0):w.heap.size≤a5));have a6:=zqm ((by rw [hg];exact(below_size zq0):w.heap.size≤a5));clear HB;have HB:=d8;clear d8 hb hbox hg;obtain⟨c3,b6,l1⟩:=Kd.S_slice a2.out;subst l1;have n5:j1.cell? ⟨a5,0,none⟩=some (.slice none 0 0):=(blk_cell a0.out 0).trans rfl;have n6:j1.cell? ⟨a5,1,none⟩=some (.slice none 0 0):=(blk_cell a0.out 1).trans rfl;have n7:=blk_frozen a0.out 0;have n8:=blk_frozen a0.out 1;obtain⟨c4,b7,l2,_⟩:=Kd.Q_slice a1.out;subst l2)|((with_reducible refine gate_callee (f:=62) rfl ?_);refine goesL_ (some 16) rfl rfl Try.func62 zqk rfl #[.agg #[.slice c3 a3.length b6,.slice c4 a4.length b7],.int .i64 a8] rfl zq1 ?_;(with_reducible refine(impl_ToldBy.calls _ _ a3 _ _ a4 a8 a7 _ ?side1 ?side2 ?side3 ?side4 A4.out).mono ?_);(case side1=>refine(Kd.S_reads' (e:=28) (base:=w.heap.size) (ok:=fun k_=>some k_≠(.slice c4 a4.length b7:Value).ownBlock) (n:=a3.length) (c:=b6) ?_).2.2;exact zq213);(case side2=>exact(Kd.S_reads' a2.out).2.1);(case side3=>refine(Kd.Q_reads' (e:=3) (base:=w.heap.size) (ok:=fun k_=>True) (n:=a4.length) (c:=b7) ?_).2.2;exact zq238);(case side4=>exact(Kd.Q_reads' a1.out).2.1);rintro e j2 ⟨rfl,hb⟩;refine⟨_,rfl,?_⟩;replace a2:=zqm (Kd.S_below zq213 hb);replace a1:=zqm (Kd.Q_below zq238 hb);replace a0:=zqm (blk_below (g:=a5) (o:= .cells #[.slice c3 a3.length b6,.slice c4 a4.length b7] 30 (0,0)) (by(with_reducible repeat(first|refine blk_drewN ?_ _|refine blk_drew ?_|refine blk_alloc ?_ _));refine blk_put (cs:= #[.slice c3 a3.length b6,.slice none 0 0]) ?_ 1 _ rfl;(with_reducible repeat(first|refine blk_drewN ?_ _|refine blk_drew ?_|refine blk_alloc ?_ _));refine blk_put (cs:= #[.slice none 0 0,.slice none 0 0]) ?_ 0 _ rfl;(with_reducible repeat(first|refine blk_drewN ?_ _|refine blk_drew ?_|refine blk_alloc ?_ _));exact a0.out) hb);replace HB:=zqm (below_step zq25 hb);clear hb;have n9:j2.cell? ⟨a5,0,none⟩=some (.slice c3 a3.length b6):=(blk_cell a0.out 0).trans rfl;have o0:j2.cell? ⟨a5,1,none⟩=some (.slice c4 a4.length b7):=(blk_cell a0.out 1).trans rfl;have o1:=blk_frozen a0.out 0;have o2:=blk_frozen a0.out 1)|((with_reducible refine gate_callee (f:=63) rfl ?_);refine goesL_ (some 20) rfl rfl Try.func63 zqk rfl #[.agg #[.slice c3 a3.length b6,.slice c4 a4.length b7],.int .i64 a8] rfl zq1 ?_;(with_reducible refine(spec_ToldBy.calls k _ _ a3 _ _ a4 a8 b9 _ ?side1 ?side2 ?side3 ?side4 A5.out).mono ?_);(case side1=> exact zq5);(case side2=>exact(Kd.S_reads' a2.out).2.1);(case side3=> exact zq39);(case side4=>exact(Kd.Q_reads' a1.out).2.1);rintro e q8 ⟨rfl,hb⟩;refine⟨_,rfl,?_⟩;replace a2:=zqm (Kd.S_below zq6 hb);replace a1:=zqm (Kd.Q_below zq41 hb);replace a0:=zqm (blk_below (g:=a5) (o:= .cells #[.slice c3 a3.length b6,.slice c4 a4.length b7] 30 (0,0)) zq2 hb);replace HB:=zqm (below_step zq25 hb);clear hb)))
      replace a2:=zqm (Kd.S_drew a2.out);replace a1:=zqm (Kd.Q_drew a1.out);replace a0:=zqm (blk_drew a0.out);replace HB:=zqm (below_drew1 HB.out);refine start_ (n:=22) (S:=fun w'=>w'.cell? ⟨a5,0,none⟩=some (.slice c3 a3.length b6)∧w'.cell? ⟨a5,1,none⟩=some (.slice c4 a4.length b7)) (ds:= []) (zqb 22 0) zqk rfl rfl ⟨(blk_cell a0.out 0).trans rfl,(blk_cell a0.out 1).trans rfl⟩ (fun hHeld=>?_);refine with_tabW laws_FnToldBy.tab9 laws_FnToldBy.bits9 (fun HT_ HW_=>?_);generalize q8.drew=s5 at a2 a1 a0 HB hHeld ⊢;refine pure_ (i:=0) (N:=some 29) (v:=?_) (a':=?_) (zqb 22 1) rfl rfl (any_of HT_.out zqk) (fun _ _ _ h=>h) (Or.inl ⟨by rfl,?_⟩) ?_ ?_;rotate_left
      ·exact zqt
      rotate_left
      ·exact zqs
      refine pure_ (i:=3) (N:=some 32) (v:=?_) (a':=?_) (zqb 22 9) rfl rfl (any_of HT_.out zqk) (fun _ _ _ h=>h) (Or.inl ⟨by rfl,?_⟩) ?_ ?_;rotate_left
      ·exact zqt
      rotate_left
      ·exact zqs
      refine take_ (i:=1) (N:=some 30) (v:=?_) (a':=?_) (zqb 22 11) rfl rfl (take_ofW HT_.out HW_.out zqk) (fun _ _ _ h=>h) (Or.inl ⟨by rfl,?_⟩) hHeld ?_ ?_;rotate_left
      ·rintro w' ⟨s0,s1⟩;go_simp;with_reducible rfl
      rotate_left
      ·exact zqs
      refine take_ (i:=2) (N:=some 31) (v:=?_) (a':=?_) (zqb 22 15) rfl rfl (take_ofW HT_.out HW_.out zqk) (fun _ _ _ h=>h) (Or.inl ⟨by rfl,?_⟩) hHeld ?_ ?_;rotate_left
      ·rintro w' ⟨s0,s1⟩;go_simp;with_reducible rfl
      rotate_left
      ·exact zqs
      refine take_ (i:=7) (N:=some 36) (v:=?_) (a':=?_) (zqb 22 143) rfl rfl (take_ofW HT_.out HW_.out zqk) (fun _ _ _ h=>h) (Or.inl ⟨by rfl,?_⟩) hHeld ?_ ?_;rotate_left
      ·rintro w' ⟨s0,s1⟩;go_simp;with_reducible rfl
      rotate_left
      ·exact zqs
      refine one_ (i:=4) (N:=some 33) (zqb 22 159) rfl rfl (one_of HT_.out zqk) (by decide) (fun K hK=>?_);refine goes_ Try.func32 zqk rfl #[.agg #[.slice c3 a3.length b6,.slice c4 a4.length b7],.int .i64 a8] (by rfl) rfl rfl zq1 ?_;(with_reducible refine(impl_NotOf.calls _ _ a3 _ _ a4 a8 c1 _ ?side1 ?side2 ?side3 ?side4 g8.out).mono ?_);(case side1=> exact zq5);(case side2=>exact(Kd.S_reads' a2.out).2.1);(case side3=> exact zq39);(case side4=>exact(Kd.Q_reads' a1.out).2.1);rintro e s6 ⟨rfl,hb⟩;refine⟨_,rfl,?_⟩;replace a2:=zqm (Kd.S_below zq6 hb);replace a1:=zqm (Kd.Q_below zq41 hb);replace a0:=zqm (blk_below (g:=a5) (o:= .cells #[.slice c3 a3.length b6,.slice c4 a4.length b7] 30 (0,0)) zq2 hb);replace HB:=zqm (below_step zq25 hb);clear hb;refine hK.out _ _ ⟨(blk_cell a0.out 0).trans rfl,(blk_cell a0.out 1).trans rfl⟩ (fun hHeld=>?_);clear hK K;refine norm_ (a':=?_) ?_ ?_;rotate_left
      ·show Act.put _ (some 33) _=_;exact zqs
      refine one_ (i:=5) (N:=some 34) (zqb 22 191) rfl rfl (one_of HT_.out zqk) (by decide) (fun K hK=>?_);refine goes_ Try.func62 zqk rfl #[.agg #[.slice c3 a3.length b6,.slice c4 a4.length b7],.int .i64 c1] (by rfl) rfl rfl zq1 ?_;(with_reducible refine(impl_ToldBy.calls _ _ a3 _ _ a4 c1 b0 _ ?side1 ?side2 ?side3 ?side4 h0.out).mono ?_);(case side1=> exact zq5);(case side2=>exact(Kd.S_reads' a2.out).2.1);(case side3=> exact zq39);(case side4=>exact(Kd.Q_reads' a1.out).2.1);rintro e s7 ⟨rfl,hb⟩;refine⟨_,rfl,?_⟩;replace a2:=zqm (Kd.S_below zq6 hb);replace a1:=zqm (Kd.Q_below zq41 hb);replace a0:=zqm (blk_below (g:=a5) (o:= .cells #[.slice c3 a3.length b6,.slice c4 a4.length b7] 30 (0,0)) zq2 hb);replace HB:=zqm (below_step zq25 hb);clear hb;refine hK.out _ _ ⟨(blk_cell a0.out 0).trans rfl,(blk_cell a0.out 1).trans rfl⟩ (fun hHeld=>?_);clear hK K;refine norm_ (a':=?_) ?_ ?_;rotate_left
      ·show Act.put _ (some 34) _=_;exact zqs
      refine pure_ (i:=6) (N:=some 35) (v:=?_) (a':=?_) (zqb 22 255) rfl rfl (any_of HT_.out zqk) (fun _ _ _ h=>h) (Or.inl ⟨by rfl,?_⟩) ?_ ?_;rotate_left
      ·exact zqt
      rotate_left
      ·exact zqs
      refine one_ (i:=8) (N:=some 37) (zqb 22 511) rfl rfl (one_of HT_.out zqk) (by decide) (fun K hK=>?_);refine goes_ Try.func64 zqk rfl #[.agg #[.slice c3 a3.length b6,.slice c4 a4.length b7]] (by rfl) rfl rfl zq1 ?_;(with_reducible refine(impl_StatesOf.calls _ _ a3 _ _ a4 a9 _ ?side1 ?side2 ?side3 ?side4 h2.out).mono ?_);(case side1=> exact zq5);(case side2=>exact(Kd.S_reads' a2.out).2.1);(case side3=> exact zq39);(case side4=>exact(Kd.Q_reads' a1.out).2.1);rintro e s8 ⟨g6,rfl,b5,hb⟩;refine⟨_,rfl,?_⟩;replace a2:=zqm (Kd.S_elder' zq6 (Kd.R_base b5) hb);have f4:=zqm (Kd.Q_elder' zq41 (Kd.R_base b5) hb);have b8:=zqm (Kd.R_lower (Kd.R_new' b5 (Kd.Q_lt zq41)) (below_size zq25));replace a0:=zqm (blk_below (g:=a5) (o:= .cells #[.slice c3 a3.length b6,.slice c4 a4.length b7] 30 (0,0)) zq2 hb);replace HB:=zqm (below_step zq25 hb);clear a1;have a1:=f4;clear f4 hb b5;obtain⟨r1,r2,h6⟩:=Kd.R_slice b8.out;(first|subst h6|(injection h6 with f5 g3 f6;have g4:=f5.symm;have g5:=f6.symm;clear f5 g3 f6;subst g4;subst g5));refine hK.out _ _ ⟨(blk_cell a0.out 0).trans rfl,(blk_cell a0.out 1).trans rfl⟩ (fun hHeld=>?_);clear hK K;refine norm_ (a':=?_) ?_ ?_;rotate_left
      ·show Act.put _ (some 37) _=_;exact zqs
      refine pure_ (i:=9) (N:=some 38) (v:=?_) (a':=?_) (zqb 22 1023) rfl rfl (any_of HT_.out zqk) (fun _ _ _ h=>h) (Or.inl ⟨by rfl,?_⟩) ?_ ?_;rotate_left
      ·exact zqt
      rotate_left
      ·exact zqs
      refine pure_ (i:=10) (N:=some 39) (v:=?_) (a':=?_) (zqb 22 2047) rfl rfl (any_of HT_.out zqk) (fun _ _ _ h=>h) (Or.inl ⟨by rfl,?_⟩) ?_ ?_;rotate_left
      ·exact zqt
      rotate_left
      ·exact zqs
      refine pure_ (i:=11) (N:=some 40) (v:=?_) (a':=?_) (zqb 22 4095) rfl rfl (any_of HT_.out zqk) (fun _ _ _ h=>h) (Or.inl ⟨by rfl,?_⟩) ?_ ?_;rotate_left
      ·exact zqt
      rotate_left
      ·exact zqs
      refine take_ (i:=12) (N:=some 41) (v:=?_) (a':=?_) (zqb 22 8191) rfl rfl (take_ofW HT_.out HW_.out zqk) (fun _ _ _ h=>h) (Or.inl ⟨by rfl,?_⟩) hHeld ?_ ?_;rotate_left
      ·rintro w' ⟨s0,s1⟩;go_simp;with_reducible rfl
      rotate_left
      ·exact zqs
      refine take_ (i:=13) (N:=some 42) (v:=?_) (a':=?_) (zqb 22 16383) rfl rfl (take_ofW HT_.out HW_.out zqk) (fun _ _ _ h=>h) (Or.inl ⟨by rfl,?_⟩) hHeld ?_ ?_;rotate_left
      ·rintro w' ⟨s0,s1⟩;go_simp;with_reducible rfl
      rotate_left
      ·exact zqs
      refine one_ (i:=14) (N:=some 43) (zqb 22 32767) rfl rfl (one_of HT_.out zqk) (by decide) (fun K hK=>?_);refine goes_ Try.func47 zqk rfl #[.agg #[.slice c3 a3.length b6,.slice c4 a4.length b7]] (by rfl) rfl rfl zq1 ?_;(with_reducible refine(impl_NoOf.calls _ _ a3 _ _ a4 b2 _ ?side1 ?side2 ?side3 ?side4 i9.out).mono ?_);(case side1=> exact zq5);(case side2=>exact(Kd.S_reads' a2.out).2.1);(case side3=> exact zq39);(case side4=>exact(Kd.Q_reads' a1.out).2.1);rintro e s9 ⟨rfl,hb⟩;refine⟨_,rfl,?_⟩;replace a2:=zqm (Kd.S_below zq6 hb);replace a1:=zqm (Kd.Q_below zq41 hb);replace b8:=zqm (Kd.R_below zq301 hb);replace a0:=zqm (blk_below (g:=a5) (o:= .cells #[.slice c3 a3.length b6,.slice c4 a4.length b7] 30 (0,0)) zq2 hb);replace HB:=zqm (below_step zq25 hb);clear hb;refine hK.out _ _ ⟨(blk_cell a0.out 0).trans rfl,(blk_cell a0.out 1).trans rfl⟩ (fun hHeld=>?_);clear hK K;refine norm_ (a':=?_) ?_ ?_;rotate_left
      ·show Act.put _ (some 43) _=_;exact zqs
      refine one_ (i:=15) (N:=some 44) (zqb 22 65535) rfl rfl (one_of HT_.out zqk) (by decide) (fun K hK=>?_);refine goes_ Try.func62 zqk rfl #[.agg #[.slice c3 a3.length b6,.slice c4 a4.length b7],.int .i64 b2] (by rfl) rfl rfl zq1 ?_;(with_reducible refine(impl_ToldBy.calls _ _ a3 _ _ a4 b2 b1 _ ?side1 ?side2 ?side3 ?side4 j0.out).mono ?_);(case side1=> exact zq5);(case side2=>exact(Kd.S_reads' a2.out).2.1);(case side3=> exact zq39);(case side4=>exact(Kd.Q_reads' a1.out).2.1);rintro e t0 ⟨rfl,hb⟩;refine⟨_,rfl,?_⟩;replace a2:=zqm (Kd.S_below zq6 hb);replace a1:=zqm (Kd.Q_below zq41 hb);replace b8:=zqm (Kd.R_below zq301 hb);replace a0:=zqm (blk_below (g:=a5) (o:= .cells #[.slice c3 a3.length b6,.slice c4 a4.length b7] 30 (0,0)) zq2 hb);replace HB:=zqm (below_step zq25 hb);clear hb;refine hK.out _ _ ⟨(blk_cell a0.out 0).trans rfl,(blk_cell a0.out 1).trans rfl⟩ (fun hHeld=>?_);clear hK K;refine norm_ (a':=?_) ?_ ?_;rotate_left
      ·show Act.put _ (some 44) _=_;exact zqs
      refine pure_ (i:=16) (N:=some 45) (v:=?_) (a':=?_) (zqb 22 131071) rfl rfl (any_of HT_.out zqk) (fun _ _ _ h=>h) (Or.inl ⟨by rfl,?_⟩) ?_ ?_;rotate_left
      ·exact zqt
      rotate_left
      ·exact zqs
      refine pure_ (i:=17) (N:=some 46) (v:=?_) (a':=?_) (zqb 22 262143) rfl rfl (any_of HT_.out zqk) (fun _ _ _ h=>h) (Or.inl ⟨by rfl,?_⟩) ?_ ?_;rotate_left
      ·exact zqt
      rotate_left
      ·exact zqs
      refine pure_ (i:=18) (N:=some 47) (v:=?_) (a':=?_) (zqb 22 524287) rfl rfl (any_of HT_.out zqk) (fun _ _ _ h=>h) (Or.inl ⟨by rfl,?_⟩) ?_ ?_;rotate_left
      ·exact zqt
      rotate_left
      ·exact zqs
      refine one_ (i:=19) (N:=some 48) (zqb 22 1048575) rfl rfl (one_of HT_.out zqk) (by decide) (fun K hK=>?_);refine goes_ Try.func18 zqk rfl #[] (by rfl) rfl rfl zq1 ?_;(with_reducible refine(laws_alive.calls k b4 _ q7.out).mono ?_);rintro e t1 ⟨rfl,hb⟩;refine⟨_,rfl,?_⟩;replace a2:=zqm (Kd.S_below zq6 hb);replace a1:=zqm (Kd.Q_below zq41 hb);replace b8:=zqm (Kd.R_below zq301 hb);replace a0:=zqm (blk_below (g:=a5) (o:= .cells #[.slice c3 a3.length b6,.slice c4 a4.length b7] 30 (0,0)) zq2 hb);replace HB:=zqm (below_step zq25 hb);clear hb;refine hK.out _ _ ⟨(blk_cell a0.out 0).trans rfl,(blk_cell a0.out 1).trans rfl⟩ (fun hHeld=>?_);clear hK K;refine norm_ (a':=?_) ?_ ?_;rotate_left
      ·show Act.put _ (some 48) _=_;exact zqs
      refine pure_ (i:=20) (N:=some 49) (v:=?_) (a':=?_) (zqb 22 2097151) rfl rfl (any_of HT_.out zqk) (fun _ _ _ h=>h) (Or.inl ⟨by rfl,?_⟩) ?_ ?_;rotate_left
      ·exact zqt
      rotate_left
      ·exact zqs
      refine pure_ (i:=21) (N:=some 2) (v:=?_) (a':=?_) (zqb 22 4194303) rfl rfl (any_of HT_.out zqk) (fun _ _ _ h=>h) (Or.inl ⟨by rfl,?_⟩) ?_ ?_;rotate_left
      ·exact zqt
      rotate_left
      ·exact zqs
      refine done_ (done_of HT_.out zqk) ?_;try go_wp2
      go_ret
      exact⟨zq11,zq25⟩
     ·rw [if_neg f8] at H;have h9:(b1==0)=false:=beq_eq_false_iff_ne.mpr f8;have i0:(b1 !=0)=true:=bne_iff_ne.mpr f8;obtain rfl:=Option.some.inj H
      go_enter Try.func13,Try.ntmps13
      (try go_wp2_with (first|((with_reducible refine gate_callee (f:=61) rfl ?_);refine goesL_ (some 11) rfl rfl Try.func61 zqk rfl #[.slice A0 l0.length c0] rfl zq1 ?_;(with_reducible refine(spec_DrawToldBy.calls k _ _ l0 a3 a4 a8 _ ?side1 ?side2 A3.out).mono ?_);(case side1=> exact zq152);(case side2=>exact g0.out);rintro e t2 ⟨f2,f3,rfl,b5,d7,hb⟩;refine⟨_,rfl,?_⟩;have a2:=zqm (Kd.S_lower b5 (below_size zq0));have a1:=zqm (Kd.Q_lower d7 (below_size zq0));replace HB:=zqm (below_step zq0 hb);clear hb b5 d7)|((with_reducible refine gate_dst (N:=3) rfl ?_);refine box_event ?hg (N:=3) ?hd (cs:= #[.slice none 0 0,.slice none 0 0]) (t:=30) ?hr ?_;(case hd=>rfl);(case hg=>rfl);(case hr=>first|(go_simp;done)|(go_simp;rfl));intro a5 hg j3 hbox hb;replace a2:=zqm (Kd.S_below zq6 hb);replace a1:=zqm (Kd.Q_below zq41 hb);have d8:=zqm (below_step zq0 hb);have a0:=zqm (hbox);have f1:=zqm ((by rw [hg];exact(below_size zq0):w.heap.size≤a5));have a6:=zqm ((by rw [hg];exact(below_size zq0):w.heap.size≤a5));clear HB;have HB:=d8;clear d8 hb hbox hg;obtain⟨d0,c5,l3⟩:=Kd.S_slice a2.out;subst l3;have o3:j3.cell? ⟨a5,0,none⟩=some (.slice none 0 0):=(blk_cell a0.out 0).trans rfl;have o4:j3.cell? ⟨a5,1,none⟩=some (.slice none 0 0):=(blk_cell a0.out 1).trans rfl;have o5:=blk_frozen a0.out 0;have o6:=blk_frozen a0.out 1;obtain⟨d1,c9,l4,_⟩:=Kd.Q_slice a1.out;subst l4)|((with_reducible refine gate_callee (f:=62) rfl ?_);refine goesL_ (some 16) rfl rfl Try.func62 zqk rfl #[.agg #[.slice d0 a3.length c5,.slice d1 a4.length c9],.int .i64 a8] rfl zq1 ?_;(with_reducible refine(impl_ToldBy.calls _ _ a3 _ _ a4 a8 a7 _ ?side1 ?side2 ?side3 ?side4 A4.out).mono ?_);(case side1=>refine(Kd.S_reads' (e:=28) (base:=w.heap.size) (ok:=fun k_=>some k_≠(.slice d1 a4.length c9:Value).ownBlock) (n:=a3.length) (c:=c5) ?_).2.2;exact zq251);(case side2=>exact(Kd.S_reads' a2.out).2.1);(case side3=>refine(Kd.Q_reads' (e:=3) (base:=w.heap.size) (ok:=fun k_=>True) (n:=a4.length) (c:=c9) ?_).2.2;exact zq219);(case side4=>exact(Kd.Q_reads' a1.out).2.1);rintro e j4 ⟨rfl,hb⟩;refine⟨_,rfl,?_⟩;replace a2:=zqm (Kd.S_below zq251 hb);replace a1:=zqm (Kd.Q_below zq219 hb);replace a0:=zqm (blk_below (g:=a5) (o:= .cells #[.slice d0 a3.length c5,.slice d1 a4.length c9] 30 (0,0)) (by(with_reducible repeat(first|refine blk_drewN ?_ _|refine blk_drew ?_|refine blk_alloc ?_ _));refine blk_put (cs:= #[.slice d0 a3.length c5,.slice none 0 0]) ?_ 1 _ rfl;(with_reducible repeat(first|refine blk_drewN ?_ _|refine blk_drew ?_|refine blk_alloc ?_ _));refine blk_put (cs:= #[.slice none 0 0,.slice none 0 0]) ?_ 0 _ rfl;(with_reducible repeat(first|refine blk_drewN ?_ _|refine blk_drew ?_|refine blk_alloc ?_ _));exact a0.out) hb);replace HB:=zqm (below_step zq25 hb);clear hb;have o7:j4.cell? ⟨a5,0,none⟩=some (.slice d0 a3.length c5):=(blk_cell a0.out 0).trans rfl;have o8:j4.cell? ⟨a5,1,none⟩=some (.slice d1 a4.length c9):=(blk_cell a0.out 1).trans rfl;have o9:=blk_frozen a0.out 0;have p0:=blk_frozen a0.out 1)|((with_reducible refine gate_callee (f:=63) rfl ?_);refine goesL_ (some 20) rfl rfl Try.func63 zqk rfl #[.agg #[.slice d0 a3.length c5,.slice d1 a4.length c9],.int .i64 a8] rfl zq1 ?_;(with_reducible refine(spec_ToldBy.calls k _ _ a3 _ _ a4 a8 b9 _ ?side1 ?side2 ?side3 ?side4 A5.out).mono ?_);(case side1=> exact zq5);(case side2=>exact(Kd.S_reads' a2.out).2.1);(case side3=> exact zq39);(case side4=>exact(Kd.Q_reads' a1.out).2.1);rintro e q9 ⟨rfl,hb⟩;refine⟨_,rfl,?_⟩;replace a2:=zqm (Kd.S_below zq6 hb);replace a1:=zqm (Kd.Q_below zq41 hb);replace a0:=zqm (blk_below (g:=a5) (o:= .cells #[.slice d0 a3.length c5,.slice d1 a4.length c9] 30 (0,0)) zq2 hb);replace HB:=zqm (below_step zq25 hb);clear hb)))
      replace a2:=zqm (Kd.S_drew a2.out);replace a1:=zqm (Kd.Q_drew a1.out);replace a0:=zqm (blk_drew a0.out);replace HB:=zqm (below_drew1 HB.out);refine start_ (n:=22) (S:=fun w'=>w'.cell? ⟨a5,0,none⟩=some (.slice d0 a3.length c5)∧w'.cell? ⟨a5,1,none⟩=some (.slice d1 a4.length c9)) (ds:= []) (zqb 22 0) zqk rfl rfl ⟨(blk_cell a0.out 0).trans rfl,(blk_cell a0.out 1).trans rfl⟩ (fun hHeld=>?_);refine with_tabW laws_FnToldBy.tab9 laws_FnToldBy.bits9 (fun HT_ HW_=>?_);generalize q9.drew=t3 at a2 a1 a0 HB hHeld ⊢;refine pure_ (i:=0) (N:=some 29) (v:=?_) (a':=?_) (zqb 22 1) rfl rfl (any_of HT_.out zqk) (fun _ _ _ h=>h) (Or.inl ⟨by rfl,?_⟩) ?_ ?_;rotate_left
      ·exact zqt
      rotate_left
      ·exact zqs
      refine pure_ (i:=3) (N:=some 32) (v:=?_) (a':=?_) (zqb 22 9) rfl rfl (any_of HT_.out zqk) (fun _ _ _ h=>h) (Or.inl ⟨by rfl,?_⟩) ?_ ?_;rotate_left
      ·exact zqt
      rotate_left
      ·exact zqs
      refine take_ (i:=1) (N:=some 30) (v:=?_) (a':=?_) (zqb 22 11) rfl rfl (take_ofW HT_.out HW_.out zqk) (fun _ _ _ h=>h) (Or.inl ⟨by rfl,?_⟩) hHeld ?_ ?_;rotate_left
      ·rintro w' ⟨s0,s1⟩;go_simp;with_reducible rfl
      rotate_left
      ·exact zqs
      refine take_ (i:=2) (N:=some 31) (v:=?_) (a':=?_) (zqb 22 15) rfl rfl (take_ofW HT_.out HW_.out zqk) (fun _ _ _ h=>h) (Or.inl ⟨by rfl,?_⟩) hHeld ?_ ?_;rotate_left
      ·rintro w' ⟨s0,s1⟩;go_simp;with_reducible rfl
      rotate_left
      ·exact zqs
      refine take_ (i:=7) (N:=some 36) (v:=?_) (a':=?_) (zqb 22 143) rfl rfl (take_ofW HT_.out HW_.out zqk) (fun _ _ _ h=>h) (Or.inl ⟨by rfl,?_⟩) hHeld ?_ ?_;rotate_left
      ·rintro w' ⟨s0,s1⟩;go_simp;with_reducible rfl
      rotate_left
      ·exact zqs
      refine one_ (i:=4) (N:=some 33) (zqb 22 159) rfl rfl (one_of HT_.out zqk) (by decide) (fun K hK=>?_);refine goes_ Try.func32 zqk rfl #[.agg #[.slice d0 a3.length c5,.slice d1 a4.length c9],.int .i64 a8] (by rfl) rfl rfl zq1 ?_;(with_reducible refine(impl_NotOf.calls _ _ a3 _ _ a4 a8 c1 _ ?side1 ?side2 ?side3 ?side4 g8.out).mono ?_);(case side1=> exact zq5);(case side2=>exact(Kd.S_reads' a2.out).2.1);(case side3=> exact zq39);(case side4=>exact(Kd.Q_reads' a1.out).2.1);rintro e t4 ⟨rfl,hb⟩;refine⟨_,rfl,?_⟩;replace a2:=zqm (Kd.S_below zq6 hb);replace a1:=zqm (Kd.Q_below zq41 hb);replace a0:=zqm (blk_below (g:=a5) (o:= .cells #[.slice d0 a3.length c5,.slice d1 a4.length c9] 30 (0,0)) zq2 hb);replace HB:=zqm (below_step zq25 hb);clear hb;refine hK.out _ _ ⟨(blk_cell a0.out 0).trans rfl,(blk_cell a0.out 1).trans rfl⟩ (fun hHeld=>?_);clear hK K;refine norm_ (a':=?_) ?_ ?_;rotate_left
      ·show Act.put _ (some 33) _=_;exact zqs
      refine one_ (i:=5) (N:=some 34) (zqb 22 191) rfl rfl (one_of HT_.out zqk) (by decide) (fun K hK=>?_);refine goes_ Try.func62 zqk rfl #[.agg #[.slice d0 a3.length c5,.slice d1 a4.length c9],.int .i64 c1] (by rfl) rfl rfl zq1 ?_;(with_reducible refine(impl_ToldBy.calls _ _ a3 _ _ a4 c1 b0 _ ?side1 ?side2 ?side3 ?side4 h0.out).mono ?_);(case side1=> exact zq5);(case side2=>exact(Kd.S_reads' a2.out).2.1);(case side3=> exact zq39);(case side4=>exact(Kd.Q_reads' a1.out).2.1);rintro e t5 ⟨rfl,hb⟩;refine⟨_,rfl,?_⟩;replace a2:=zqm (Kd.S_below zq6 hb);replace a1:=zqm (Kd.Q_below zq41 hb);replace a0:=zqm (blk_below (g:=a5) (o:= .cells #[.slice d0 a3.length c5,.slice d1 a4.length c9] 30 (0,0)) zq2 hb);replace HB:=zqm (below_step zq25 hb);clear hb;refine hK.out _ _ ⟨(blk_cell a0.out 0).trans rfl,(blk_cell a0.out 1).trans rfl⟩ (fun hHeld=>?_);clear hK K;refine norm_ (a':=?_) ?_ ?_;rotate_left
      ·show Act.put _ (some 34) _=_;exact zqs
      refine pure_ (i:=6) (N:=some 35) (v:=?_) (a':=?_) (zqb 22 255) rfl rfl (any_of HT_.out zqk) (fun _ _ _ h=>h) (Or.inl ⟨by rfl,?_⟩) ?_ ?_;rotate_left
      ·exact zqt
      rotate_left
      ·exact zqs
      refine one_ (i:=8) (N:=some 37) (zqb 22 511) rfl rfl (one_of HT_.out zqk) (by decide) (fun K hK=>?_);refine goes_ Try.func64 zqk rfl #[.agg #[.slice d0 a3.length c5,.slice d1 a4.length c9]] (by rfl) rfl rfl zq1 ?_;(with_reducible refine(impl_StatesOf.calls _ _ a3 _ _ a4 a9 _ ?side1 ?side2 ?side3 ?side4 h2.out).mono ?_);(case side1=> exact zq5);(case side2=>exact(Kd.S_reads' a2.out).2.1);(case side3=> exact zq39);(case side4=>exact(Kd.Q_reads' a1.out).2.1);rintro e t6 ⟨g6,rfl,b5,hb⟩;refine⟨_,rfl,?_⟩;replace a2:=zqm (Kd.S_elder' zq6 (Kd.R_base b5) hb);have f4:=zqm (Kd.Q_elder' zq41 (Kd.R_base b5) hb);have b8:=zqm (Kd.R_lower (Kd.R_new' b5 (Kd.Q_lt zq41)) (below_size zq25));replace a0:=zqm (blk_below (g:=a5) (o:= .cells #[.slice d0 a3.length c5,.slice d1 a4.length c9] 30 (0,0)) zq2 hb);replace HB:=zqm (below_step zq25 hb);clear a1;have a1:=f4;clear f4 hb b5;obtain⟨r3,r4,h7⟩:=Kd.R_slice b8.out;(first|subst h7|(injection h7 with f5 g3 f6;have g4:=f5.symm;have g5:=f6.symm;clear f5 g3 f6;subst g4;subst g5));refine hK.out _ _ ⟨(blk_cell a0.out 0).trans rfl,(blk_cell a0.out 1).trans rfl⟩ (fun hHeld=>?_);clear hK K;refine norm_ (a':=?_) ?_ ?_;rotate_left
      ·show Act.put _ (some 37) _=_;exact zqs
      refine pure_ (i:=9) (N:=some 38) (v:=?_) (a':=?_) (zqb 22 1023) rfl rfl (any_of HT_.out zqk) (fun _ _ _ h=>h) (Or.inl ⟨by rfl,?_⟩) ?_ ?_;rotate_left
      ·exact zqt
      rotate_left
      ·exact zqs
      refine pure_ (i:=10) (N:=some 39) (v:=?_) (a':=?_) (zqb 22 2047) rfl rfl (any_of HT_.out zqk) (fun _ _ _ h=>h) (Or.inl ⟨by rfl,?_⟩) ?_ ?_;rotate_left
      ·exact zqt
      rotate_left
      ·exact zqs
      refine pure_ (i:=11) (N:=some 40) (v:=?_) (a':=?_) (zqb 22 4095) rfl rfl (any_of HT_.out zqk) (fun _ _ _ h=>h) (Or.inl ⟨by rfl,?_⟩) ?_ ?_;rotate_left
      ·exact zqt
      rotate_left
      ·exact zqs
      refine take_ (i:=12) (N:=some 41) (v:=?_) (a':=?_) (zqb 22 8191) rfl rfl (take_ofW HT_.out HW_.out zqk) (fun _ _ _ h=>h) (Or.inl ⟨by rfl,?_⟩) hHeld ?_ ?_;rotate_left
      ·rintro w' ⟨s0,s1⟩;go_simp;with_reducible rfl
      rotate_left
      ·exact zqs
      refine take_ (i:=13) (N:=some 42) (v:=?_) (a':=?_) (zqb 22 16383) rfl rfl (take_ofW HT_.out HW_.out zqk) (fun _ _ _ h=>h) (Or.inl ⟨by rfl,?_⟩) hHeld ?_ ?_;rotate_left
      ·rintro w' ⟨s0,s1⟩;go_simp;with_reducible rfl
      rotate_left
      ·exact zqs
      refine one_ (i:=14) (N:=some 43) (zqb 22 32767) rfl rfl (one_of HT_.out zqk) (by decide) (fun K hK=>?_);refine goes_ Try.func47 zqk rfl #[.agg #[.slice d0 a3.length c5,.slice d1 a4.length c9]] (by rfl) rfl rfl zq1 ?_;(with_reducible refine(impl_NoOf.calls _ _ a3 _ _ a4 b2 _ ?side1 ?side2 ?side3 ?side4 i9.out).mono ?_);(case side1=> exact zq5);(case side2=>exact(Kd.S_reads' a2.out).2.1);(case side3=> exact zq39);(case side4=>exact(Kd.Q_reads' a1.out).2.1);rintro e t7 ⟨rfl,hb⟩;refine⟨_,rfl,?_⟩;replace a2:=zqm (Kd.S_below zq6 hb);replace a1:=zqm (Kd.Q_below zq41 hb);replace b8:=zqm (Kd.R_below zq301 hb);replace a0:=zqm (blk_below (g:=a5) (o:= .cells #[.slice d0 a3.length c5,.slice d1 a4.length c9] 30 (0,0)) zq2 hb);replace HB:=zqm (below_step zq25 hb);clear hb;refine hK.out _ _ ⟨(blk_cell a0.out 0).trans rfl,(blk_cell a0.out 1).trans rfl⟩ (fun hHeld=>?_);clear hK K;refine norm_ (a':=?_) ?_ ?_;rotate_left
      ·show Act.put _ (some 43) _=_;exact zqs
      refine one_ (i:=15) (N:=some 44) (zqb 22 65535) rfl rfl (one_of HT_.out zqk) (by decide) (fun K hK=>?_);refine goes_ Try.func62 zqk rfl #[.agg #[.slice d0 a3.length c5,.slice d1 a4.length c9],.int .i64 b2] (by rfl) rfl rfl zq1 ?_;(with_reducible refine(impl_ToldBy.calls _ _ a3 _ _ a4 b2 b1 _ ?side1 ?side2 ?side3 ?side4 j0.out).mono ?_);(case side1=> exact zq5);(case side2=>exact(Kd.S_reads' a2.out).2.1);(case side3=> exact zq39);(case side4=>exact(Kd.Q_reads' a1.out).2.1);rintro e t8 ⟨rfl,hb⟩;refine⟨_,rfl,?_⟩;replace a2:=zqm (Kd.S_below zq6 hb);replace a1:=zqm (Kd.Q_below zq41 hb);replace b8:=zqm (Kd.R_below zq301 hb);replace a0:=zqm (blk_below (g:=a5) (o:= .cells #[.slice d0 a3.length c5,.slice d1 a4.length c9] 30 (0,0)) zq2 hb);replace HB:=zqm (below_step zq25 hb);clear hb;refine hK.out _ _ ⟨(blk_cell a0.out 0).trans rfl,(blk_cell a0.out 1).trans rfl⟩ (fun hHeld=>?_);clear hK K;refine norm_ (a':=?_) ?_ ?_;rotate_left
      ·show Act.put _ (some 44) _=_;exact zqs
      refine pure_ (i:=16) (N:=some 45) (v:=?_) (a':=?_) (zqb 22 131071) rfl rfl (any_of HT_.out zqk) (fun _ _ _ h=>h) (Or.inl ⟨by rfl,?_⟩) ?_ ?_;rotate_left
      ·exact zqt
      rotate_left
      ·exact zqs
      refine pure_ (i:=17) (N:=some 46) (v:=?_) (a':=?_) (zqb 22 262143) rfl rfl (any_of HT_.out zqk) (fun _ _ _ h=>h) (Or.inl ⟨by rfl,?_⟩) ?_ ?_;rotate_left
      ·exact zqt
      rotate_left
      ·exact zqs
      refine pure_ (i:=18) (N:=some 47) (v:=?_) (a':=?_) (zqb 22 524287) rfl rfl (any_of HT_.out zqk) (fun _ _ _ h=>h) (Or.inl ⟨by rfl,?_⟩) ?_ ?_;rotate_left
      ·exact zqt
      rotate_left
      ·exact zqs
      refine pure_ (i:=19) (N:=some 48) (v:=undef) (a':=?_) (zqb 22 1048575) rfl rfl (any_of HT_.out zqk) (fun _ _ _ h=>h) (Or.inr ⟨by rfl,rfl⟩) ?_ ?_;rotate_left
      ·exact zqs
      refine pure_ (i:=20) (N:=some 49) (v:=?_) (a':=?_) (zqb 22 2097151) rfl rfl (any_of HT_.out zqk) (fun _ _ _ h=>h) (Or.inl ⟨by rfl,?_⟩) ?_ ?_;rotate_left
      ·exact zqt
      rotate_left
      ·exact zqs
      refine pure_ (i:=21) (N:=some 2) (v:=?_) (a':=?_) (zqb 22 4194303) rfl rfl (any_of HT_.out zqk) (fun _ _ _ h=>h) (Or.inl ⟨by rfl,?_⟩) ?_ ?_;rotate_left
      ·exact zqt
      rotate_left
      ·exact zqs
      refine done_ (done_of HT_.out zqk) ?_;try go_wp2
      go_ret
      exact⟨zq11,zq25⟩
    ·rw [if_neg f7] at H;have g1:((wrap64 (a7+b0))==(a9.length:Int))=false:=beq_eq_false_iff_ne.mpr f7;(have c30w0:((IntKind.i64.wrap (a7+b0))==(a9.length:Int))=false:=by simp only [i64_w];exact g1);have g2:((wrap64 (a7+b0)) !=(a9.length:Int))=true:=bne_iff_ne.mpr f7;(have c30w1:((IntKind.i64.wrap (a7+b0)) !=(a9.length:Int))=true:=by simp only [i64_w];exact g2);obtain rfl:=Option.some.inj H
     go_enter Try.func13,Try.ntmps13
     (try go_wp2_with (first|((with_reducible refine gate_callee (f:=61) rfl ?_);refine goesL_ (some 11) rfl rfl Try.func61 zqk rfl #[.slice A0 l0.length c0] rfl zq1 ?_;(with_reducible refine(spec_DrawToldBy.calls k _ _ l0 a3 a4 a8 _ ?side1 ?side2 A3.out).mono ?_);(case side1=> exact zq152);(case side2=>exact g0.out);rintro e t9 ⟨f2,f3,rfl,b5,d7,hb⟩;refine⟨_,rfl,?_⟩;have a2:=zqm (Kd.S_lower b5 (below_size zq0));have a1:=zqm (Kd.Q_lower d7 (below_size zq0));replace HB:=zqm (below_step zq0 hb);clear hb b5 d7)|((with_reducible refine gate_dst (N:=3) rfl ?_);refine box_event ?hg (N:=3) ?hd (cs:= #[.slice none 0 0,.slice none 0 0]) (t:=30) ?hr ?_;(case hd=>rfl);(case hg=>rfl);(case hr=>first|(go_simp;done)|(go_simp;rfl));intro a5 hg j5 hbox hb;replace a2:=zqm (Kd.S_below zq6 hb);replace a1:=zqm (Kd.Q_below zq41 hb);have d8:=zqm (below_step zq0 hb);have a0:=zqm (hbox);have f1:=zqm ((by rw [hg];exact(below_size zq0):w.heap.size≤a5));have a6:=zqm ((by rw [hg];exact(below_size zq0):w.heap.size≤a5));clear HB;have HB:=d8;clear d8 hb hbox hg;obtain⟨d4,d2,l5⟩:=Kd.S_slice a2.out;subst l5;have p1:j5.cell? ⟨a5,0,none⟩=some (.slice none 0 0):=(blk_cell a0.out 0).trans rfl;have p2:j5.cell? ⟨a5,1,none⟩=some (.slice none 0 0):=(blk_cell a0.out 1).trans rfl;have p3:=blk_frozen a0.out 0;have p4:=blk_frozen a0.out 1;obtain⟨d5,d3,l6,_⟩:=Kd.Q_slice a1.out;subst l6)|((with_reducible refine gate_callee (f:=62) rfl ?_);refine goesL_ (some 16) rfl rfl Try.func62 zqk rfl #[.agg #[.slice d4 a3.length d2,.slice d5 a4.length d3],.int .i64 a8] rfl zq1 ?_;(with_reducible refine(impl_ToldBy.calls _ _ a3 _ _ a4 a8 a7 _ ?side1 ?side2 ?side3 ?side4 A4.out).mono ?_);(case side1=>refine(Kd.S_reads' (e:=28) (base:=w.heap.size) (ok:=fun k_=>some k_≠(.slice d5 a4.length d3:Value).ownBlock) (n:=a3.length) (c:=d2) ?_).2.2;exact zq223);(case side2=>exact(Kd.S_reads' a2.out).2.1);(case side3=>refine(Kd.Q_reads' (e:=3) (base:=w.heap.size) (ok:=fun k_=>True) (n:=a4.length) (c:=d3) ?_).2.2;exact zq211);(case side4=>exact(Kd.Q_reads' a1.out).2.1);rintro e j6 ⟨rfl,hb⟩;refine⟨_,rfl,?_⟩;replace a2:=zqm (Kd.S_below zq223 hb);replace a1:=zqm (Kd.Q_below zq211 hb);replace a0:=zqm (blk_below (g:=a5) (o:= .cells #[.slice d4 a3.length d2,.slice d5 a4.length d3] 30 (0,0)) (by(with_reducible repeat(first|refine blk_drewN ?_ _|refine blk_drew ?_|refine blk_alloc ?_ _));refine blk_put (cs:= #[.slice d4 a3.length d2,.slice none 0 0]) ?_ 1 _ rfl;(with_reducible repeat(first|refine blk_drewN ?_ _|refine blk_drew ?_|refine blk_alloc ?_ _));refine blk_put (cs:= #[.slice none 0 0,.slice none 0 0]) ?_ 0 _ rfl;(with_reducible repeat(first|refine blk_drewN ?_ _|refine blk_drew ?_|refine blk_alloc ?_ _));exact a0.out) hb);replace HB:=zqm (below_step zq25 hb);clear hb;have p5:j6.cell? ⟨a5,0,none⟩=some (.slice d4 a3.length d2):=(blk_cell a0.out 0).trans rfl;have p6:j6.cell? ⟨a5,1,none⟩=some (.slice d5 a4.length d3):=(blk_cell a0.out 1).trans rfl;have p7:=blk_frozen a0.out 0;have p8:=blk_frozen a0.out 1)|((with_reducible refine gate_callee (f:=63) rfl ?_);refine goesL_ (some 20) rfl rfl Try.func63 zqk rfl #[.agg #[.slice d4 a3.length d2,.slice d5 a4.length d3],.int .i64 a8] rfl zq1 ?_;(with_reducible refine(spec_ToldBy.calls k _ _ a3 _ _ a4 a8 b9 _ ?side1 ?side2 ?side3 ?side4 A5.out).mono ?_);(case side1=> exact zq5);(case side2=>exact(Kd.S_reads' a2.out).2.1);(case side3=> exact zq39);(case side4=>exact(Kd.Q_reads' a1.out).2.1);rintro e r0 ⟨rfl,hb⟩;refine⟨_,rfl,?_⟩;replace a2:=zqm (Kd.S_below zq6 hb);replace a1:=zqm (Kd.Q_below zq41 hb);replace a0:=zqm (blk_below (g:=a5) (o:= .cells #[.slice d4 a3.length d2,.slice d5 a4.length d3] 30 (0,0)) zq2 hb);replace HB:=zqm (below_step zq25 hb);clear hb)))
     replace a2:=zqm (Kd.S_drew a2.out);replace a1:=zqm (Kd.Q_drew a1.out);replace a0:=zqm (blk_drew a0.out);replace HB:=zqm (below_drew1 HB.out);refine start_ (n:=22) (S:=fun w'=>w'.cell? ⟨a5,0,none⟩=some (.slice d4 a3.length d2)∧w'.cell? ⟨a5,1,none⟩=some (.slice d5 a4.length d3)) (ds:= []) (zqb 22 0) zqk rfl rfl ⟨(blk_cell a0.out 0).trans rfl,(blk_cell a0.out 1).trans rfl⟩ (fun hHeld=>?_);refine with_tabW laws_FnToldBy.tab9 laws_FnToldBy.bits9 (fun HT_ HW_=>?_);generalize r0.drew=u0 at a2 a1 a0 HB hHeld ⊢;refine pure_ (i:=0) (N:=some 29) (v:=?_) (a':=?_) (zqb 22 1) rfl rfl (any_of HT_.out zqk) (fun _ _ _ h=>h) (Or.inl ⟨by rfl,?_⟩) ?_ ?_;rotate_left
     ·exact zqt
     rotate_left
     ·exact zqs
     refine pure_ (i:=3) (N:=some 32) (v:=?_) (a':=?_) (zqb 22 9) rfl rfl (any_of HT_.out zqk) (fun _ _ _ h=>h) (Or.inl ⟨by rfl,?_⟩) ?_ ?_;rotate_left
     ·exact zqt
     rotate_left
     ·exact zqs
     refine take_ (i:=1) (N:=some 30) (v:=?_) (a':=?_) (zqb 22 11) rfl rfl (take_ofW HT_.out HW_.out zqk) (fun _ _ _ h=>h) (Or.inl ⟨by rfl,?_⟩) hHeld ?_ ?_;rotate_left
     ·rintro w' ⟨s0,s1⟩;go_simp;with_reducible rfl
     rotate_left
     ·exact zqs
     refine take_ (i:=2) (N:=some 31) (v:=?_) (a':=?_) (zqb 22 15) rfl rfl (take_ofW HT_.out HW_.out zqk) (fun _ _ _ h=>h) (Or.inl ⟨by rfl,?_⟩) hHeld ?_ ?_;rotate_left
     ·rintro w' ⟨s0,s1⟩;go_simp;with_reducible rfl
     rotate_left
     ·exact zqs
     refine take_ (i:=7) (N:=some 36) (v:=?_) (a':=?_) (zqb 22 143) rfl rfl (take_ofW HT_.out HW_.out zqk) (fun _ _ _ h=>h) (Or.inl ⟨by rfl,?_⟩) hHeld ?_ ?_;rotate_left
     ·rintro w' ⟨s0,s1⟩;go_simp;with_reducible rfl
     rotate_left
     ·exact zqs
     refine one_ (i:=4) (N:=some 33) (zqb 22 159) rfl rfl (one_of HT_.out zqk) (by decide) (fun K hK=>?_);refine goes_ Try.func32 zqk rfl #[.agg #[.slice d4 a3.length d2,.slice d5 a4.length d3],.int .i64 a8] (by rfl) rfl rfl zq1 ?_;(with_reducible refine(impl_NotOf.calls _ _ a3 _ _ a4 a8 c1 _ ?side1 ?side2 ?side3 ?side4 g8.out).mono ?_);(case side1=> exact zq5);(case side2=>exact(Kd.S_reads' a2.out).2.1);(case side3=> exact zq39);(case side4=>exact(Kd.Q_reads' a1.out).2.1);rintro e u1 ⟨rfl,hb⟩;refine⟨_,rfl,?_⟩;replace a2:=zqm (Kd.S_below zq6 hb);replace a1:=zqm (Kd.Q_below zq41 hb);replace a0:=zqm (blk_below (g:=a5) (o:= .cells #[.slice d4 a3.length d2,.slice d5 a4.length d3] 30 (0,0)) zq2 hb);replace HB:=zqm (below_step zq25 hb);clear hb;refine hK.out _ _ ⟨(blk_cell a0.out 0).trans rfl,(blk_cell a0.out 1).trans rfl⟩ (fun hHeld=>?_);clear hK K;refine norm_ (a':=?_) ?_ ?_;rotate_left
     ·show Act.put _ (some 33) _=_;exact zqs
     refine one_ (i:=5) (N:=some 34) (zqb 22 191) rfl rfl (one_of HT_.out zqk) (by decide) (fun K hK=>?_);refine goes_ Try.func62 zqk rfl #[.agg #[.slice d4 a3.length d2,.slice d5 a4.length d3],.int .i64 c1] (by rfl) rfl rfl zq1 ?_;(with_reducible refine(impl_ToldBy.calls _ _ a3 _ _ a4 c1 b0 _ ?side1 ?side2 ?side3 ?side4 h0.out).mono ?_);(case side1=> exact zq5);(case side2=>exact(Kd.S_reads' a2.out).2.1);(case side3=> exact zq39);(case side4=>exact(Kd.Q_reads' a1.out).2.1);rintro e u2 ⟨rfl,hb⟩;refine⟨_,rfl,?_⟩;replace a2:=zqm (Kd.S_below zq6 hb);replace a1:=zqm (Kd.Q_below zq41 hb);replace a0:=zqm (blk_below (g:=a5) (o:= .cells #[.slice d4 a3.length d2,.slice d5 a4.length d3] 30 (0,0)) zq2 hb);replace HB:=zqm (below_step zq25 hb);clear hb;refine hK.out _ _ ⟨(blk_cell a0.out 0).trans rfl,(blk_cell a0.out 1).trans rfl⟩ (fun hHeld=>?_);clear hK K;refine norm_ (a':=?_) ?_ ?_;rotate_left
     ·show Act.put _ (some 34) _=_;exact zqs
     refine pure_ (i:=6) (N:=some 35) (v:=?_) (a':=?_) (zqb 22 255) rfl rfl (any_of HT_.out zqk) (fun _ _ _ h=>h) (Or.inl ⟨by rfl,?_⟩) ?_ ?_;rotate_left
     ·exact zqt
     rotate_left
     ·exact zqs
     refine one_ (i:=8) (N:=some 37) (zqb 22 511) rfl rfl (one_of HT_.out zqk) (by decide) (fun K hK=>?_);refine goes_ Try.func64 zqk rfl #[.agg #[.slice d4 a3.length d2,.slice d5 a4.length d3]] (by rfl) rfl rfl zq1 ?_;(with_reducible refine(impl_StatesOf.calls _ _ a3 _ _ a4 a9 _ ?side1 ?side2 ?side3 ?side4 h2.out).mono ?_);(case side1=> exact zq5);(case side2=>exact(Kd.S_reads' a2.out).2.1);(case side3=> exact zq39);(case side4=>exact(Kd.Q_reads' a1.out).2.1);rintro e u3 ⟨g6,rfl,b5,hb⟩;refine⟨_,rfl,?_⟩;replace a2:=zqm (Kd.S_elder' zq6 (Kd.R_base b5) hb);have f4:=zqm (Kd.Q_elder' zq41 (Kd.R_base b5) hb);have b8:=zqm (Kd.R_lower (Kd.R_new' b5 (Kd.Q_lt zq41)) (below_size zq25));replace a0:=zqm (blk_below (g:=a5) (o:= .cells #[.slice d4 a3.length d2,.slice d5 a4.length d3] 30 (0,0)) zq2 hb);replace HB:=zqm (below_step zq25 hb);clear a1;have a1:=f4;clear f4 hb b5;obtain⟨r5,r6,h8⟩:=Kd.R_slice b8.out;(first|subst h8|(injection h8 with f5 g3 f6;have g4:=f5.symm;have g5:=f6.symm;clear f5 g3 f6;subst g4;subst g5));refine hK.out _ _ ⟨(blk_cell a0.out 0).trans rfl,(blk_cell a0.out 1).trans rfl⟩ (fun hHeld=>?_);clear hK K;refine norm_ (a':=?_) ?_ ?_;rotate_left
     ·show Act.put _ (some 37) _=_;exact zqs
     refine pure_ (i:=9) (N:=some 38) (v:=?_) (a':=?_) (zqb 22 1023) rfl rfl (any_of HT_.out zqk) (fun _ _ _ h=>h) (Or.inl ⟨by rfl,?_⟩) ?_ ?_;rotate_left
     ·exact zqt
     rotate_left
     ·exact zqs
     refine pure_ (i:=10) (N:=some 39) (v:=?_) (a':=?_) (zqb 22 2047) rfl rfl (any_of HT_.out zqk) (fun _ _ _ h=>h) (Or.inl ⟨by rfl,?_⟩) ?_ ?_;rotate_left
     ·exact zqt
     rotate_left
     ·exact zqs
     refine pure_ (i:=11) (N:=some 40) (v:=?_) (a':=?_) (zqb 22 4095) rfl rfl (any_of HT_.out zqk) (fun _ _ _ h=>h) (Or.inl ⟨by rfl,?_⟩) ?_ ?_;rotate_left
     ·exact zqt
     rotate_left
     ·exact zqs
     refine pure_ (i:=12) (N:=some 41) (v:=undef) (a':=?_) (zqb 22 8191) rfl rfl (any_of HT_.out zqk) (fun _ _ _ h=>h) (Or.inr ⟨by rfl,rfl⟩) ?_ ?_;rotate_left
     ·exact zqs
     refine pure_ (i:=13) (N:=some 42) (v:=undef) (a':=?_) (zqb 22 16383) rfl rfl (any_of HT_.out zqk) (fun _ _ _ h=>h) (Or.inr ⟨by rfl,rfl⟩) ?_ ?_;rotate_left
     ·exact zqs
     refine pure_ (i:=14) (N:=some 43) (v:=undef) (a':=?_) (zqb 22 32767) rfl rfl (any_of HT_.out zqk) (fun _ _ _ h=>h) (Or.inr ⟨by rfl,rfl⟩) ?_ ?_;rotate_left
     ·exact zqs
     refine pure_ (i:=15) (N:=some 44) (v:=undef) (a':=?_) (zqb 22 65535) rfl rfl (any_of HT_.out zqk) (fun _ _ _ h=>h) (Or.inr ⟨by rfl,rfl⟩) ?_ ?_;rotate_left
     ·exact zqs
     refine pure_ (i:=16) (N:=some 45) (v:=undef) (a':=?_) (zqb 22 131071) rfl rfl (any_of HT_.out zqk) (fun _ _ _ h=>h) (Or.inr ⟨by rfl,rfl⟩) ?_ ?_;rotate_left
     ·exact zqs
     refine pure_ (i:=17) (N:=some 46) (v:=?_) (a':=?_) (zqb 22 262143) rfl rfl (any_of HT_.out zqk) (fun _ _ _ h=>h) (Or.inl ⟨by rfl,?_⟩) ?_ ?_;rotate_left
     ·exact zqt
     rotate_left
     ·exact zqs
     refine pure_ (i:=18) (N:=some 47) (v:=?_) (a':=?_) (zqb 22 524287) rfl rfl (any_of HT_.out zqk) (fun _ _ _ h=>h) (Or.inl ⟨by rfl,?_⟩) ?_ ?_;rotate_left
     ·exact zqt
     rotate_left
     ·exact zqs
     refine pure_ (i:=19) (N:=some 48) (v:=undef) (a':=?_) (zqb 22 1048575) rfl rfl (any_of HT_.out zqk) (fun _ _ _ h=>h) (Or.inr ⟨by rfl,rfl⟩) ?_ ?_;rotate_left
     ·exact zqs
     refine pure_ (i:=20) (N:=some 49) (v:=?_) (a':=?_) (zqb 22 2097151) rfl rfl (any_of HT_.out zqk) (fun _ _ _ h=>h) (Or.inl ⟨by rfl,?_⟩) ?_ ?_;rotate_left
     ·exact zqt
     rotate_left
     ·exact zqs
     refine pure_ (i:=21) (N:=some 2) (v:=?_) (a':=?_) (zqb 22 4194303) rfl rfl (any_of HT_.out zqk) (fun _ _ _ h=>h) (Or.inl ⟨by rfl,?_⟩) ?_ ?_;rotate_left
     ·exact zqt
     rotate_left
     ·exact zqs
     refine done_ (done_of HT_.out zqk) ?_;try go_wp2
     go_ret
     exact⟨zq11,zq25⟩
  ·rw [if_neg c6] at H;have k1:(a7==b9)=false:=beq_eq_false_iff_ne.mpr c6;have k2:(a7 !=b9)=true:=bne_iff_ne.mpr c6;obtain rfl:=Option.some.inj H
   go_enter Try.func13,Try.ntmps13
   go_wp2_with (first|((with_reducible refine gate_callee (f:=61) rfl ?_);refine goesL_ (some 11) rfl rfl Try.func61 zqk rfl #[.slice A0 l0.length c0] rfl zq1 ?_;(with_reducible refine(spec_DrawToldBy.calls k _ _ l0 a3 a4 a8 _ ?side1 ?side2 A3.out).mono ?_);(case side1=> exact zq152);(case side2=>exact g0.out);rintro e u4 ⟨f2,f3,rfl,b5,d7,hb⟩;refine⟨_,rfl,?_⟩;have a2:=zqm (Kd.S_lower b5 (below_size zq0));have a1:=zqm (Kd.Q_lower d7 (below_size zq0));replace HB:=zqm (below_step zq0 hb);clear hb b5 d7)|((with_reducible refine gate_dst (N:=3) rfl ?_);refine box_event ?hg (N:=3) ?hd (cs:= #[.slice none 0 0,.slice none 0 0]) (t:=30) ?hr ?_;(case hd=>rfl);(case hg=>rfl);(case hr=>first|(go_simp;done)|(go_simp;rfl));intro a5 hg j7 hbox hb;replace a2:=zqm (Kd.S_below zq6 hb);replace a1:=zqm (Kd.Q_below zq41 hb);have d8:=zqm (below_step zq0 hb);have a0:=zqm (hbox);have f1:=zqm ((by rw [hg];exact(below_size zq0):w.heap.size≤a5));have a6:=zqm ((by rw [hg];exact(below_size zq0):w.heap.size≤a5));clear HB;have HB:=d8;clear d8 hb hbox hg;obtain⟨e9,e5,l7⟩:=Kd.S_slice a2.out;subst l7;have p9:j7.cell? ⟨a5,0,none⟩=some (.slice none 0 0):=(blk_cell a0.out 0).trans rfl;have q0:j7.cell? ⟨a5,1,none⟩=some (.slice none 0 0):=(blk_cell a0.out 1).trans rfl;have q1:=blk_frozen a0.out 0;have q2:=blk_frozen a0.out 1;obtain⟨f0,e6,l8,_⟩:=Kd.Q_slice a1.out;subst l8)|((with_reducible refine gate_callee (f:=62) rfl ?_);refine goesL_ (some 16) rfl rfl Try.func62 zqk rfl #[.agg #[.slice e9 a3.length e5,.slice f0 a4.length e6],.int .i64 a8] rfl zq1 ?_;(with_reducible refine(impl_ToldBy.calls _ _ a3 _ _ a4 a8 a7 _ ?side1 ?side2 ?side3 ?side4 A4.out).mono ?_);(case side1=>refine(Kd.S_reads' (e:=28) (base:=w.heap.size) (ok:=fun k_=>some k_≠(.slice f0 a4.length e6:Value).ownBlock) (n:=a3.length) (c:=e5) ?_).2.2;exact zq217);(case side2=>exact(Kd.S_reads' a2.out).2.1);(case side3=>refine(Kd.Q_reads' (e:=3) (base:=w.heap.size) (ok:=fun k_=>True) (n:=a4.length) (c:=e6) ?_).2.2;exact zq205);(case side4=>exact(Kd.Q_reads' a1.out).2.1);rintro e j8 ⟨rfl,hb⟩;refine⟨_,rfl,?_⟩;replace a2:=zqm (Kd.S_below zq217 hb);replace a1:=zqm (Kd.Q_below zq205 hb);replace a0:=zqm (blk_below (g:=a5) (o:= .cells #[.slice e9 a3.length e5,.slice f0 a4.length e6] 30 (0,0)) (by(with_reducible repeat(first|refine blk_drewN ?_ _|refine blk_drew ?_|refine blk_alloc ?_ _));refine blk_put (cs:= #[.slice e9 a3.length e5,.slice none 0 0]) ?_ 1 _ rfl;(with_reducible repeat(first|refine blk_drewN ?_ _|refine blk_drew ?_|refine blk_alloc ?_ _));refine blk_put (cs:= #[.slice none 0 0,.slice none 0 0]) ?_ 0 _ rfl;(with_reducible repeat(first|refine blk_drewN ?_ _|refine blk_drew ?_|refine blk_alloc ?_ _));exact a0.out) hb);replace HB:=zqm (below_step zq25 hb);clear hb;have q3:j8.cell? ⟨a5,0,none⟩=some (.slice e9 a3.length e5):=(blk_cell a0.out 0).trans rfl;have q4:j8.cell? ⟨a5,1,none⟩=some (.slice f0 a4.length e6):=(blk_cell a0.out 1).trans rfl;have q5:=blk_frozen a0.out 0;have q6:=blk_frozen a0.out 1)|((with_reducible refine gate_callee (f:=63) rfl ?_);refine goesL_ (some 20) rfl rfl Try.func63 zqk rfl #[.agg #[.slice e9 a3.length e5,.slice f0 a4.length e6],.int .i64 a8] rfl zq1 ?_;(with_reducible refine(spec_ToldBy.calls k _ _ a3 _ _ a4 a8 b9 _ ?side1 ?side2 ?side3 ?side4 A5.out).mono ?_);(case side1=> exact zq5);(case side2=>exact(Kd.S_reads' a2.out).2.1);(case side3=> exact zq39);(case side4=>exact(Kd.Q_reads' a1.out).2.1);rintro e u5 ⟨rfl,hb⟩;refine⟨_,rfl,?_⟩;replace a2:=zqm (Kd.S_below zq6 hb);replace a1:=zqm (Kd.Q_below zq41 hb);replace a0:=zqm (blk_below (g:=a5) (o:= .cells #[.slice e9 a3.length e5,.slice f0 a4.length e6] 30 (0,0)) zq2 hb);replace HB:=zqm (below_step zq25 hb);clear hb))
   go_ret
   exact⟨zq11,zq25⟩
def laws_FnToldBy.Pure : Prop := ∀ (l0 : List Int), l0.length ≤ maxLen → l0.length * 1 ≤ 140737488351232 → (∀ x ∈ l0, (Lit.int .u8 x).wf = true) → ∃ k, laws_FnToldBy.f k l0 = some true
theorem laws_FnToldBy.walk (P : laws_FnToldBy.Pure) (a0 : Option Addr) (len0 cap0 : Nat) (z0 : List Int) (w : World) (w0 : (a0 = none ∧ len0 = 0 ∧ cap0 = 0 ∧ z0 = []) ∨ ∃ x, a0 = some x ∧ len0 ≤ cap0 ∧ cap0 ≤ maxLen ∧ z0.length = cap0 ∧ (∀ i, i < z0.length → w.cell? (x.add i) = some (.int .u8 (z0.getD i 0))) ∧ ∀ n ∈ z0, (Lit.int .u8 n).wf = true) (y0 : len0 * 1 ≤ 140737488351232) :
  Calls Try.prog 13 #[.slice a0 len0 cap0] w fun e w' => e = .returned (.bool true) ∧ Below w.heap.size w w' := by
 obtain ⟨l0, rfl, hr0, hm0, hw0, hc0⟩ := ReadsInt.ofRowC w0
 obtain ⟨k, h⟩ := P l0 hm0 y0 hw0
 refine (laws_FnToldBy.calls k _ _ l0 true w (Kd.C_of_reads (d := (0 : Int)) (h1 := fun _ => rfl) hr0) hc0 h).mono ?_
 rintro e w' ⟨rfl, hd⟩
 exact ⟨rfl, hd⟩
end Go.Proofs.Ytdoomkcgdcfmlaa.Print
end
section
namespace Go.Proofs.Ytdoomkcgdcfmlaa.Print
open Go.RowKit Go.Proofs.YtdoomkcgdcfmlaaW.PrintWords Go.Proofs.YtdoomkcgdcfmlaaW.PrintLast Go.Proofs.YtdoomkcgdcfmlaaW.PrintMore
open Oml
def stS (U : List (List Int)) (N : List Int) (s : Nat) : Bool := s.testBit (yesI U N).toNat && allN U.length fun a => (s.testBit a != s.testBit (notI N a).toNat) && allN a fun b => !leI U a (notI N b) || (!(s.testBit a && s.testBit b) && (s.testBit (orI U a b).toNat == (s.testBit a || s.testBit b)))
section
variable {U : List (List Int)} {N : List Int} (L : Logic U N)
theorem stT_fin (s : Nat) (x y : Fin U.length) : stT U N s x.1 y.1 = true ↔ s.testBit (L.ol.neg x).1 = (!s.testBit x.1) ∧ (L.ol.le x (L.ol.neg y) → s.testBit (L.ol.join x y).1 = (s.testBit x.1 || s.testBit y.1) ∧ (s.testBit x.1 && s.testBit y.1) = false) := by
  unfold stT
  rw [not_fin L,not_fin L,or_fin L]
  simp only [Int.toNat_natCast]
  have hle : leI U ((x.1 : Nat) : Int) (((L.ol.neg y).1 : Nat) : Int) = false ↔ ¬ L.ol.le x (L.ol.neg y) := by
    rw [← le_fin L,Bool.not_eq_true]
  generalize s.testBit (L.ol.neg x).1=n
  generalize s.testBit (L.ol.join x y).1=z
  generalize s.testBit x.1=p
  generalize s.testBit y.1=q
  by_cases h:L.ol.le x (L.ol.neg y)
  · have h2 : ¬ leI U ((x.1 : Nat) : Int) (((L.ol.neg y).1 : Nat) : Int) = false := fun e => hle.1 e h
    rw [if_neg h2]
    cases n <;> cases z <;> cases p <;> cases q <;> simp [h]
  · rw [if_pos (hle.2 h)]
    cases n <;> cases p <;> simp [h]
theorem stB_iff (s : Nat) : stB U N s = true ↔ L.ol.State (fun x : Fin U.length => s.testBit x.1) := by
  unfold stB
  rw [Bool.and_eq_true,yes_fin L,Int.toNat_natCast,allN_fin]
  constructor
  · rintro ⟨h1, h2⟩
    have h3: ∀x y:Fin U.length,stT U N s x.1 y.1=true:=fun x y=>allN_fin.1 (h2 x) y
    exact { top:=h1,neg:=fun a=>((stT_fin L s a a).1 (h3 a a)).1,join:=fun a b h=>((stT_fin L s a b).1 (h3 a b)).2 h }
  · intro S
    exact⟨S.top,fun x=>allN_fin.2 fun y=>(stT_fin L s x y).2 ⟨S.neg x,S.join x y⟩⟩
theorem stS_iff (s : Nat) : stS U N s = true ↔ L.ol.State (fun x : Fin U.length => s.testBit x.1) := by
  unfold stS
  rw [Bool.and_eq_true,yes_fin L,Int.toNat_natCast,allN_fin]
  have key : ∀ x y : Fin U.length, (!leI U ((x.1 : Nat) : Int) (notI N ((y.1 : Nat) : Int)) || (!(s.testBit x.1 && s.testBit y.1) && (s.testBit (orI U ((x.1 : Nat) : Int) ((y.1 : Nat) : Int)).toNat == (s.testBit x.1 || s.testBit y.1)))) = true ↔ (L.ol.le x (L.ol.neg y) → s.testBit (L.ol.join x y).1 = (s.testBit x.1 || s.testBit y.1) ∧ (s.testBit x.1 && s.testBit y.1) = false) := by
    intro x y
    rw [not_fin L,or_fin L,Int.toNat_natCast,← le_fin L]
    generalize s.testBit (L.ol.join x y).1=z
    generalize s.testBit x.1=p
    generalize s.testBit y.1=q
    generalize leI U ((x.1:Nat):Int) (((L.ol.neg y).1:Nat):Int)=le
    cases le <;> cases z <;> cases p <;> cases q <;> simp
  have neg : ∀ x : Fin U.length, (s.testBit x.1 != s.testBit (notI N ((x.1 : Nat) : Int)).toNat) = true ↔ s.testBit (L.ol.neg x).1 = (!s.testBit x.1) := by
    intro x
    rw [not_fin L,Int.toNat_natCast]
    generalize s.testBit (L.ol.neg x).1=n
    generalize s.testBit x.1=p
    cases n <;> cases p <;> simp
  constructor
  · rintro ⟨h1, h2⟩
    have hn: ∀x:Fin U.length,s.testBit (L.ol.neg x).1=(!s.testBit x.1):=fun x=>(neg x).1 (Bool.and_eq_true_iff.1 (h2 x)).1
    have hb : s.testBit (L.ol.bot).1 = false := by
      have:=hn L.ol.top
      rw [L.ol.neg_top,h1] at this
      exact this
    have hj: ∀x y:Fin U.length,y.1<x.1→L.ol.le x (L.ol.neg y)→s.testBit (L.ol.join x y).1=(s.testBit x.1||s.testBit y.1)∧(s.testBit x.1 && s.testBit y.1)=false:=fun x y hlt=>(key x y).1 (allN_iff.1 (Bool.and_eq_true_iff.1 (h2 x)).2 y.1 hlt)
    refine { top:=h1,neg:=hn,join:=fun x y h=>?_ }
    rcases Nat.lt_trichotomy y.1 x.1 with hlt|heq|hgt
    · exact hj x y hlt h
    · obtain rfl : y = x := Fin.ext heq
      have h3 : y = L.ol.bot := by
        have:=L.ol.meet_neg y
        rwa [(L.ol.meet_eq_l y (L.ol.neg y)).2 h] at this
      show s.testBit (L.ol.join y y).1=(s.testBit y.1||s.testBit y.1)∧(s.testBit y.1 && s.testBit y.1)=false
      rw [L.ol.join_self,h3,hb]
      exact⟨rfl,rfl⟩
    · have h' : L.ol.le y (L.ol.neg x) := by
        have:=L.ol.neg_anti _ _ h
        rwa [L.ol.neg_neg] at this
      obtain⟨e1,e2⟩:=hj y x hgt h'
      show s.testBit (L.ol.join x y).1=(s.testBit x.1||s.testBit y.1)∧(s.testBit x.1 && s.testBit y.1)=false
      rw [L.ol.join_comm,e1,Bool.or_comm,Bool.and_comm]
      exact⟨rfl,e2⟩
  · intro S
    refine⟨S.top,fun x=>?_⟩
    rw [Bool.and_eq_true,neg x,allN_iff]
    refine⟨S.neg x,fun b hb=>?_⟩
    exact(key x ⟨b,by have:=x.2;omega⟩).2 (S.join x _)
include L in
theorem stS_eq (s : Nat) : stS U N s = stB U N s := by rw [Bool.eq_iff_iff, stS_iff L, stB_iff L]
end
end Go.Proofs.Ytdoomkcgdcfmlaa.Print
end
section
namespace Go.Proofs.Ytdoomkcgdcfmlaa.Print
open Go.RowKit Go.Proofs.YtdoomkcgdcfmlaaW.PrintWords Go.Proofs.YtdoomkcgdcfmlaaW.PrintLast Go.Proofs.YtdoomkcgdcfmlaaW.PrintMore
open Oml
theorem spec_NoOf.ev (U : List (List Int)) (N : List Int) : Ev (fun k => spec_NoOf.f k U N) (if logicB U N = true then noI U else -1) := by
  unfold spec_NoOf.f
  refine Ev.bind (spec_LogicOk.ev U N) ?_
  cases hl:logicB U N with
  | false => repeat (first | ((with_reducible refine Ev.ite_pos ?_ ?_); (first | assumption | (focus omega) | (focus (simp; done)))) | ((with_reducible refine Ev.ite_neg ?_ ?_); (first | assumption | (focus omega) | (focus (simp; done)))))
             exact Ev.now _
  | true =>
    have L:=logicB_iff.1 hl
    have ho:orderB U=true:=orderB_iff.2 L.toOrder
    repeat(first|((with_reducible refine Ev.ite_pos ?_ ?_);(first|assumption|(focus omega)|(focus (simp;done))))|((with_reducible refine Ev.ite_neg ?_ ?_);(first|assumption|(focus omega)|(focus (simp;done)))))
    refine Ev.bind (spec_LeastOf.ev U) ?_
    rw [ho]
    exact Ev.now _
theorem spec_YesOf.ev (U : List (List Int)) (N : List Int) : Ev (fun k => spec_YesOf.f k U N) (if logicB U N = true then yesI U N else -1) := by
  unfold spec_YesOf.f
  refine Ev.bind (spec_NoOf.ev U N) ?_
  cases hl:logicB U N with
  | false =>
    rw [if_neg (by simp),if_neg (by simp)]
    refine Ev.bind (spec_NotOf.ev U N _) ?_
    rw [hl]
    exact Ev.now _
  | true =>
    have L:=logicB_iff.1 hl
    rw [if_pos rfl,if_pos rfl]
    refine Ev.bind (spec_NotOf.ev U N _) ?_
    rw [hl,if_pos rfl,if_pos (inR_iff.2 L.in_no)]
    exact Ev.now _
theorem spec_l9State.ev {U : List (List Int)} {N : List Int} (L : Logic U N) (s : Nat) : Ev (fun k => spec_l9State.f k U N (s : Int) (yesI U N)) (stB U N s) := by
  rw [← stS_eq L]
  unfold spec_l9State.f stS
  have hs:=L.small
  have hln:=L.len
  have O:=L.toOrder
  rw [yes_fin L,smod_nat s (show (L.ol.top).1≤64 by have:=(L.ol.top).2;omega),Int.toNat_natCast]
  repeat(first|((with_reducible refine Ev.ite_pos ?_ ?_);(first|assumption|(focus omega)|(focus (simp;done))))|((with_reducible refine Ev.ite_neg ?_ ?_);(first|assumption|(focus omega)|(focus (simp;done)))))
  cases ht:s.testBit (L.ol.top).1 with
  | false =>
    rw [if_neg (by simp)]
    repeat(first|((with_reducible refine Ev.ite_pos ?_ ?_);(first|assumption|(focus omega)|(focus (simp;done))))|((with_reducible refine Ev.ite_neg ?_ ?_);(first|assumption|(focus omega)|(focus (simp;done)))))
    rw [Bool.false_and]
    exact Ev.now _
  | true =>
    rw [if_pos rfl,Bool.true_and]
    repeat(first|((with_reducible refine Ev.ite_pos ?_ ?_);(first|assumption|(focus omega)|(focus (simp;done))))|((with_reducible refine Ev.ite_neg ?_ ?_);(first|assumption|(focus omega)|(focus (simp;done)))))
    refine Ev.eq (Ev.all (n:=U.length) (g:=fun k a=>spec_l9State.l0 k (s:Int) a U N) (fun a=>(s.testBit a !=s.testBit (notI N a).toNat) && allN a fun b=>!leI U a (notI N b)||(!(s.testBit a && s.testBit b) && (s.testBit (orI U a b).toNat==(s.testBit a||s.testBit b)))) (go:=true) (stop:=false) (by omega) (fun _=>?_) fun a ha _ R hR=>?_) (by cases allN U.length _ <;> rfl)
    · refine Ev.succ ?_
      simp only [spec_l9State.l0]
      repeat(first|((with_reducible refine Ev.ite_pos ?_ ?_);(first|assumption|(focus omega)|(focus (simp;done))))|((with_reducible refine Ev.ite_neg ?_ ?_);(first|assumption|(focus omega)|(focus (simp;done)))))
      exact Ev.now _
    · have hra := O.row a ha
      have hna:at1 N a=(((L.ol.neg ⟨a,ha⟩).1:Nat):Int):=L.ng_eq ⟨a,ha⟩
      have hna2 : (notI N (a : Int)).toNat = (L.ol.neg ⟨a, ha⟩).1 := by
        have:=not_fin L (⟨a,ha⟩:Fin U.length)
        rw [this,Int.toNat_natCast]
      have hnl:=(L.ol.neg ⟨a,ha⟩).2
      refine Ev.succ ?_
      simp only [spec_l9State.l0,rd_nat,hna,smod_nat s (show a≤64 by omega),smod_nat s (show (L.ol.neg ⟨a,ha⟩).1≤64 by omega)]
      rw [hna2] at hR ⊢
      repeat(first|((with_reducible refine Ev.ite_pos ?_ ?_);(first|assumption|(focus omega)|(focus (simp;done))))|((with_reducible refine Ev.ite_neg ?_ ?_);(first|assumption|(focus omega)|(focus (simp;done)))))
      generalize hn:s.testBit (L.ol.neg ⟨a,ha⟩).1=n at hR ⊢
      generalize hp:s.testBit a=p at hR ⊢
      by_cases hne:p=n
      · subst hne
        have hw: ¬wrap64 ((if p=true then 1 else 0)+(if p=true then 1 else 0))=1:=by cases p <;> simp [wrap64]
        repeat(first|((with_reducible refine Ev.ite_pos ?_ ?_);(first|assumption|(focus omega)|(focus (simp;done))))|((with_reducible refine Ev.ite_neg ?_ ?_);(first|assumption|(focus omega)|(focus (simp;done)))))
        exact Ev.eq (Ev.now _) (by cases p <;> rfl)
      · have hw : wrap64 ((if p = true then 1 else 0) + (if n = true then 1 else 0)) = 1 := by cases p <;> cases n <;> simp_all [wrap64]
        have hb:(p !=n)=true:=by cases p <;> cases n <;> simp_all
        rw [hb,Bool.true_and] at hR ⊢
        repeat(first|((with_reducible refine Ev.ite_pos ?_ ?_);(first|assumption|(focus omega)|(focus (simp;done))))|((with_reducible refine Ev.ite_neg ?_ ?_);(first|assumption|(focus omega)|(focus (simp;done)))))
        refine Ev.eq (Ev.all (n:=a) (g:=fun k b=>spec_l9State.l1 k (s:Int) (a:Int) b U N) (fun b=>!leI U a (notI N b)||(!(p && s.testBit b) && (s.testBit (orI U a b).toNat==(p||s.testBit b)))) (go:=R) (stop:=false) (by omega) (fun hall=>?_) fun b hb2 _ R2 hR2=>?_) rfl
        · refine Ev.succ ?_
          simp only [spec_l9State.l1]
          repeat(first|((with_reducible refine Ev.ite_pos ?_ ?_);(first|assumption|(focus omega)|(focus (simp;done))))|((with_reducible refine Ev.ite_neg ?_ ?_);(first|assumption|(focus omega)|(focus (simp;done)))))
          exact hR (allN_iff.2 hall)
        · have hbn : b < U.length := by omega
          have hnb:at1 N b=(((L.ol.neg ⟨b,hbn⟩).1:Nat):Int):=L.ng_eq ⟨b,hbn⟩
          have hnb2:notI N (b:Int)=(((L.ol.neg ⟨b,hbn⟩).1:Nat):Int):=not_fin L (⟨b,hbn⟩:Fin U.length)
          have hnbl:=(L.ol.neg ⟨b,hbn⟩).2
          have hjo:orI U (a:Int) (b:Int)=(((L.ol.join ⟨a,ha⟩ ⟨b,hbn⟩).1:Nat):Int):=or_fin L ⟨a,ha⟩ ⟨b,hbn⟩
          have hjl:=(L.ol.join ⟨a,ha⟩ ⟨b,hbn⟩).2
          have hev:Ev (fun k=>spec_l1Join.f k U (a:Int) (b:Int)) (((L.ol.join ⟨a,ha⟩ ⟨b,hbn⟩).1:Nat):Int):=by rw [← hjo];exact join_in L ⟨by omega,by omega⟩ ⟨by omega,by omega⟩
          have hv:=O.val ha hnbl
          have hle:leI U (a:Int) (((L.ol.neg ⟨b,hbn⟩).1:Nat):Int)=leB U a (L.ol.neg ⟨b,hbn⟩).1:=by simp [leI]
          refine Ev.succ ?_
          simp only [spec_l9State.l1,rd_nat,rdL_nat,hnb,rd_row,hra]
          rw [hnb2,hjo,Int.toNat_natCast,hle] at hR2 ⊢
          rw [hv]
          repeat(first|((with_reducible refine Ev.ite_pos ?_ ?_);(first|assumption|(focus omega)|(focus (simp;done))))|((with_reducible refine Ev.ite_neg ?_ ?_);(first|assumption|(focus omega)|(focus (simp;done)))))
          generalize leB U a (L.ol.neg ⟨b,hbn⟩).1=le at hR2 ⊢
          cases le with
          | false =>
            repeat(first|((with_reducible refine Ev.ite_pos ?_ ?_);(first|assumption|(focus omega)|(focus (simp;done))))|((with_reducible refine Ev.ite_neg ?_ ?_);(first|assumption|(focus omega)|(focus (simp;done)))))
            exact Ev.eq (hR2 rfl) rfl
          | true =>
            repeat(first|((with_reducible refine Ev.ite_pos ?_ ?_);(first|assumption|(focus omega)|(focus (simp;done))))|((with_reducible refine Ev.ite_neg ?_ ?_);(first|assumption|(focus omega)|(focus (simp;done)))))
            refine Ev.bind hev ?_
            rw [smod_nat s (show a≤64 by omega),smod_nat s (show b≤64 by omega),smod_nat s (show (L.ol.join ⟨a,ha⟩ ⟨b,hbn⟩).1≤64 by omega),hp]
            generalize s.testBit b=q at hR2 ⊢
            generalize s.testBit (L.ol.join ⟨a,ha⟩ ⟨b,hbn⟩).1=z at hR2 ⊢
            repeat(first|((with_reducible refine Ev.ite_pos ?_ ?_);(first|assumption|(focus omega)|(focus (simp;done))))|((with_reducible refine Ev.ite_neg ?_ ?_);(first|assumption|(focus omega)|(focus (simp;done)))))
            by_cases hs2:(!(p && q) && (z==(p||q)))=true
            · have hw2 : wrap64 ((if p = true then 1 else 0) + (if q = true then 1 else 0)) = (if z = true then 1 else 0) := by revert hs2; cases p <;> cases q <;> cases z <;> simp [wrap64]
              repeat(first|((with_reducible refine Ev.ite_pos ?_ ?_);(first|assumption|(focus omega)|(focus (simp;done))))|((with_reducible refine Ev.ite_neg ?_ ?_);(first|assumption|(focus omega)|(focus (simp;done)))))
              exact Ev.eq (hR2 (by rw [hs2];rfl)) (by rw [hs2];rfl)
            · have hw2 : ¬ wrap64 ((if p = true then 1 else 0) + (if q = true then 1 else 0)) = (if z = true then 1 else 0) := by revert hs2; cases p <;> cases q <;> cases z <;> simp [wrap64]
              repeat(first|((with_reducible refine Ev.ite_pos ?_ ?_);(first|assumption|(focus omega)|(focus (simp;done))))|((with_reducible refine Ev.ite_neg ?_ ?_);(first|assumption|(focus omega)|(focus (simp;done)))))
              exact Ev.eq (Ev.now _) (by rw [show (!(p && q) && (z==(p||q)))=false by simpa using hs2];rfl)
theorem isSt_nat {U : List (List Int)} {N : List Int} {s : Nat} (h : s < 2 ^ U.length) : isSt U N (s : Int) = stB U N s := by
  unfold isSt
  rw [decide_eq_true (by omega), decide_eq_true (by omega), Int.toNat_natCast]; rfl
theorem spec_StatesOf.ev (U : List (List Int)) (N : List Int) : Ev (fun k => spec_StatesOf.f k U N) (if logicB U N = true then stL U N else []) := by
  unfold spec_StatesOf.f
  refine Ev.pbind rfl (Ev.bind (spec_LogicOk.ev U N) ?_)
  cases hl:logicB U N with
  | false =>
    repeat(first|((with_reducible refine Ev.ite_pos ?_ ?_);(first|assumption|(focus omega)|(focus (simp;done))))|((with_reducible refine Ev.ite_neg ?_ ?_);(first|assumption|(focus omega)|(focus (simp;done)))))
    exact Ev.now _
  | true =>
    have L:=logicB_iff.1 hl
    have hs:=L.small
    rw [if_pos rfl]
    repeat(first|((with_reducible refine Ev.ite_pos ?_ ?_);(first|assumption|(focus omega)|(focus (simp;done))))|((with_reducible refine Ev.ite_neg ?_ ?_);(first|assumption|(focus omega)|(focus (simp;done)))))
    refine Ev.bind (spec_YesOf.ev U N) ?_
    rw [hl,if_pos rfl]
    have hM1:1≤2 ^ U.length:=Nat.one_le_two_pow
    have hM2:2 ^ U.length≤4096:=Nat.pow_le_pow_right (by omega) hs
    have key : ∀ d s, s + d = 2 ^ U.length → Ev (fun k => spec_StatesOf.l0 k (filI s fun (s : Nat) => isSt U N (s : Int)) (yesI U N) (s : Int) U N) (stL U N) := by
      intro d
      induction d with
      | zero =>
        intro s hsd
        refine Ev.succ ?_
        simp only [spec_StatesOf.l0,L.len,shl_nat (show U.length≤40 by omega)]
        repeat(first|((with_reducible refine Ev.ite_pos ?_ ?_);(first|assumption|(focus omega)|(focus (simp;done))))|((with_reducible refine Ev.ite_neg ?_ ?_);(first|assumption|(focus omega)|(focus (simp;done)))))
        rw [show s=2 ^ U.length by omega]
        exact Ev.now _
      | succ d ih =>
        intro s hsd
        have K:=ih (s+1) (by omega)
        refine Ev.succ ?_
        simp only [spec_StatesOf.l0,L.len,shl_nat (show U.length≤40 by omega),wrap_nat (show s<4611686018427387904 by omega)]
        repeat(first|((with_reducible refine Ev.ite_pos ?_ ?_);(first|assumption|(focus omega)|(focus (simp;done))))|((with_reducible refine Ev.ite_neg ?_ ?_);(first|assumption|(focus omega)|(focus (simp;done)))))
        refine Ev.bind (spec_l9State.ev L s) ?_
        rw [filI_succ,isSt_nat (show s<2 ^ U.length by omega)] at K
        have hlen:(filI s fun(s:Nat)=>isSt U N (s:Int)).length<17592186044416:=by have:=filI_length s (fun(s:Nat)=>isSt U N (s:Int));omega
        cases hb:stB U N s with
        | true =>
          rw [hb,if_pos rfl] at K
          repeat(first|((with_reducible refine Ev.ite_pos ?_ ?_);(first|assumption|(focus omega)|(focus (simp;done))))|((with_reducible refine Ev.ite_neg ?_ ?_);(first|assumption|(focus omega)|(focus (simp;done)))))
          exact K
        | false =>
          rw [hb,if_neg (by simp)] at K
          repeat(first|((with_reducible refine Ev.ite_pos ?_ ?_);(first|assumption|(focus omega)|(focus (simp;done))))|((with_reducible refine Ev.ite_neg ?_ ?_);(first|assumption|(focus omega)|(focus (simp;done)))))
          exact K
    have h0 : (filI 1 fun (s : Nat) => isSt U N (s : Int)) = [] := by
      rw [filI_succ,filI_zero,if_neg]
      · have : isSt U N ((0 : Nat) : Int) = false := by
          unfold isSt stB
          rw [show (((0:Nat):Int)).toNat=0 from rfl,Nat.zero_testBit];simp
        rw [this];simp
    have:=key (2 ^ U.length - 1) 1 (by omega)
    rw [h0] at this
    exact this
theorem spec_ToldBy.ev (U : List (List Int)) (N : List Int) (a : Int) : Ev (fun k => spec_ToldBy.f k U N a) (if logicB U N = true then (if [a].all (inR U.length) = true then (((stN U N).countP fun s => s.testBit a.toNat : Nat) : Int) else -1) else -1) := by
  unfold spec_ToldBy.f
  refine Ev.bind (spec_NotOf.ev U N a) ?_
  cases hl:logicB U N with
  | false =>
    repeat(first|((with_reducible refine Ev.ite_pos ?_ ?_);(first|assumption|(focus omega)|(focus (simp;done))))|((with_reducible refine Ev.ite_neg ?_ ?_);(first|assumption|(focus omega)|(focus (simp;done)))))
    exact Ev.now _
  | true =>
    have L:=logicB_iff.1 hl
    have hs:=L.small
    rw [if_pos rfl,if_pos rfl]
    cases ha:inR U.length a with
    | false =>
      rw [if_neg (by simp),if_neg (by simp [ha])]
      repeat(first|((with_reducible refine Ev.ite_pos ?_ ?_);(first|assumption|(focus omega)|(focus (simp;done))))|((with_reducible refine Ev.ite_neg ?_ ?_);(first|assumption|(focus omega)|(focus (simp;done)))))
      exact Ev.now _
    | true =>
      have Ia:In U a:=inR_iff.1 ha
      obtain⟨x,rfl⟩: ∃x:Nat,a=x:=⟨a.toNat,by have:=Ia.1;omega⟩
      have hx:=Ia.2
      have hn:=(L.in_not Ia).1
      rw [if_pos rfl,if_pos (by simp [ha])]
      repeat(first|((with_reducible refine Ev.ite_pos ?_ ?_);(first|assumption|(focus omega)|(focus (simp;done))))|((with_reducible refine Ev.ite_neg ?_ ?_);(first|assumption|(focus omega)|(focus (simp;done)))))
      refine Ev.bind (spec_StatesOf.ev U N) ?_
      rw [hl,if_pos rfl]
      have hlen:(stL U N).length=(stN U N).length:=filI_len _ _
      have hpow:2 ^ U.length≤4096:=Nat.pow_le_pow_right (by omega) hs
      have hlen2:(stN U N).length≤4096:=Nat.le_trans (filN_len _ _) hpow
      refine Ev.loop (g:=fun k s i=>spec_ToldBy.l0 k (x:Int) s (stL U N) i) (stL U N).length (fun i s=>s=((cntF (stN U N) x i:Nat):Int)) (by omega) (fun s h=>?_) (fun i s hi h=>?_) _ (by simp [cntF])
      · subst h
        refine Ev.succ ?_
        simp only [spec_ToldBy.l0]
        repeat(first|((with_reducible refine Ev.ite_pos ?_ ?_);(first|assumption|(focus omega)|(focus (simp;done))))|((with_reducible refine Ev.ite_neg ?_ ?_);(first|assumption|(focus omega)|(focus (simp;done)))))
        rw [hlen,cntF_all,Int.toNat_natCast]
        exact Ev.now _
      · subst h
        refine⟨_,rfl,fun K=>Ev.succ ?_⟩
        rw [cntF_succ (stN U N) x (by omega)] at K
        have hc:=cntF_le (stN U N) x i
        have hat:at1 (stL U N) i=(((stN U N).getD i 0:Nat):Int):=filI_at _ _ i
        simp only [spec_ToldBy.l0,rd_nat,hat,smod_nat _ (show x≤64 by omega)]
        repeat(first|((with_reducible refine Ev.ite_pos ?_ ?_);(first|assumption|(focus omega)|(focus (simp;done))))|((with_reducible refine Ev.ite_neg ?_ ?_);(first|assumption|(focus omega)|(focus (simp;done)))))
        cases hb:((stN U N).getD i 0).testBit x with
        | true =>
          rw [hb,if_pos rfl] at K
          rw [if_pos rfl,wrap_small (by omega) (by omega)]
          exact K
        | false =>
          rw [hb,if_neg (by simp)] at K
          rw [if_neg (by simp),wrap_small (by omega) (by omega),Int.add_zero]
          exact K
end Go.Proofs.Ytdoomkcgdcfmlaa.Print
end
section
namespace Go.Proofs.Ytdoomkcgdcfmlaa.Print
open Go.RowKit Go.Proofs.YtdoomkcgdcfmlaaW.PrintWords Go.Proofs.YtdoomkcgdcfmlaaW.PrintLast Go.Proofs.YtdoomkcgdcfmlaaW.PrintMore
open Oml
theorem drawToldBy_ev {l : List Int} (h : Bytes l) : ∃ V M x, Ev (fun k => spec_DrawToldBy.f k l) (V, M, x) := by
  obtain⟨b,hb,hbl,ho⟩:=open_ev h
  obtain⟨V,M,x,y,q,hd,_,_⟩:=two_ev hb hbl (p:=0) (by omega) (by omega) 14
  exact⟨V,M,x,by unfold spec_DrawToldBy.f;exact Ev.pbind ho (Ev.bind hd (Ev.now _))⟩
theorem laws_FnToldBy.ev (l : List Int) (h : Bytes l) : Ev (fun k => laws_FnToldBy.f k l) true := by
  unfold laws_FnToldBy.f
  by_cases hl:(l.length:Int)>1048576
  · exact Ev.ite_pos hl (Ev.now _)
  refine Ev.ite_neg hl ?_
  obtain⟨V,M,a,hd⟩:=drawToldBy_ev h
  refine Ev.bind hd (Ev.pbind rfl (Ev.bind (spec_ToldBy.ev V M a) ?_))
  dsimp only
  refine Ev.ite_pos rfl ?_
  cases hg:logicB V M with
  |false=>exact Ev.ite_pos (by simp) (Ev.ite_pos (by simp) (Ev.bind alive_ok (Ev.now _)))
  |true=>
  have L:=logicB_iff.1 hg
  cases hin: [a].all (inR V.length) with
  |false=>exact Ev.ite_pos (by simp) (Ev.ite_pos (by simp) (Ev.bind alive_ok (Ev.now _)))
  |true=>
  simp only [List.all_cons,List.all_nil,Bool.and_true,Bool.and_eq_true,inR_iff] at hin
  obtain⟨x,rfl⟩:=fin_of hin
  have h1:=inR_one x
  have h2:=inR_one (L.ol.neg x)
  have h3:=inR_one L.ol.bot
  have hst : ∀ s, s ∈ stN V M → L.ol.State (fun y : Fin V.length => s.testBit y.1) := fun s hs => by
    have h4:=List.mem_filter.1 hs
    have h5:s<2 ^ V.length:=by simpa using h4.1
    have h6:isSt V M (s:Int)=true:=h4.2
    rw [isSt_nat h5] at h6
    exact(stB_iff L s).1 h6
  have hpow:2 ^ V.length≤4096:=Nat.pow_le_pow_right (by omega) L.small
  have hlen2:(stN V M).length≤4096:=Nat.le_trans (filN_len _ _) hpow
  have c1:=List.countP_le_length (p:=fun s=>s.testBit x.1) (l:=stN V M)
  have c2:=List.countP_le_length (p:=fun s=>s.testBit (L.ol.neg x).1) (l:=stN V M)
  have hsum : (stN V M).countP (fun s => s.testBit x.1) + (stN V M).countP (fun s => s.testBit (L.ol.neg x).1) = (stN V M).length := by
    rw [List.length_eq_countP_add_countP (fun s=>s.testBit x.1) (l:=stN V M)]
    congr 1
    refine List.countP_congr fun s hs=>?_
    have:=(hst s hs).neg x
    simp only [this]
    cases s.testBit x.1 <;> simp
  have hzero : (stN V M).countP (fun s => s.testBit L.ol.bot.1) = 0 := by
    rw [List.countP_eq_zero]
    intro s hs
    have:=(hst s hs).bot
    simp [this]
  have hlen:(stL V M).length=(stN V M).length:=filI_len _ _
  have hnx:=not_fin L x
  simp only [if_true,impl_NotOf.f,hnx,impl_ToldBy.f,impl_StatesOf.f,impl_NoOf.f,no_fin L,hg,h1,h2,h3,Int.toNat_natCast,hzero]
  refine Ev.ite_neg (by omega) (Ev.pbind rfl ?_)
  rw [h2,if_pos rfl,Int.toNat_natCast]
  refine Ev.pbind rfl (Ev.pbind rfl (Ev.ite_pos ?_ ?_))
  · rw [wrap_small (by omega) (by omega), hlen]
    omega
  · refine Ev.pbind rfl ?_
    rw [h3,if_pos rfl,Int.toNat_natCast,hzero]
    exact Ev.pbind rfl (Ev.ite_pos rfl (Ev.bind alive_ok (Ev.now _)))
end Go.Proofs.Ytdoomkcgdcfmlaa.Print
namespace Go.Proofs.Ytdoomkcgdcfmlaa.Pure
open Go.RowKit Go.Proofs.Ytdoomkcgdcfmlaa.Print Go.Proofs.YtdoomkcgdcfmlaaW.PrintWords Go.Proofs.YtdoomkcgdcfmlaaW.PrintLast Go.Proofs.YtdoomkcgdcfmlaaW.PrintMore
theorem FnToldBy : laws_FnToldBy.Pure := fun l _ _ hw => (laws_FnToldBy.ev l fun x hx => by
  have := hw x hx
  first | exact Go.RowKit.bounds_u8 this | exact Go.ChangeShapes.bounds_u8 this | exact bounds_u8 this | (simp [Lit.wf, IntKind.wf] at this; omega) | (simp [Lit.wf] at this; omega)).rounds
end Go.Proofs.Ytdoomkcgdcfmlaa.Pure
end
