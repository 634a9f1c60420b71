/- Part 2 of what this is proved by: for every text of bytes the law of StateOk answers true -/
import Derived.Test.YtdoomkcgdcfmlaaKStateOkL1
import Derived.Below
import Derived.Deep.Draws
import Derived.Deep.AppendLies
import Derived.Maps.AppendAt
import Derived.OwnWalk
import Derived.Laws.BytesArg
import Derived.Laws.MakeOwn
import Derived.Laws.OwnMore
import Derived.Deep.OwnRows
import Derived.Tactics
import Derived.Lib.ConvBytes
import Derived.Laws.Slices
import Derived.WalkKit
import Derived.KernelRfl
import Derived.RowKit3
import Derived.Deep.LoopGhost
import Derived.Deep.QuietTactic
import Derived.BigQuiet
import Derived.WideLaws
import Derived.Deep.DeepCutAuto
import Derived.Deep.CutBlock
import Derived.Deep.RegionHeld3
import Derived.Laws.Rows
import Derived.Lib.AppendStr
import Derived.ArgAppend
import Derived.Laws.IdiomCopy
import Derived.RowKit
import Derived.Test.YtdoomkcgdcfmlaaProg
import Derived.OrdersHeld
import Derived.Laws.BitsLemmas
import Derived.Laws.Bits64b
import Derived.ProofKit
import Derived.OpenShut
set_option linter.all false
section
namespace Go.Proofs.Ytdoomkcgdcfmlaa.Print
open Go.RowKit Go.Proofs.YtdoomkcgdcfmlaaW.PrintWords Go.Proofs.YtdoomkcgdcfmlaaW.PrintLast Go.Proofs.YtdoomkcgdcfmlaaW.PrintMore
mutual
def laws_FnStateOk.l0 : Nat → Int → Bool → Int → List (List Int) → List Int → Option (Bool)
 | 0, _, _, _, _, _ => none
 | k + 1, x4, x6, x7, x1052000, x1052001 => if x7 < (x1052001.length : Int) then (laws_FnStateOk.l1 k x4 x6 x7 0 x1052000 x1052001) else ((impl_YesOf.f x1052000 x1052001).bind fun t1056 => (if 0 ≤ t1056 then (some ((Int.tmod (shr .i64 x4 t1056) 2) == 1)) else (none)))
def laws_FnStateOk.l1 : Nat → Int → Bool → Int → Int → List (List Int) → List Int → Option (Bool)
 | 0, _, _, _, _, _, _ => none
 | k + 1, x4, x6, x7, x8, x1052000, x1052001 => if x8 < (x1052001.length : Int) then (if 0 ≤ x7 then (if (Int.tmod (shr .i64 x4 x7) 2) = 1 then (if x6 = true then (if x7 < (x1052000.length : Int) then (if 0 ≤ x8 then (if x8 < ((rd_L3 x1052000 x7).length : Int) then (if (rd (rd_L3 x1052000 x7) x8) = 1 then (laws_FnStateOk.j2 k x4 x6 x7 x8 ((Int.tmod (shr .i64 x4 x8) 2) == 0) x1052000 x1052001) else (laws_FnStateOk.j2 k x4 x6 x7 x8 false x1052000 x1052001)) else (none)) else (none)) else (none)) else (laws_FnStateOk.j2 k x4 x6 x7 x8 false x1052000 x1052001)) else (laws_FnStateOk.j2 k x4 x6 x7 x8 false x1052000 x1052001)) else (none)) else (laws_FnStateOk.l0 k x4 x6 (wrap64 (x7 + 1)) x1052000 x1052001)
def laws_FnStateOk.j2 : Nat → Int → Bool → Int → Int → Bool → List (List Int) → List Int → Option (Bool)
 | 0, _, _, _, _, _, _, _ => none
 | k + 1, x4, x6, x7, x8, x69, x1052000, x1052001 => if x69 = true then (some false) else (if 0 ≤ x7 then (if (Int.tmod (shr .i64 x4 x7) 2) = 1 then (if 0 ≤ x8 then (if (Int.tmod (shr .i64 x4 x8) 2) = 1 then (if x7 < (x1052000.length : Int) then (if x8 < (x1052001.length : Int) then (if 0 ≤ (rd x1052001 x8) then (if (rd x1052001 x8) < ((rd_L3 x1052000 x7).length : Int) then (if (rd (rd_L3 x1052000 x7) (rd x1052001 x8)) = 1 then (some false) else (laws_FnStateOk.l1 k x4 x6 x7 (wrap64 (x8 + 1)) x1052000 x1052001)) else (none)) else (none)) else (none)) else (none)) else (laws_FnStateOk.l1 k x4 x6 x7 (wrap64 (x8 + 1)) x1052000 x1052001)) else (none)) else (laws_FnStateOk.l1 k x4 x6 x7 (wrap64 (x8 + 1)) x1052000 x1052001)) else (none))
end
def laws_FnStateOk.f (k : Nat) (l0 : List Int) : Option (Bool) := if (l0.length : Int) > 1048576 then (some true) else ((spec_DrawStateOk.f k l0).bind fun bt1044 => ((impl_StateOk.f bt1044.1 bt1044.2.1 bt1044.2.2).bind fun t1052 => ((spec_StateOk.f k bt1044.1 bt1044.2.1 bt1044.2.2).bind fun t1053 => (if (t1052 != t1053) = true then (some false) else (if t1052 = true then ((spec_KeepsOk.f k bt1044.1 bt1044.2.1).bind fun t1055 => (laws_FnStateOk.l0 k bt1044.2.2 t1055 0 bt1044.1 bt1044.2.1)) else ((laws_alive.f k).bind fun t1054 => (some t1054)))))))
set_option maxHeartbeats 8000000 in
set_option maxRecDepth 100000 in
theorem laws_FnStateOk.calls (k : Nat) (A0 : Option Addr) (c0 : Nat) (l0 : List Int) (r : Bool) (w : World) (hr0 : Kd.C (Kd.int .u8) w A0 l0.length l0) (hc0 : l0.length ≤ c0) (h : laws_FnStateOk.f k l0 = some r) :
  Calls Try.prog 12 #[.slice A0 l0.length c0] w fun e w' => e = .returned (.bool r) ∧ Below w.heap.size w w' := by
 have hu30:=Try.underlying30;have j3:=zqm hr0;have j4:=zqm hc0;clear hr0 hc0;have HB:=zqm (Below.refl w.heap.size w);have H:(if(l0.length:Int)>1048576 then(some true) else((spec_DrawStateOk.f k l0).bind fun d7=>((impl_StateOk.f d7.1 d7.2.1 d7.2.2).bind fun c7=>((spec_StateOk.f k d7.1 d7.2.1 d7.2.2).bind fun b7=>(if(c7 !=b7)=true then(some false) else(if c7=true then((spec_KeepsOk.f k d7.1 d7.2.1).bind fun b4=>(laws_FnStateOk.l0 k d7.2.2 b4 0 d7.1 d7.2.1)) else((laws_alive.f k).bind fun d6=>(some d6))))))))=some r:=h;clear h
 by_cases c2:(l0.length:Int)>1048576
 ·rw [if_pos c2] at H;have o2:decide (1048576<(l0.length:Int))=true:=decide_eq_true c2;have o3:decide (1048576<l0.length)=true:=decide_eq_true (by omega);clear c2;obtain rfl:=Option.some.inj H
  go_enter Try.func12,Try.ntmps12
  go_wp2
  repeat(go_quiet (fail);try go_wp2)
  go_ret
  exact⟨zq11,zq0⟩
 ·rw [if_neg c2] at H;have o2:decide (1048576<(l0.length:Int))=false:=decide_eq_false c2;have o3:decide (1048576<l0.length)=false:=decide_eq_false (by omega);clear c2;replace H:=Option.bind_eq_some_iff.mp H;obtain⟨⟨a2,a3,a8⟩,x0,H⟩:=H;replace H:((impl_StateOk.f a2 a3 a8).bind fun c7=>((spec_StateOk.f k a2 a3 a8).bind fun b7=>(if(c7 !=b7)=true then(some false) else(if c7=true then((spec_KeepsOk.f k a2 a3).bind fun b4=>(laws_FnStateOk.l0 k a8 b4 0 a2 a3)) else((laws_alive.f k).bind fun d6=>(some d6))))))=some r:=H;have A3:=zqm x0;clear x0;replace H:=Option.bind_eq_some_iff.mp H;obtain⟨c7,x1,H⟩:=H;replace H:((spec_StateOk.f k a2 a3 a8).bind fun b7=>(if(c7 !=b7)=true then(some false) else(if c7=true then((spec_KeepsOk.f k a2 a3).bind fun b4=>(laws_FnStateOk.l0 k a8 b4 0 a2 a3)) else((laws_alive.f k).bind fun d6=>(some d6)))))=some r:=H;have A4:=zqm x1;clear x1;replace H:=Option.bind_eq_some_iff.mp H;obtain⟨b7,x2,H⟩:=H;replace H:(if(c7 !=b7)=true then(some false) else(if c7=true then((spec_KeepsOk.f k a2 a3).bind fun b4=>(laws_FnStateOk.l0 k a8 b4 0 a2 a3)) else((laws_alive.f k).bind fun d6=>(some d6))))=some r:=H;have A5:=zqm x2;clear x2
  by_cases c6:(c7 !=b7)=true
  ·rw [if_pos c6] at H;have o4:(c7 !=b7)=true:=c6;(try(have o5:decide (c7=b7)=false:=by simpa using c6));(try(have o6:(c7==b7)=false:=by simpa using c6));(try(have a0n: ¬(c7=b7):=by simpa using c6));clear c6;obtain rfl:=Option.some.inj H
   go_enter Try.func12,Try.ntmps12
   go_wp2_with (first|(go_at_call 58;(with_reducible refine(spec_DrawStateOk.calls k _ _ l0 a2 a3 a8 _ ?side1 ?side2 A3.out).mono ?_);(case side1=> exact zq97);(case side2=>exact j4.out);rintro e w7 ⟨f3,f4,rfl,d2,d3,hb⟩;have a4:=zqm (Kd.S_lower d2 (below_size zq0));have a5:=zqm (Kd.Q_lower d3 (below_size zq0));replace HB:=zqm (below_step zq0 hb);clear hb d2 d3)|((with_reducible refine gate_dst (N:=3) rfl ?_);refine box_event ?hg (N:=3) ?hd (cs:= #[.slice none 0 0,.slice none 0 0]) (t:=30) ?hr ?_;(case hd=>rfl);(case hg=>rfl);(case hr=>first|(go_simp;done)|(go_simp;rfl));intro a1 hg w8 hbox hb;replace a4:=zqm (Kd.S_below zq35 hb);replace a5:=zqm (Kd.Q_below zq34 hb);have d4:=zqm (below_step zq0 hb);have a0:=zqm (hbox);have e3:=zqm ((by rw [hg];exact(below_size zq0):w.heap.size≤a1));have a9:=zqm ((by rw [hg];exact(below_size zq0):w.heap.size≤a1));clear HB;have HB:=d4;clear d4 hb hbox hg;obtain⟨d5,d1,p6⟩:=Kd.S_slice a4.out;subst p6;have f7:w8.cell? ⟨a1,0,none⟩=some (.slice none 0 0):=(blk_cell a0.out 0).trans rfl;have f8:w8.cell? ⟨a1,1,none⟩=some (.slice none 0 0):=(blk_cell a0.out 1).trans rfl;have f9:=blk_frozen a0.out 0;have g0:=blk_frozen a0.out 1;obtain⟨c8,b8,l8,_⟩:=Kd.Q_slice a5.out;subst l8)|(go_at_call 59;(with_reducible refine(impl_StateOk.calls _ _ a2 _ _ a3 a8 c7 _ ?side1 ?side2 ?side3 ?side4 A4.out).mono ?_);(case side1=> exact zq89);(case side2=>exact(Kd.S_reads' a4.out).2.1);(case side3=> exact zq114);(case side4=>exact(Kd.Q_reads' a5.out).2.1);rintro e k6 ⟨rfl,hb⟩;replace a4:=zqm (Kd.S_below zq72 hb);replace a5:=zqm (Kd.Q_below zq69 hb);replace a0:=zqm (blk_below (g:=a1) (o:= .cells #[.slice d5 a2.length d1,.slice c8 a3.length b8] 30 (0,0)) zq93 hb);replace HB:=zqm (below_step zq17 hb);clear hb;have g1:k6.cell? ⟨a1,0,none⟩=some (.slice d5 a2.length d1):=(blk_cell a0.out 0).trans rfl;have g2:k6.cell? ⟨a1,1,none⟩=some (.slice c8 a3.length b8):=(blk_cell a0.out 1).trans rfl;have g3:=blk_frozen a0.out 0;have g4:=blk_frozen a0.out 1)|(go_at_call 60;(with_reducible refine(spec_StateOk.calls k _ _ a2 _ _ a3 a8 b7 _ ?side1 ?side2 ?side3 ?side4 A5.out).mono ?_);(case side1=> exact zq44);(case side2=>exact(Kd.S_reads' a4.out).2.1);(case side3=> exact zq43);(case side4=>exact(Kd.Q_reads' a5.out).2.1);rintro e x3 ⟨rfl,hb⟩;replace a4:=zqm (Kd.S_below zq35 hb);replace a5:=zqm (Kd.Q_below zq34 hb);replace a0:=zqm (blk_below (g:=a1) (o:= .cells #[.slice d5 a2.length d1,.slice c8 a3.length b8] 30 (0,0)) zq2 hb);replace HB:=zqm (below_step zq17 hb);clear hb))
   repeat(go_quiet (first|(go_at_call 58;(with_reducible refine(spec_DrawStateOk.calls k _ _ l0 a2 a3 a8 _ ?side1 ?side2 A3.out).mono ?_);(case side1=> exact zq97);(case side2=>exact j4.out);rintro e w7 ⟨f3,f4,rfl,d2,d3,hb⟩;have a4:=zqm (Kd.S_lower d2 (below_size zq0));have a5:=zqm (Kd.Q_lower d3 (below_size zq0));replace HB:=zqm (below_step zq0 hb);clear hb d2 d3)|((with_reducible refine gate_dst (N:=3) rfl ?_);refine box_event ?hg (N:=3) ?hd (cs:= #[.slice none 0 0,.slice none 0 0]) (t:=30) ?hr ?_;(case hd=>rfl);(case hg=>rfl);(case hr=>first|(go_simp;done)|(go_simp;rfl));intro a1 hg w8 hbox hb;replace a4:=zqm (Kd.S_below zq35 hb);replace a5:=zqm (Kd.Q_below zq34 hb);have d4:=zqm (below_step zq0 hb);have a0:=zqm (hbox);have e3:=zqm ((by rw [hg];exact(below_size zq0):w.heap.size≤a1));have a9:=zqm ((by rw [hg];exact(below_size zq0):w.heap.size≤a1));clear HB;have HB:=d4;clear d4 hb hbox hg;obtain⟨d5,d1,p6⟩:=Kd.S_slice a4.out;subst p6;have f7:w8.cell? ⟨a1,0,none⟩=some (.slice none 0 0):=(blk_cell a0.out 0).trans rfl;have f8:w8.cell? ⟨a1,1,none⟩=some (.slice none 0 0):=(blk_cell a0.out 1).trans rfl;have f9:=blk_frozen a0.out 0;have g0:=blk_frozen a0.out 1;obtain⟨c8,b8,l8,_⟩:=Kd.Q_slice a5.out;subst l8)|(go_at_call 59;(with_reducible refine(impl_StateOk.calls _ _ a2 _ _ a3 a8 c7 _ ?side1 ?side2 ?side3 ?side4 A4.out).mono ?_);(case side1=> exact zq89);(case side2=>exact(Kd.S_reads' a4.out).2.1);(case side3=> exact zq114);(case side4=>exact(Kd.Q_reads' a5.out).2.1);rintro e k6 ⟨rfl,hb⟩;replace a4:=zqm (Kd.S_below zq72 hb);replace a5:=zqm (Kd.Q_below zq69 hb);replace a0:=zqm (blk_below (g:=a1) (o:= .cells #[.slice d5 a2.length d1,.slice c8 a3.length b8] 30 (0,0)) zq93 hb);replace HB:=zqm (below_step zq17 hb);clear hb;have g1:k6.cell? ⟨a1,0,none⟩=some (.slice d5 a2.length d1):=(blk_cell a0.out 0).trans rfl;have g2:k6.cell? ⟨a1,1,none⟩=some (.slice c8 a3.length b8):=(blk_cell a0.out 1).trans rfl;have g3:=blk_frozen a0.out 0;have g4:=blk_frozen a0.out 1)|(go_at_call 60;(with_reducible refine(spec_StateOk.calls k _ _ a2 _ _ a3 a8 b7 _ ?side1 ?side2 ?side3 ?side4 A5.out).mono ?_);(case side1=> exact zq44);(case side2=>exact(Kd.S_reads' a4.out).2.1);(case side3=> exact zq43);(case side4=>exact(Kd.Q_reads' a5.out).2.1);rintro e x3 ⟨rfl,hb⟩;replace a4:=zqm (Kd.S_below zq35 hb);replace a5:=zqm (Kd.Q_below zq34 hb);replace a0:=zqm (blk_below (g:=a1) (o:= .cells #[.slice d5 a2.length d1,.slice c8 a3.length b8] 30 (0,0)) zq2 hb);replace HB:=zqm (below_step zq17 hb);clear hb));try go_wp2_with (first|(go_at_call 58;(with_reducible refine(spec_DrawStateOk.calls k _ _ l0 a2 a3 a8 _ ?side1 ?side2 A3.out).mono ?_);(case side1=> exact zq97);(case side2=>exact j4.out);rintro e w7 ⟨f3,f4,rfl,d2,d3,hb⟩;have a4:=zqm (Kd.S_lower d2 (below_size zq0));have a5:=zqm (Kd.Q_lower d3 (below_size zq0));replace HB:=zqm (below_step zq0 hb);clear hb d2 d3)|((with_reducible refine gate_dst (N:=3) rfl ?_);refine box_event ?hg (N:=3) ?hd (cs:= #[.slice none 0 0,.slice none 0 0]) (t:=30) ?hr ?_;(case hd=>rfl);(case hg=>rfl);(case hr=>first|(go_simp;done)|(go_simp;rfl));intro a1 hg w8 hbox hb;replace a4:=zqm (Kd.S_below zq35 hb);replace a5:=zqm (Kd.Q_below zq34 hb);have d4:=zqm (below_step zq0 hb);have a0:=zqm (hbox);have e3:=zqm ((by rw [hg];exact(below_size zq0):w.heap.size≤a1));have a9:=zqm ((by rw [hg];exact(below_size zq0):w.heap.size≤a1));clear HB;have HB:=d4;clear d4 hb hbox hg;obtain⟨d5,d1,p6⟩:=Kd.S_slice a4.out;subst p6;have f7:w8.cell? ⟨a1,0,none⟩=some (.slice none 0 0):=(blk_cell a0.out 0).trans rfl;have f8:w8.cell? ⟨a1,1,none⟩=some (.slice none 0 0):=(blk_cell a0.out 1).trans rfl;have f9:=blk_frozen a0.out 0;have g0:=blk_frozen a0.out 1;obtain⟨c8,b8,l8,_⟩:=Kd.Q_slice a5.out;subst l8)|(go_at_call 59;(with_reducible refine(impl_StateOk.calls _ _ a2 _ _ a3 a8 c7 _ ?side1 ?side2 ?side3 ?side4 A4.out).mono ?_);(case side1=> exact zq89);(case side2=>exact(Kd.S_reads' a4.out).2.1);(case side3=> exact zq114);(case side4=>exact(Kd.Q_reads' a5.out).2.1);rintro e k6 ⟨rfl,hb⟩;replace a4:=zqm (Kd.S_below zq72 hb);replace a5:=zqm (Kd.Q_below zq69 hb);replace a0:=zqm (blk_below (g:=a1) (o:= .cells #[.slice d5 a2.length d1,.slice c8 a3.length b8] 30 (0,0)) zq93 hb);replace HB:=zqm (below_step zq17 hb);clear hb;have g1:k6.cell? ⟨a1,0,none⟩=some (.slice d5 a2.length d1):=(blk_cell a0.out 0).trans rfl;have g2:k6.cell? ⟨a1,1,none⟩=some (.slice c8 a3.length b8):=(blk_cell a0.out 1).trans rfl;have g3:=blk_frozen a0.out 0;have g4:=blk_frozen a0.out 1)|(go_at_call 60;(with_reducible refine(spec_StateOk.calls k _ _ a2 _ _ a3 a8 b7 _ ?side1 ?side2 ?side3 ?side4 A5.out).mono ?_);(case side1=> exact zq44);(case side2=>exact(Kd.S_reads' a4.out).2.1);(case side3=> exact zq43);(case side4=>exact(Kd.Q_reads' a5.out).2.1);rintro e x3 ⟨rfl,hb⟩;replace a4:=zqm (Kd.S_below zq35 hb);replace a5:=zqm (Kd.Q_below zq34 hb);replace a0:=zqm (blk_below (g:=a1) (o:= .cells #[.slice d5 a2.length d1,.slice c8 a3.length b8] 30 (0,0)) zq2 hb);replace HB:=zqm (below_step zq17 hb);clear hb)))
   go_ret
   exact⟨zq11,zq17⟩
  ·rw [if_neg c6] at H;(have o4:(c7 !=b7)=false:=by simpa using c6);(try(have o5:decide (c7=b7)=true:=by simpa using c6));(try(have o6:(c7==b7)=true:=by simpa using c6));clear c6
   by_cases l9:c7=true
   ·subst l9;(have H1:((spec_KeepsOk.f k a2 a3).bind fun b4=>(laws_FnStateOk.l0 k a8 b4 0 a2 a3))=some r:=by rw [if_pos rfl] at H;exact H);clear H;have H:=H1;clear H1;replace H:=Option.bind_eq_some_iff.mp H;obtain⟨b4,u1,H⟩:=H;replace H:(laws_FnStateOk.l0 k a8 b4 0 a2 a3)=some r:=H;have u2:=zqm u1;clear u1;have H':=zqm H;clear H
    go_enter Try.func12,Try.ntmps12
    go_wp2_with (first|(go_at_call 58;(with_reducible refine(spec_DrawStateOk.calls k _ _ l0 a2 a3 a8 _ ?side1 ?side2 A3.out).mono ?_);(case side1=> exact zq97);(case side2=>exact j4.out);rintro e x4 ⟨f3,f4,rfl,d2,d3,hb⟩;have a4:=zqm (Kd.S_lower d2 (below_size zq0));have a5:=zqm (Kd.Q_lower d3 (below_size zq0));replace HB:=zqm (below_step zq0 hb);clear hb d2 d3)|((with_reducible refine gate_dst (N:=3) rfl ?_);refine box_event ?hg (N:=3) ?hd (cs:= #[.slice none 0 0,.slice none 0 0]) (t:=30) ?hr ?_;(case hd=>rfl);(case hg=>rfl);(case hr=>first|(go_simp;done)|(go_simp;rfl));intro a1 hg k7 hbox hb;replace a4:=zqm (Kd.S_below zq35 hb);replace a5:=zqm (Kd.Q_below zq34 hb);have d4:=zqm (below_step zq0 hb);have a0:=zqm (hbox);have e3:=zqm ((by rw [hg];exact(below_size zq0):w.heap.size≤a1));have a9:=zqm ((by rw [hg];exact(below_size zq0):w.heap.size≤a1));clear HB;have HB:=d4;clear d4 hb hbox hg;obtain⟨b3,b1,m0⟩:=Kd.S_slice a4.out;subst m0;have g5:k7.cell? ⟨a1,0,none⟩=some (.slice none 0 0):=(blk_cell a0.out 0).trans rfl;have g6:k7.cell? ⟨a1,1,none⟩=some (.slice none 0 0):=(blk_cell a0.out 1).trans rfl;have g7:=blk_frozen a0.out 0;have g8:=blk_frozen a0.out 1;obtain⟨b2,b0,m1,_⟩:=Kd.Q_slice a5.out;subst m1)|(go_at_call 59;(with_reducible refine(impl_StateOk.calls _ _ a2 _ _ a3 a8 true _ ?side1 ?side2 ?side3 ?side4 A4.out).mono ?_);(case side1=> exact zq90);(case side2=>exact(Kd.S_reads' a4.out).2.1);(case side3=> exact zq115);(case side4=>exact(Kd.Q_reads' a5.out).2.1);rintro e k8 ⟨rfl,hb⟩;replace a4:=zqm (Kd.S_below zq68 hb);replace a5:=zqm (Kd.Q_below zq71 hb);replace a0:=zqm (blk_below (g:=a1) (o:= .cells #[.slice b3 a2.length b1,.slice b2 a3.length b0] 30 (0,0)) zq92 hb);replace HB:=zqm (below_step zq17 hb);clear hb;have g9:k8.cell? ⟨a1,0,none⟩=some (.slice b3 a2.length b1):=(blk_cell a0.out 0).trans rfl;have h0:k8.cell? ⟨a1,1,none⟩=some (.slice b2 a3.length b0):=(blk_cell a0.out 1).trans rfl;have h1:=blk_frozen a0.out 0;have h2:=blk_frozen a0.out 1)|(go_at_call 60;(with_reducible refine(spec_StateOk.calls k _ _ a2 _ _ a3 a8 b7 _ ?side1 ?side2 ?side3 ?side4 A5.out).mono ?_);(case side1=> exact zq44);(case side2=>exact(Kd.S_reads' a4.out).2.1);(case side3=> exact zq43);(case side4=>exact(Kd.Q_reads' a5.out).2.1);rintro e k9 ⟨rfl,hb⟩;replace a4:=zqm (Kd.S_below zq35 hb);replace a5:=zqm (Kd.Q_below zq34 hb);replace a0:=zqm (blk_below (g:=a1) (o:= .cells #[.slice b3 a2.length b1,.slice b2 a3.length b0] 30 (0,0)) zq2 hb);replace HB:=zqm (below_step zq17 hb);clear hb;have h3:k9.cell? ⟨a1,0,none⟩=some (.slice b3 a2.length b1):=(blk_cell a0.out 0).trans rfl;have h4:k9.cell? ⟨a1,1,none⟩=some (.slice b2 a3.length b0):=(blk_cell a0.out 1).trans rfl;have h5:=blk_frozen a0.out 0;have h6:=blk_frozen a0.out 1)|(go_at_call 22;(with_reducible refine(spec_KeepsOk.calls k _ _ a2 _ _ a3 b4 _ ?side1 ?side2 ?side3 ?side4 u2.out).mono ?_);(case side1=> exact zq44);(case side2=>exact(Kd.S_reads' a4.out).2.1);(case side3=> exact zq43);(case side4=>exact(Kd.Q_reads' a5.out).2.1);rintro e x5 ⟨rfl,hb⟩;replace a4:=zqm (Kd.S_below zq35 hb);replace a5:=zqm (Kd.Q_below zq34 hb);replace a0:=zqm (blk_below (g:=a1) (o:= .cells #[.slice b3 a2.length b1,.slice b2 a3.length b0] 30 (0,0)) zq2 hb);replace HB:=zqm (below_step zq17 hb);clear hb))
    repeat(go_quiet (first|(go_at_call 58;(with_reducible refine(spec_DrawStateOk.calls k _ _ l0 a2 a3 a8 _ ?side1 ?side2 A3.out).mono ?_);(case side1=> exact zq97);(case side2=>exact j4.out);rintro e x4 ⟨f3,f4,rfl,d2,d3,hb⟩;have a4:=zqm (Kd.S_lower d2 (below_size zq0));have a5:=zqm (Kd.Q_lower d3 (below_size zq0));replace HB:=zqm (below_step zq0 hb);clear hb d2 d3)|((with_reducible refine gate_dst (N:=3) rfl ?_);refine box_event ?hg (N:=3) ?hd (cs:= #[.slice none 0 0,.slice none 0 0]) (t:=30) ?hr ?_;(case hd=>rfl);(case hg=>rfl);(case hr=>first|(go_simp;done)|(go_simp;rfl));intro a1 hg k7 hbox hb;replace a4:=zqm (Kd.S_below zq35 hb);replace a5:=zqm (Kd.Q_below zq34 hb);have d4:=zqm (below_step zq0 hb);have a0:=zqm (hbox);have e3:=zqm ((by rw [hg];exact(below_size zq0):w.heap.size≤a1));have a9:=zqm ((by rw [hg];exact(below_size zq0):w.heap.size≤a1));clear HB;have HB:=d4;clear d4 hb hbox hg;obtain⟨b3,b1,m0⟩:=Kd.S_slice a4.out;subst m0;have g5:k7.cell? ⟨a1,0,none⟩=some (.slice none 0 0):=(blk_cell a0.out 0).trans rfl;have g6:k7.cell? ⟨a1,1,none⟩=some (.slice none 0 0):=(blk_cell a0.out 1).trans rfl;have g7:=blk_frozen a0.out 0;have g8:=blk_frozen a0.out 1;obtain⟨b2,b0,m1,_⟩:=Kd.Q_slice a5.out;subst m1)|(go_at_call 59;(with_reducible refine(impl_StateOk.calls _ _ a2 _ _ a3 a8 true _ ?side1 ?side2 ?side3 ?side4 A4.out).mono ?_);(case side1=> exact zq90);(case side2=>exact(Kd.S_reads' a4.out).2.1);(case side3=> exact zq115);(case side4=>exact(Kd.Q_reads' a5.out).2.1);rintro e k8 ⟨rfl,hb⟩;replace a4:=zqm (Kd.S_below zq68 hb);replace a5:=zqm (Kd.Q_below zq71 hb);replace a0:=zqm (blk_below (g:=a1) (o:= .cells #[.slice b3 a2.length b1,.slice b2 a3.length b0] 30 (0,0)) zq92 hb);replace HB:=zqm (below_step zq17 hb);clear hb;have g9:k8.cell? ⟨a1,0,none⟩=some (.slice b3 a2.length b1):=(blk_cell a0.out 0).trans rfl;have h0:k8.cell? ⟨a1,1,none⟩=some (.slice b2 a3.length b0):=(blk_cell a0.out 1).trans rfl;have h1:=blk_frozen a0.out 0;have h2:=blk_frozen a0.out 1)|(go_at_call 60;(with_reducible refine(spec_StateOk.calls k _ _ a2 _ _ a3 a8 b7 _ ?side1 ?side2 ?side3 ?side4 A5.out).mono ?_);(case side1=> exact zq44);(case side2=>exact(Kd.S_reads' a4.out).2.1);(case side3=> exact zq43);(case side4=>exact(Kd.Q_reads' a5.out).2.1);rintro e k9 ⟨rfl,hb⟩;replace a4:=zqm (Kd.S_below zq35 hb);replace a5:=zqm (Kd.Q_below zq34 hb);replace a0:=zqm (blk_below (g:=a1) (o:= .cells #[.slice b3 a2.length b1,.slice b2 a3.length b0] 30 (0,0)) zq2 hb);replace HB:=zqm (below_step zq17 hb);clear hb;have h3:k9.cell? ⟨a1,0,none⟩=some (.slice b3 a2.length b1):=(blk_cell a0.out 0).trans rfl;have h4:k9.cell? ⟨a1,1,none⟩=some (.slice b2 a3.length b0):=(blk_cell a0.out 1).trans rfl;have h5:=blk_frozen a0.out 0;have h6:=blk_frozen a0.out 1)|(go_at_call 22;(with_reducible refine(spec_KeepsOk.calls k _ _ a2 _ _ a3 b4 _ ?side1 ?side2 ?side3 ?side4 u2.out).mono ?_);(case side1=> exact zq44);(case side2=>exact(Kd.S_reads' a4.out).2.1);(case side3=> exact zq43);(case side4=>exact(Kd.Q_reads' a5.out).2.1);rintro e x5 ⟨rfl,hb⟩;replace a4:=zqm (Kd.S_below zq35 hb);replace a5:=zqm (Kd.Q_below zq34 hb);replace a0:=zqm (blk_below (g:=a1) (o:= .cells #[.slice b3 a2.length b1,.slice b2 a3.length b0] 30 (0,0)) zq2 hb);replace HB:=zqm (below_step zq17 hb);clear hb));try go_wp2_with (first|(go_at_call 58;(with_reducible refine(spec_DrawStateOk.calls k _ _ l0 a2 a3 a8 _ ?side1 ?side2 A3.out).mono ?_);(case side1=> exact zq97);(case side2=>exact j4.out);rintro e x4 ⟨f3,f4,rfl,d2,d3,hb⟩;have a4:=zqm (Kd.S_lower d2 (below_size zq0));have a5:=zqm (Kd.Q_lower d3 (below_size zq0));replace HB:=zqm (below_step zq0 hb);clear hb d2 d3)|((with_reducible refine gate_dst (N:=3) rfl ?_);refine box_event ?hg (N:=3) ?hd (cs:= #[.slice none 0 0,.slice none 0 0]) (t:=30) ?hr ?_;(case hd=>rfl);(case hg=>rfl);(case hr=>first|(go_simp;done)|(go_simp;rfl));intro a1 hg k7 hbox hb;replace a4:=zqm (Kd.S_below zq35 hb);replace a5:=zqm (Kd.Q_below zq34 hb);have d4:=zqm (below_step zq0 hb);have a0:=zqm (hbox);have e3:=zqm ((by rw [hg];exact(below_size zq0):w.heap.size≤a1));have a9:=zqm ((by rw [hg];exact(below_size zq0):w.heap.size≤a1));clear HB;have HB:=d4;clear d4 hb hbox hg;obtain⟨b3,b1,m0⟩:=Kd.S_slice a4.out;subst m0;have g5:k7.cell? ⟨a1,0,none⟩=some (.slice none 0 0):=(blk_cell a0.out 0).trans rfl;have g6:k7.cell? ⟨a1,1,none⟩=some (.slice none 0 0):=(blk_cell a0.out 1).trans rfl;have g7:=blk_frozen a0.out 0;have g8:=blk_frozen a0.out 1;obtain⟨b2,b0,m1,_⟩:=Kd.Q_slice a5.out;subst m1)|(go_at_call 59;(with_reducible refine(impl_StateOk.calls _ _ a2 _ _ a3 a8 true _ ?side1 ?side2 ?side3 ?side4 A4.out).mono ?_);(case side1=> exact zq90);(case side2=>exact(Kd.S_reads' a4.out).2.1);(case side3=> exact zq115);(case side4=>exact(Kd.Q_reads' a5.out).2.1);rintro e k8 ⟨rfl,hb⟩;replace a4:=zqm (Kd.S_below zq68 hb);replace a5:=zqm (Kd.Q_below zq71 hb);replace a0:=zqm (blk_below (g:=a1) (o:= .cells #[.slice b3 a2.length b1,.slice b2 a3.length b0] 30 (0,0)) zq92 hb);replace HB:=zqm (below_step zq17 hb);clear hb;have g9:k8.cell? ⟨a1,0,none⟩=some (.slice b3 a2.length b1):=(blk_cell a0.out 0).trans rfl;have h0:k8.cell? ⟨a1,1,none⟩=some (.slice b2 a3.length b0):=(blk_cell a0.out 1).trans rfl;have h1:=blk_frozen a0.out 0;have h2:=blk_frozen a0.out 1)|(go_at_call 60;(with_reducible refine(spec_StateOk.calls k _ _ a2 _ _ a3 a8 b7 _ ?side1 ?side2 ?side3 ?side4 A5.out).mono ?_);(case side1=> exact zq44);(case side2=>exact(Kd.S_reads' a4.out).2.1);(case side3=> exact zq43);(case side4=>exact(Kd.Q_reads' a5.out).2.1);rintro e k9 ⟨rfl,hb⟩;replace a4:=zqm (Kd.S_below zq35 hb);replace a5:=zqm (Kd.Q_below zq34 hb);replace a0:=zqm (blk_below (g:=a1) (o:= .cells #[.slice b3 a2.length b1,.slice b2 a3.length b0] 30 (0,0)) zq2 hb);replace HB:=zqm (below_step zq17 hb);clear hb;have h3:k9.cell? ⟨a1,0,none⟩=some (.slice b3 a2.length b1):=(blk_cell a0.out 0).trans rfl;have h4:k9.cell? ⟨a1,1,none⟩=some (.slice b2 a3.length b0):=(blk_cell a0.out 1).trans rfl;have h5:=blk_frozen a0.out 0;have h6:=blk_frozen a0.out 1)|(go_at_call 22;(with_reducible refine(spec_KeepsOk.calls k _ _ a2 _ _ a3 b4 _ ?side1 ?side2 ?side3 ?side4 u2.out).mono ?_);(case side1=> exact zq44);(case side2=>exact(Kd.S_reads' a4.out).2.1);(case side3=> exact zq43);(case side4=>exact(Kd.Q_reads' a5.out).2.1);rintro e x5 ⟨rfl,hb⟩;replace a4:=zqm (Kd.S_below zq35 hb);replace a5:=zqm (Kd.Q_below zq34 hb);replace a0:=zqm (blk_below (g:=a1) (o:= .cells #[.slice b3 a2.length b1,.slice b2 a3.length b0] 30 (0,0)) zq2 hb);replace HB:=zqm (below_step zq17 hb);clear hb)))
    go_loopg [7] k (fun kq v7 w'=> ∃(a7:Int),v7= .int .i64 a7∧Aside0 (laws_FnStateOk.l0 kq a8 b4 a7 a2 a3=some r)∧Aside0 (kq≤k)∧Aside0 (Kd.S (Kd.slice 3 (Kd.int .i64)) 28 w' w.heap.size (fun k_=>some k_≠((.slice b2 a3.length b0):Value).ownBlock) (.slice b3 a2.length b1) a2)∧Aside0 (Kd.Q (Kd.int .i64) 3 w' w.heap.size (fun _=>True) (.slice b2 a3.length b0) a3)∧Aside0 (w'.heap[a1]? =some (.cells #[(.slice b3 a2.length b1),(.slice b2 a3.length b0)] 30 (0,0)))∧Aside0 (Below w.heap.size w w'))
    case atStart=>exact⟨(0),(by first|rfl|(simp;done)|(simp [*];done)),H',⟨Nat.le_refl _⟩,⟨zq35⟩,⟨zq34⟩,⟨zq2⟩,⟨zq17⟩⟩
    case round=>
     clear H';(try clear c1);(try clear c2);(try clear o2);(try clear o3);(try clear p2);(try clear c6);(try clear o4);(try clear o5);(try clear o6);(try clear x6);(try clear l9);(try clear f7);(try clear f8);(try clear g1);(try clear g2);(try clear g5);(try clear g6);(try clear g9);(try clear h0);(try clear h3);(try clear h4);(try clear f9);(try clear g0);(try clear g3);(try clear g4);(try clear g7);(try clear g8);(try clear h1);(try clear h2);(try clear h5);(try clear h6);obtain⟨a7,rfl,HA,i4,HO_1052000,HO_1052001,a0,HB⟩:=hrel
     cases gk with
     |zero=>exact absurd HA.out (by simp [laws_FnStateOk.l0])
     |succ k1=>
      have H:=HA.out;clear HA;simp only [laws_FnStateOk.l0] at H
      by_cases l2:a7<(a3.length:Int)
      ·rw [if_pos l2] at H;have o7:decide (a7<(a3.length:Int))=true:=decide_eq_true l2;clear l2;have H':=zqm H;clear H;have m9:wr.cell? ⟨a1,0,none⟩=some (.slice b3 a2.length b1):=(blk_cell a0.out 0).trans rfl;have n0:wr.cell? ⟨a1,1,none⟩=some (.slice b2 a3.length b0):=(blk_cell a0.out 1).trans rfl;have n1:=blk_frozen a0.out 0;have n2:=blk_frozen a0.out 1
       go_wp2
       repeat(go_quiet (fail);try go_wp2)
       go_loopg [8] k1 (fun kq v8 w'=> ∃(a6:Int),v8= .int .i64 a6∧Aside0 (laws_FnStateOk.l1 kq a8 b4 a7 a6 a2 a3=some r)∧Aside0 (kq≤k1)∧Aside0 (Kd.S (Kd.slice 3 (Kd.int .i64)) 28 w' w.heap.size (fun k_=>some k_≠((.slice b2 a3.length b0):Value).ownBlock) (.slice b3 a2.length b1) a2)∧Aside0 (Kd.Q (Kd.int .i64) 3 w' w.heap.size (fun _=>True) (.slice b2 a3.length b0) a3)∧Aside0 (w'.heap[a1]? =some (.cells #[(.slice b3 a2.length b1),(.slice b2 a3.length b0)] 30 (0,0)))∧Aside0 (Below w.heap.size w w'))
       case atStart=>exact⟨(0),(by first|rfl|(simp;done)|(simp [*];done)),H',⟨Nat.le_refl _⟩,⟨zq106⟩,⟨zq107⟩,⟨zq2⟩,⟨zq17⟩⟩
       case round=>
        clear H';(try clear c1);(try clear c2);(try clear o2);(try clear o3);(try clear p2);(try clear c6);(try clear o4);(try clear o5);(try clear o6);(try clear x6);(try clear l9);(try clear l2);(try clear o7);(try clear f7);(try clear f8);(try clear g1);(try clear g2);(try clear g5);(try clear g6);(try clear g9);(try clear h0);(try clear h3);(try clear h4);(try clear m9);(try clear n0);(try clear f9);(try clear g0);(try clear g3);(try clear g4);(try clear g7);(try clear g8);(try clear h1);(try clear h2);(try clear h5);(try clear h6);(try clear n1);(try clear n2);(try clear p2);obtain⟨a6,rfl,HA,i5,HO_1052000,HO_1052001,a0,HB⟩:=hrel
        cases gk with
        |zero=>exact absurd HA.out (by simp [laws_FnStateOk.l1])
        |succ k2=>
         have H:=HA.out;clear HA;simp only [laws_FnStateOk.l1] at H
         by_cases m2:a6<(a3.length:Int)
         ·rw [if_pos m2] at H;have r5:decide (a6<(a3.length:Int))=true:=decide_eq_true m2;clear m2;have q5:=zqm H;clear H;have s5:wr.cell? ⟨a1,0,none⟩=some (.slice b3 a2.length b1):=(blk_cell a0.out 0).trans rfl;have s6:wr.cell? ⟨a1,1,none⟩=some (.slice b2 a3.length b0):=(blk_cell a0.out 1).trans rfl;have s7:=blk_frozen a0.out 0;have s8:=blk_frozen a0.out 1
          go_upto_region 16 with (fail)
          repeat(go_quiet (fail);go_upto_region 16 with (fail))
          go_cut [69] (fun z7 wc=> ∃(kq:Nat) (j5:Bool),z7= .bool j5∧Aside0 (laws_FnStateOk.j2 kq a8 b4 a7 a6 j5 a2 a3=some r)∧Aside0 (kq≤k2)∧Aside0 (Kd.S (Kd.slice 3 (Kd.int .i64)) 28 wc w.heap.size (fun k_=>some k_≠((.slice b2 a3.length b0):Value).ownBlock) (.slice b3 a2.length b1) a2)∧Aside0 (Kd.Q (Kd.int .i64) 3 wc w.heap.size (fun _=>True) (.slice b2 a3.length b0) a3)∧Aside0 (wc.heap[a1]? =some (.cells #[(.slice b3 a2.length b1),(.slice b2 a3.length b0)] 30 (0,0)))∧Aside0 (Below w.heap.size w wc))
          case first=>
           have H:=q5.out;clear q5
           by_cases n3:0≤a7
           ·rw [if_pos n3] at H;have v4:=eq_true n3;have v5:decide (0≤a7)=true:=decide_eq_true n3;clear n3;obtain⟨i6,l7⟩: ∃j_:Int,(shr .i64 a8 a7)=j_:=⟨_,rfl⟩;(replace H:(if(Int.tmod (i6) 2)=1 then(if b4=true then(if a7<(a2.length:Int) then(if 0≤a6 then(if a6<((rd_L3 a2 a7).length:Int) then(if(rd (rd_L3 a2 a7) a6)=1 then(laws_FnStateOk.j2 k2 a8 b4 a7 a6 ((Int.tmod (shr .i64 a8 a6) 2)==0) a2 a3) else(laws_FnStateOk.j2 k2 a8 b4 a7 a6 false a2 a3)) else(none)) else(none)) else(none)) else(laws_FnStateOk.j2 k2 a8 b4 a7 a6 false a2 a3)) else(laws_FnStateOk.j2 k2 a8 b4 a7 a6 false a2 a3))=some r:=by first|(rw [l7] at H;exact H)|(simp only [l7] at H ⊢;exact H));have z8:(a8 / 2 ^ min a7.toNat 64)=i6:=l7;have hji33z:a7≤64→(a8 / 2 ^ a7.toNat)=i6:=shr_small l7
            by_cases l3:(Int.tmod (i6) 2)=1
            ·rw [if_pos l3] at H;have i9:((Int.tmod (i6) 2)==1)=true:=beq_iff_eq.mpr l3;have r6:((Int.tmod (i6) 2) !=1)=false:=bne_eq_false_iff_eq.mpr l3;clear l3;(first|rw [i9]|(simp only [i64_w,i32_w];rw [i9])|skip)
             by_cases p7:b4=true
             ·subst p7;(have H1:(if a7<(a2.length:Int) then(if 0≤a6 then(if a6<((rd_L3 a2 a7).length:Int) then(if(rd (rd_L3 a2 a7) a6)=1 then(laws_FnStateOk.j2 k2 a8 true a7 a6 ((Int.tmod (shr .i64 a8 a6) 2)==0) a2 a3) else(laws_FnStateOk.j2 k2 a8 true a7 a6 false a2 a3)) else(none)) else(none)) else(none))=some r:=by rw [if_pos rfl] at H;exact H);clear H;have H:=H1;clear H1
              by_cases p8:a7<(a2.length:Int)
              ·rw [if_pos p8] at H;have v6:decide (a7<(a2.length:Int))=true:=decide_eq_true p8;clear p8
               by_cases p9:0≤a6
               ·rw [if_pos p9] at H;have v9:decide (0≤a6)=true:=decide_eq_true p9;clear p9
                by_cases q0:a6<((rd_L3 a2 a7).length:Int)
                ·rw [if_pos q0] at H;have w0:decide (a6<((rd_L3 a2 a7).length:Int))=true:=decide_eq_true q0;clear q0
                 by_cases l4:(rd (rd_L3 a2 a7) a6)=1
                 ·rw [if_pos l4] at H;have r7:((rd (rd_L3 a2 a7) a6)==1)=true:=beq_iff_eq.mpr l4;have r8:((rd (rd_L3 a2 a7) a6) !=1)=false:=bne_eq_false_iff_eq.mpr l4;clear l4;have w1:=eq_true (zqo:0≤a6);obtain⟨o8,j6⟩: ∃j_:Int,(shr .i64 a8 a6)=j_:=⟨_,rfl⟩;(replace H:(laws_FnStateOk.j2 k2 a8 true a7 a6 ((Int.tmod (o8) 2)==0) a2 a3)=some r:=by first|(rw [j6] at H;exact H)|(simp only [j6] at H ⊢;exact H));have z9:(a8 / 2 ^ min a6.toNat 64)=o8:=j6;have hji41z:a6≤64→(a8 / 2 ^ a6.toNat)=o8:=shr_small j6;have H':=zqm H;clear H;have s9:wr.cell? ⟨a1,0,none⟩=some (.slice b3 a2.length b1):=(blk_cell a0.out 0).trans rfl;have t0:wr.cell? ⟨a1,1,none⟩=some (.slice b2 a3.length b0):=(blk_cell a0.out 1).trans rfl;have t1:=blk_frozen a0.out 0;have t2:=blk_frozen a0.out 1;have e1:0≤(a7:Int):=zqo;have e2:a7<(a2.length:Int):=zqo;obtain⟨u3,t3,t4,o9,h9,e6,e7⟩:=at_L3 (Kd.S_reads' HO_1052000.out).2.2 a7 e1 e2
                  cases o9
                  obtain⟨u4,j9,k0,h7⟩:=Kd.S_get HO_1052000.out [] a7 e1 zq415;obtain⟨q6,rfl,d8⟩:=k0;have c9:=h7 0 _ rfl;rw [Nat.add_zero,show ((Kd.slice 3 (Kd.int .i64))).sz=1 from rfl,Nat.mul_one] at c9;replace c9:=Option.some.inj (c9.symm.trans h9);rw [c9] at d8;have q7:=zqm (show Kd.R (Kd.int .i64) 3 _ _ _ _ (rd_L3 a2 a7) from d8);clear c9 d8 h7 j9;have e8:=zqm e7;have q8:=zqm e6;clear e7 e6;replace e1:=eq_true e1;replace e2:=eq_true e2;have f5:0≤(a6:Int):=zqo;have f6:a6<((rd_L3 a2 a7).length:Int):=zqo;obtain⟨u5,p0,m3⟩:=Kd.at_int zq338 a6 f5 f6
                  cases p0
                  replace f5:=eq_true f5;replace f6:=eq_true f6
                  go_wp2
                  repeat(go_quiet (fail);try go_wp2)
                  go_meet
                  case rel=>exact⟨_,(((Int.tmod (o8) 2)==0)),(by first|rfl|(simp;done)|(simp only [← j6] <;> (first|rfl|simp))|(simp [*];done)),H',⟨zq378⟩,⟨zq106⟩,⟨zq107⟩,⟨zq2⟩,⟨zq17⟩⟩
                 ·rw [if_neg l4] at H;have r7:((rd (rd_L3 a2 a7) a6)==1)=false:=beq_eq_false_iff_ne.mpr l4;have r8:((rd (rd_L3 a2 a7) a6) !=1)=true:=bne_iff_ne.mpr l4;have H':=zqm H;clear H;have t5:wr.cell? ⟨a1,0,none⟩=some (.slice b3 a2.length b1):=(blk_cell a0.out 0).trans rfl;have t6:wr.cell? ⟨a1,1,none⟩=some (.slice b2 a3.length b0):=(blk_cell a0.out 1).trans rfl;have t7:=blk_frozen a0.out 0;have t8:=blk_frozen a0.out 1;have e1:0≤(a7:Int):=zqo;have e2:a7<(a2.length:Int):=zqo;obtain⟨u3,t3,t4,o9,h9,e6,e7⟩:=at_L3 (Kd.S_reads' HO_1052000.out).2.2 a7 e1 e2
                  cases o9
                  obtain⟨u4,j9,k0,h7⟩:=Kd.S_get HO_1052000.out [] a7 e1 zq415;obtain⟨q6,rfl,d8⟩:=k0;have c9:=h7 0 _ rfl;rw [Nat.add_zero,show ((Kd.slice 3 (Kd.int .i64))).sz=1 from rfl,Nat.mul_one] at c9;replace c9:=Option.some.inj (c9.symm.trans h9);rw [c9] at d8;have q7:=zqm (show Kd.R (Kd.int .i64) 3 _ _ _ _ (rd_L3 a2 a7) from d8);clear c9 d8 h7 j9;have e8:=zqm e7;have q8:=zqm e6;clear e7 e6;replace e1:=eq_true e1;replace e2:=eq_true e2;have f5:0≤(a6:Int):=zqo;have f6:a6<((rd_L3 a2 a7).length:Int):=zqo;obtain⟨u5,p0,m3⟩:=Kd.at_int zq338 a6 f5 f6
                  cases p0
                  replace f5:=eq_true f5;replace f6:=eq_true f6
                  go_wp2
                  repeat(go_quiet (fail);try go_wp2)
                  go_meet
                  case rel=>exact⟨_,(false),(by first|rfl|(simp;done)|(simp [*];done)),H',⟨zq378⟩,⟨zq106⟩,⟨zq107⟩,⟨zq2⟩,⟨zq17⟩⟩
                ·rw [if_neg q0] at H;exact absurd H (by simp)
               ·rw [if_neg p9] at H;exact absurd H (by simp)
              ·rw [if_neg p8] at H;exact absurd H (by simp)
             ·replace p7:=Bool.eq_false_iff.mpr p7;subst p7;(have H1:(laws_FnStateOk.j2 k2 a8 false a7 a6 false a2 a3)=some r:=by rw [if_neg (show¬(false=true) by decide)] at H;exact H);clear H;have H:=H1;clear H1;have H':=zqm H;clear H
              go_wp2
              repeat(go_quiet (fail);try go_wp2)
              go_meet
              case rel=>exact⟨_,(false),(by first|rfl|(simp;done)|(simp [*];done)),H',⟨zq378⟩,⟨zq106⟩,⟨zq107⟩,⟨zq2⟩,⟨zq17⟩⟩
            ·rw [if_neg l3] at H;have i9:((Int.tmod (i6) 2)==1)=false:=beq_eq_false_iff_ne.mpr l3;have r6:((Int.tmod (i6) 2) !=1)=true:=bne_iff_ne.mpr l3;(first|rw [i9]|(simp only [i64_w,i32_w];rw [i9])|skip);have H':=zqm H;clear H
             go_wp2
             repeat(go_quiet (fail);try go_wp2)
             go_meet
             case rel=>exact⟨_,(false),(by first|rfl|(simp;done)|(simp [*];done)),H',⟨zq378⟩,⟨zq106⟩,⟨zq107⟩,⟨zq2⟩,⟨zq17⟩⟩
           ·rw [if_neg n3] at H;exact absurd H (by simp)
          case rest=>
           clear q5;(try clear c1);(try clear p1);(try clear q1);(try clear hx1);(try clear c2);(try clear o2);(try clear o3);(try clear p2);(try clear c3);(try clear c4);(try clear c6);(try clear o4);(try clear o5);(try clear o6);(try clear c10);(try clear p10);(try clear q10);(try clear a0o);(try clear x6);(try clear l9);(try clear l2);(try clear o7);(try clear m2);(try clear r5);(try clear n3);(try clear v4);(try clear v5);(try clear l3);(try clear i9);(try clear r6);(try clear p7);(try clear p8);(try clear v6);(try clear p9);(try clear v9);(try clear q0);(try clear w0);(try clear l4);(try clear r7);(try clear r8);(try clear c40);(try clear w1);(try clear f7);(try clear f8);(try clear g1);(try clear g2);(try clear g5);(try clear g6);(try clear g9);(try clear h0);(try clear h3);(try clear h4);(try clear m9);(try clear n0);(try clear s5);(try clear s6);(try clear s9);(try clear t0);(try clear t5);(try clear t6);(try clear f9);(try clear g0);(try clear g3);(try clear g4);(try clear g7);(try clear g8);(try clear h1);(try clear h2);(try clear h5);(try clear h6);(try clear n1);(try clear n2);(try clear s7);(try clear s8);(try clear t1);(try clear t2);(try clear t7);(try clear t8);(try clear h9);(try clear m3);(try clear e1);(try clear f5);(try clear p2);(try clear e2);(try clear f6);obtain⟨kq,j5,rfl,HA,k3,HO_1052000,HO_1052001,a0,HB⟩:=hcut
           cases kq with
           |zero=>exact absurd HA.out (by simp [laws_FnStateOk.j2])
           |succ e9=>
            have H:=HA.out;clear HA;simp only [laws_FnStateOk.j2] at H
            by_cases r9:j5=true
            ·subst r9;(have H1:(some false)=some r:=by rw [if_pos rfl] at H;exact H);clear H;have H:=H1;clear H1;obtain rfl:=Option.some.inj H
             go_wp2
             repeat(go_quiet (fail);try go_wp2)
             go_ret
             exact⟨zq11,zq17⟩
            ·replace r9:=Bool.eq_false_iff.mpr r9;subst r9;(have H1:(if 0≤a7 then(if(Int.tmod (shr .i64 a8 a7) 2)=1 then(if 0≤a6 then(if(Int.tmod (shr .i64 a8 a6) 2)=1 then(if a7<(a2.length:Int) then(if a6<(a3.length:Int) then(if 0≤(rd a3 a6) then(if(rd a3 a6)<((rd_L3 a2 a7).length:Int) then(if(rd (rd_L3 a2 a7) (rd a3 a6))=1 then(some false) else(laws_FnStateOk.l1 e9 a8 b4 a7 (wrap64 (a6+1)) a2 a3)) else(none)) else(none)) else(none)) else(none)) else(laws_FnStateOk.l1 e9 a8 b4 a7 (wrap64 (a6+1)) a2 a3)) else(none)) else(laws_FnStateOk.l1 e9 a8 b4 a7 (wrap64 (a6+1)) a2 a3)) else(none))=some r:=by rw [if_neg (show¬(false=true) by decide)] at H;exact H);clear H;have H:=H1;clear H1
             by_cases q2:0≤a7
             ·rw [if_pos q2] at H;have a0d:=eq_true q2;have a0e:decide (0≤a7)=true:=decide_eq_true q2;clear q2;obtain⟨i7,j7⟩: ∃j_:Int,(shr .i64 a8 a7)=j_:=⟨_,rfl⟩;(replace H:(if(Int.tmod (i7) 2)=1 then(if 0≤a6 then(if(Int.tmod (shr .i64 a8 a6) 2)=1 then(if a7<(a2.length:Int) then(if a6<(a3.length:Int) then(if 0≤(rd a3 a6) then(if(rd a3 a6)<((rd_L3 a2 a7).length:Int) then(if(rd (rd_L3 a2 a7) (rd a3 a6))=1 then(some false) else(laws_FnStateOk.l1 e9 a8 b4 a7 (wrap64 (a6+1)) a2 a3)) else(none)) else(none)) else(none)) else(none)) else(laws_FnStateOk.l1 e9 a8 b4 a7 (wrap64 (a6+1)) a2 a3)) else(none)) else(laws_FnStateOk.l1 e9 a8 b4 a7 (wrap64 (a6+1)) a2 a3))=some r:=by first|(rw [j7] at H;exact H)|(simp only [j7] at H ⊢;exact H));have a0a:(a8 / 2 ^ min a7.toNat 64)=i7:=j7;have hji46z:a7≤64→(a8 / 2 ^ a7.toNat)=i7:=shr_small j7
              by_cases m4:(Int.tmod (i7) 2)=1
              ·rw [if_pos m4] at H;have w2:((Int.tmod (i7) 2)==1)=true:=beq_iff_eq.mpr m4;have w3:((Int.tmod (i7) 2) !=1)=false:=bne_eq_false_iff_eq.mpr m4;clear m4
               by_cases q3:0≤a6
               ·rw [if_pos q3] at H;have a0f:=eq_true q3;have a0g:decide (0≤a6)=true:=decide_eq_true q3;clear q3;obtain⟨i8,j8⟩: ∃j_:Int,(shr .i64 a8 a6)=j_:=⟨_,rfl⟩;(replace H:(if(Int.tmod (i8) 2)=1 then(if a7<(a2.length:Int) then(if a6<(a3.length:Int) then(if 0≤(rd a3 a6) then(if(rd a3 a6)<((rd_L3 a2 a7).length:Int) then(if(rd (rd_L3 a2 a7) (rd a3 a6))=1 then(some false) else(laws_FnStateOk.l1 e9 a8 b4 a7 (wrap64 (a6+1)) a2 a3)) else(none)) else(none)) else(none)) else(none)) else(laws_FnStateOk.l1 e9 a8 b4 a7 (wrap64 (a6+1)) a2 a3))=some r:=by first|(rw [j8] at H;exact H)|(simp only [j8] at H ⊢;exact H));have a0b:(a8 / 2 ^ min a6.toNat 64)=i8:=j8;have hji49z:a6≤64→(a8 / 2 ^ a6.toNat)=i8:=shr_small j8
                by_cases m5:(Int.tmod (i8) 2)=1
                ·rw [if_pos m5] at H;have w4:((Int.tmod (i8) 2)==1)=true:=beq_iff_eq.mpr m5;have w5:((Int.tmod (i8) 2) !=1)=false:=bne_eq_false_iff_eq.mpr m5;clear m5
                 by_cases s0:a7<(a2.length:Int)
                 ·rw [if_pos s0] at H;have a0h:decide (a7<(a2.length:Int))=true:=decide_eq_true s0;clear s0
                  by_cases s1:a6<(a3.length:Int)
                  ·rw [if_pos s1] at H;have a0i:decide (a6<(a3.length:Int))=true:=decide_eq_true s1;clear s1
                   by_cases s2:0≤(rd a3 a6)
                   ·rw [if_pos s2] at H;have a0j:decide (0≤(rd a3 a6))=true:=decide_eq_true s2;clear s2
                    by_cases s3:(rd a3 a6)<((rd_L3 a2 a7).length:Int)
                    ·rw [if_pos s3] at H;have a0k:decide ((rd a3 a6)<((rd_L3 a2 a7).length:Int))=true:=decide_eq_true s3;clear s3
                     by_cases m6:(rd (rd_L3 a2 a7) (rd a3 a6))=1
                     ·rw [if_pos m6] at H;have w6:((rd (rd_L3 a2 a7) (rd a3 a6))==1)=true:=beq_iff_eq.mpr m6;have w9:((rd (rd_L3 a2 a7) (rd a3 a6)) !=1)=false:=bne_eq_false_iff_eq.mpr m6;clear m6;obtain rfl:=Option.some.inj H;have y1:wc.cell? ⟨a1,0,none⟩=some (.slice b3 a2.length b1):=(blk_cell a0.out 0).trans rfl;have y2:wc.cell? ⟨a1,1,none⟩=some (.slice b2 a3.length b0):=(blk_cell a0.out 1).trans rfl;have y3:=blk_frozen a0.out 0;have y4:=blk_frozen a0.out 1;have e4:0≤(a7:Int):=zqo;have e5:a7<(a2.length:Int):=zqo;obtain⟨u6,t9,u0,p3,j1,f0,f1⟩:=at_L3 (Kd.S_reads' HO_1052000.out).2.2 a7 e4 e5
                      cases p3
                      obtain⟨u7,k4,k5,h8⟩:=Kd.S_get HO_1052000.out [] a7 e4 zq416;obtain⟨q9,rfl,d9⟩:=k5;have d0:=h8 0 _ rfl;rw [Nat.add_zero,show ((Kd.slice 3 (Kd.int .i64))).sz=1 from rfl,Nat.mul_one] at d0;replace d0:=Option.some.inj (d0.symm.trans j1);rw [d0] at d9;have r0:=zqm (show Kd.R (Kd.int .i64) 3 _ _ _ _ (rd_L3 a2 a7) from d9);clear d0 d9 h8 k4;have f2:=zqm f1;have r1:=zqm f0;clear f1 f0;replace e4:=eq_true e4;replace e5:=eq_true e5;have i0:0≤(a6:Int):=zqo;have i1:a6<(a3.length:Int):=zqo;obtain⟨u9,p4,r2⟩:=Kd.at_int (Kd.Q_reads' HO_1052001.out).2.2 a6 i0 i1
                      cases p4
                      replace i0:=eq_true i0;replace i1:=eq_true i1;have i2:0≤((rd a3 a6):Int):=zqo;have i3:(rd a3 a6)<((rd_L3 a2 a7).length:Int):=zqo;obtain⟨v0,p5,r3⟩:=Kd.at_int zq337 (rd a3 a6) i2 i3
                      cases p5
                      replace i2:=eq_true i2;replace i3:=eq_true i3
                      go_wp2
                      repeat(go_quiet (fail);try go_wp2)
                      go_ret
                      exact⟨by first|rfl|(simp [errW_none,errW_some] <;> rfl)|(simp only [← j7,← j8];first|rfl|(simp [errW_none,errW_some] <;> rfl))|(simp [*,errW_none,errW_some] <;> rfl),zq17⟩
                     ·rw [if_neg m6] at H;have w6:((rd (rd_L3 a2 a7) (rd a3 a6))==1)=false:=beq_eq_false_iff_ne.mpr m6;have w9:((rd (rd_L3 a2 a7) (rd a3 a6)) !=1)=true:=bne_iff_ne.mpr m6;have H':=zqm H;clear H;have y5:wc.cell? ⟨a1,0,none⟩=some (.slice b3 a2.length b1):=(blk_cell a0.out 0).trans rfl;have y6:wc.cell? ⟨a1,1,none⟩=some (.slice b2 a3.length b0):=(blk_cell a0.out 1).trans rfl;have y7:=blk_frozen a0.out 0;have y8:=blk_frozen a0.out 1;have e4:0≤(a7:Int):=zqo;have e5:a7<(a2.length:Int):=zqo;obtain⟨u6,t9,u0,p3,j1,f0,f1⟩:=at_L3 (Kd.S_reads' HO_1052000.out).2.2 a7 e4 e5
                      cases p3
                      obtain⟨u7,k4,k5,h8⟩:=Kd.S_get HO_1052000.out [] a7 e4 zq416;obtain⟨q9,rfl,d9⟩:=k5;have d0:=h8 0 _ rfl;rw [Nat.add_zero,show ((Kd.slice 3 (Kd.int .i64))).sz=1 from rfl,Nat.mul_one] at d0;replace d0:=Option.some.inj (d0.symm.trans j1);rw [d0] at d9;have r0:=zqm (show Kd.R (Kd.int .i64) 3 _ _ _ _ (rd_L3 a2 a7) from d9);clear d0 d9 h8 k4;have f2:=zqm f1;have r1:=zqm f0;clear f1 f0;replace e4:=eq_true e4;replace e5:=eq_true e5;have i0:0≤(a6:Int):=zqo;have i1:a6<(a3.length:Int):=zqo;obtain⟨u9,p4,r2⟩:=Kd.at_int (Kd.Q_reads' HO_1052001.out).2.2 a6 i0 i1
                      cases p4
                      replace i0:=eq_true i0;replace i1:=eq_true i1;have i2:0≤((rd a3 a6):Int):=zqo;have i3:(rd a3 a6)<((rd_L3 a2 a7).length:Int):=zqo;obtain⟨v0,p5,r3⟩:=Kd.at_int zq337 (rd a3 a6) i2 i3
                      cases p5
                      replace i2:=eq_true i2;replace i3:=eq_true i3
                      go_wp2
                      repeat(go_quiet (fail);try go_wp2)
                      go_roundg e9
                      (case measure=> exact zq369);case rel=>exact⟨(wrap64 (a6+1)),(by first|rfl|(simp;done)|(simp [*];done)),H',⟨zq369⟩,⟨zq106⟩,⟨zq107⟩,⟨zq2⟩,⟨zq17⟩⟩
                    ·rw [if_neg s3] at H;exact absurd H (by simp)
                   ·rw [if_neg s2] at H;exact absurd H (by simp)
                  ·rw [if_neg s1] at H;exact absurd H (by simp)
                 ·rw [if_neg s0] at H;exact absurd H (by simp)
                ·rw [if_neg m5] at H;have w4:((Int.tmod (i8) 2)==1)=false:=beq_eq_false_iff_ne.mpr m5;have w5:((Int.tmod (i8) 2) !=1)=true:=bne_iff_ne.mpr m5;have H':=zqm H;clear H
                 go_wp2
                 repeat(go_quiet (fail);try go_wp2)
                 go_roundg e9
                 (case measure=> exact zq369);case rel=>exact⟨(wrap64 (a6+1)),(by first|rfl|(simp;done)|(simp [*];done)),H',⟨zq369⟩,⟨zq106⟩,⟨zq107⟩,⟨zq2⟩,⟨zq17⟩⟩
               ·rw [if_neg q3] at H;exact absurd H (by simp)
              ·rw [if_neg m4] at H;have w2:((Int.tmod (i7) 2)==1)=false:=beq_eq_false_iff_ne.mpr m4;have w3:((Int.tmod (i7) 2) !=1)=true:=bne_iff_ne.mpr m4;have H':=zqm H;clear H
               go_wp2
               repeat(go_quiet (fail);try go_wp2)
               go_roundg e9
               (case measure=> exact zq369);case rel=>exact⟨(wrap64 (a6+1)),(by first|rfl|(simp;done)|(simp [*];done)),H',⟨zq369⟩,⟨zq106⟩,⟨zq107⟩,⟨zq2⟩,⟨zq17⟩⟩
             ·rw [if_neg q2] at H;exact absurd H (by simp)
         ·rw [if_neg m2] at H;have r5:decide (a6<(a3.length:Int))=false:=decide_eq_false m2;clear m2;have H':=zqm H;clear H;have y9:wr.cell? ⟨a1,0,none⟩=some (.slice b3 a2.length b1):=(blk_cell a0.out 0).trans rfl;have z0:wr.cell? ⟨a1,1,none⟩=some (.slice b2 a3.length b0):=(blk_cell a0.out 1).trans rfl;have z1:=blk_frozen a0.out 0;have z2:=blk_frozen a0.out 1
          go_wp2
          repeat(go_quiet (fail);try go_wp2)
          go_roundg k2
          (case measure=>have:=i4.out;have:=i5.out;omega);case rel=>exact⟨(wrap64 (a7+1)),(by first|rfl|(simp;done)|(simp [*];done)),H',⟨by have:=i4.out;have:=i5.out;omega⟩,⟨zq106⟩,⟨zq107⟩,⟨zq2⟩,⟨zq17⟩⟩
      ·rw [if_neg l2] at H;have o7:decide (a7<(a3.length:Int))=false:=decide_eq_false l2;clear l2;replace H:=Option.bind_eq_some_iff.mp H;obtain⟨e0,v1,H⟩:=H;replace H:(if 0≤e0 then(some ((Int.tmod (shr .i64 a8 e0) 2)==1)) else(none))=some r:=H;have s4:=zqm v1;clear v1
       by_cases q4:0≤e0
       ·rw [if_pos q4] at H;have a0l:=eq_true q4;have a0m:decide (0≤e0)=true:=decide_eq_true q4;clear q4;obtain⟨r4,j0⟩: ∃j_:Int,(shr .i64 a8 e0)=j_:=⟨_,rfl⟩;(replace H:(some ((Int.tmod (r4) 2)==1))=some r:=by first|(rw [j0] at H;exact H)|(simp only [j0] at H ⊢;exact H));(try rw [j0] at s4);have a0c:(a8 / 2 ^ min e0.toNat 64)=r4:=j0;have hji61z:e0≤64→(a8 / 2 ^ e0.toNat)=r4:=shr_small j0;obtain rfl:=Option.some.inj H;have z3:wr.cell? ⟨a1,0,none⟩=some (.slice b3 a2.length b1):=(blk_cell a0.out 0).trans rfl;have z4:wr.cell? ⟨a1,1,none⟩=some (.slice b2 a3.length b0):=(blk_cell a0.out 1).trans rfl;have z5:=blk_frozen a0.out 0;have z6:=blk_frozen a0.out 1
        go_wp2_with (first|(go_at_call 34;(with_reducible refine(impl_YesOf.calls _ _ a2 _ _ a3 e0 _ ?side1 ?side2 ?side3 ?side4 s4.out).mono ?_);(case side1=> exact zq290);(case side2=>exact(Kd.S_reads' HO_1052000.out).2.1);(case side3=> exact zq291);(case side4=>exact(Kd.Q_reads' HO_1052001.out).2.1);rintro e x7 ⟨rfl,hb⟩;replace HO_1052000:=zqm (Kd.S_below zq106 hb);replace HO_1052001:=zqm (Kd.Q_below zq107 hb);replace a0:=zqm (blk_below (g:=a1) (o:= .cells #[.slice b3 a2.length b1,.slice b2 a3.length b0] 30 (0,0)) zq2 hb);replace HB:=zqm (below_step zq17 hb);clear hb))
        repeat(go_quiet (first|(go_at_call 34;(with_reducible refine(impl_YesOf.calls _ _ a2 _ _ a3 e0 _ ?side1 ?side2 ?side3 ?side4 s4.out).mono ?_);(case side1=> exact zq290);(case side2=>exact(Kd.S_reads' HO_1052000.out).2.1);(case side3=> exact zq291);(case side4=>exact(Kd.Q_reads' HO_1052001.out).2.1);rintro e x7 ⟨rfl,hb⟩;replace HO_1052000:=zqm (Kd.S_below zq106 hb);replace HO_1052001:=zqm (Kd.Q_below zq107 hb);replace a0:=zqm (blk_below (g:=a1) (o:= .cells #[.slice b3 a2.length b1,.slice b2 a3.length b0] 30 (0,0)) zq2 hb);replace HB:=zqm (below_step zq17 hb);clear hb));try go_wp2_with (first|(go_at_call 34;(with_reducible refine(impl_YesOf.calls _ _ a2 _ _ a3 e0 _ ?side1 ?side2 ?side3 ?side4 s4.out).mono ?_);(case side1=> exact zq290);(case side2=>exact(Kd.S_reads' HO_1052000.out).2.1);(case side3=> exact zq291);(case side4=>exact(Kd.Q_reads' HO_1052001.out).2.1);rintro e x7 ⟨rfl,hb⟩;replace HO_1052000:=zqm (Kd.S_below zq106 hb);replace HO_1052001:=zqm (Kd.Q_below zq107 hb);replace a0:=zqm (blk_below (g:=a1) (o:= .cells #[.slice b3 a2.length b1,.slice b2 a3.length b0] 30 (0,0)) zq2 hb);replace HB:=zqm (below_step zq17 hb);clear hb)))
        go_ret
        exact⟨by first|rfl|(simp [errW_none,errW_some] <;> rfl)|(simp only [← j0];first|rfl|(simp [errW_none,errW_some] <;> rfl))|(simp [*,errW_none,errW_some] <;> rfl),zq17⟩
       ·rw [if_neg q4] at H;exact absurd H (by simp)
   ·replace l9:=Bool.eq_false_iff.mpr l9;subst l9;(have H1:((laws_alive.f k).bind fun d6=>(some d6))=some r:=by rw [if_neg (show¬(false=true) by decide)] at H;exact H);clear H;have H:=H1;clear H1;replace H:=Option.bind_eq_some_iff.mp H;obtain⟨d6,v2,H⟩:=H;replace H:(some d6)=some r:=H;have v3:=zqm v2;clear v2;obtain rfl:=Option.some.inj H
    go_enter Try.func12,Try.ntmps12
    go_wp2_with (first|(go_at_call 58;(with_reducible refine(spec_DrawStateOk.calls k _ _ l0 a2 a3 a8 _ ?side1 ?side2 A3.out).mono ?_);(case side1=> exact zq97);(case side2=>exact j4.out);rintro e x8 ⟨f3,f4,rfl,d2,d3,hb⟩;have a4:=zqm (Kd.S_lower d2 (below_size zq0));have a5:=zqm (Kd.Q_lower d3 (below_size zq0));replace HB:=zqm (below_step zq0 hb);clear hb d2 d3)|((with_reducible refine gate_dst (N:=3) rfl ?_);refine box_event ?hg (N:=3) ?hd (cs:= #[.slice none 0 0,.slice none 0 0]) (t:=30) ?hr ?_;(case hd=>rfl);(case hg=>rfl);(case hr=>first|(go_simp;done)|(go_simp;rfl));intro a1 hg l5 hbox hb;replace a4:=zqm (Kd.S_below zq35 hb);replace a5:=zqm (Kd.Q_below zq34 hb);have d4:=zqm (below_step zq0 hb);have a0:=zqm (hbox);have e3:=zqm ((by rw [hg];exact(below_size zq0):w.heap.size≤a1));have a9:=zqm ((by rw [hg];exact(below_size zq0):w.heap.size≤a1));clear HB;have HB:=d4;clear d4 hb hbox hg;obtain⟨b9,b5,m7⟩:=Kd.S_slice a4.out;subst m7;have n4:l5.cell? ⟨a1,0,none⟩=some (.slice none 0 0):=(blk_cell a0.out 0).trans rfl;have n5:l5.cell? ⟨a1,1,none⟩=some (.slice none 0 0):=(blk_cell a0.out 1).trans rfl;have n6:=blk_frozen a0.out 0;have n7:=blk_frozen a0.out 1;obtain⟨c5,b6,m8,_⟩:=Kd.Q_slice a5.out;subst m8)|(go_at_call 59;(with_reducible refine(impl_StateOk.calls _ _ a2 _ _ a3 a8 false _ ?side1 ?side2 ?side3 ?side4 A4.out).mono ?_);(case side1=> exact zq88);(case side2=>exact(Kd.S_reads' a4.out).2.1);(case side3=> exact zq113);(case side4=>exact(Kd.Q_reads' a5.out).2.1);rintro e l6 ⟨rfl,hb⟩;replace a4:=zqm (Kd.S_below zq70 hb);replace a5:=zqm (Kd.Q_below zq67 hb);replace a0:=zqm (blk_below (g:=a1) (o:= .cells #[.slice b9 a2.length b5,.slice c5 a3.length b6] 30 (0,0)) zq94 hb);replace HB:=zqm (below_step zq17 hb);clear hb;have n8:l6.cell? ⟨a1,0,none⟩=some (.slice b9 a2.length b5):=(blk_cell a0.out 0).trans rfl;have n9:l6.cell? ⟨a1,1,none⟩=some (.slice c5 a3.length b6):=(blk_cell a0.out 1).trans rfl;have o0:=blk_frozen a0.out 0;have o1:=blk_frozen a0.out 1)|(go_at_call 60;(with_reducible refine(spec_StateOk.calls k _ _ a2 _ _ a3 a8 b7 _ ?side1 ?side2 ?side3 ?side4 A5.out).mono ?_);(case side1=> exact zq44);(case side2=>exact(Kd.S_reads' a4.out).2.1);(case side3=> exact zq43);(case side4=>exact(Kd.Q_reads' a5.out).2.1);rintro e x9 ⟨rfl,hb⟩;replace a4:=zqm (Kd.S_below zq35 hb);replace a5:=zqm (Kd.Q_below zq34 hb);replace a0:=zqm (blk_below (g:=a1) (o:= .cells #[.slice b9 a2.length b5,.slice c5 a3.length b6] 30 (0,0)) zq2 hb);replace HB:=zqm (below_step zq17 hb);clear hb)|(go_at_call 18;(with_reducible refine(laws_alive.calls k d6 _ v3.out).mono ?_);rintro e y0 ⟨rfl,hb⟩;replace a4:=zqm (Kd.S_below zq35 hb);replace a5:=zqm (Kd.Q_below zq34 hb);replace a0:=zqm (blk_below (g:=a1) (o:= .cells #[.slice b9 a2.length b5,.slice c5 a3.length b6] 30 (0,0)) zq2 hb);replace HB:=zqm (below_step zq17 hb);clear hb))
    repeat(go_quiet (first|(go_at_call 58;(with_reducible refine(spec_DrawStateOk.calls k _ _ l0 a2 a3 a8 _ ?side1 ?side2 A3.out).mono ?_);(case side1=> exact zq97);(case side2=>exact j4.out);rintro e x8 ⟨f3,f4,rfl,d2,d3,hb⟩;have a4:=zqm (Kd.S_lower d2 (below_size zq0));have a5:=zqm (Kd.Q_lower d3 (below_size zq0));replace HB:=zqm (below_step zq0 hb);clear hb d2 d3)|((with_reducible refine gate_dst (N:=3) rfl ?_);refine box_event ?hg (N:=3) ?hd (cs:= #[.slice none 0 0,.slice none 0 0]) (t:=30) ?hr ?_;(case hd=>rfl);(case hg=>rfl);(case hr=>first|(go_simp;done)|(go_simp;rfl));intro a1 hg l5 hbox hb;replace a4:=zqm (Kd.S_below zq35 hb);replace a5:=zqm (Kd.Q_below zq34 hb);have d4:=zqm (below_step zq0 hb);have a0:=zqm (hbox);have e3:=zqm ((by rw [hg];exact(below_size zq0):w.heap.size≤a1));have a9:=zqm ((by rw [hg];exact(below_size zq0):w.heap.size≤a1));clear HB;have HB:=d4;clear d4 hb hbox hg;obtain⟨b9,b5,m7⟩:=Kd.S_slice a4.out;subst m7;have n4:l5.cell? ⟨a1,0,none⟩=some (.slice none 0 0):=(blk_cell a0.out 0).trans rfl;have n5:l5.cell? ⟨a1,1,none⟩=some (.slice none 0 0):=(blk_cell a0.out 1).trans rfl;have n6:=blk_frozen a0.out 0;have n7:=blk_frozen a0.out 1;obtain⟨c5,b6,m8,_⟩:=Kd.Q_slice a5.out;subst m8)|(go_at_call 59;(with_reducible refine(impl_StateOk.calls _ _ a2 _ _ a3 a8 false _ ?side1 ?side2 ?side3 ?side4 A4.out).mono ?_);(case side1=> exact zq88);(case side2=>exact(Kd.S_reads' a4.out).2.1);(case side3=> exact zq113);(case side4=>exact(Kd.Q_reads' a5.out).2.1);rintro e l6 ⟨rfl,hb⟩;replace a4:=zqm (Kd.S_below zq70 hb);replace a5:=zqm (Kd.Q_below zq67 hb);replace a0:=zqm (blk_below (g:=a1) (o:= .cells #[.slice b9 a2.length b5,.slice c5 a3.length b6] 30 (0,0)) zq94 hb);replace HB:=zqm (below_step zq17 hb);clear hb;have n8:l6.cell? ⟨a1,0,none⟩=some (.slice b9 a2.length b5):=(blk_cell a0.out 0).trans rfl;have n9:l6.cell? ⟨a1,1,none⟩=some (.slice c5 a3.length b6):=(blk_cell a0.out 1).trans rfl;have o0:=blk_frozen a0.out 0;have o1:=blk_frozen a0.out 1)|(go_at_call 60;(with_reducible refine(spec_StateOk.calls k _ _ a2 _ _ a3 a8 b7 _ ?side1 ?side2 ?side3 ?side4 A5.out).mono ?_);(case side1=> exact zq44);(case side2=>exact(Kd.S_reads' a4.out).2.1);(case side3=> exact zq43);(case side4=>exact(Kd.Q_reads' a5.out).2.1);rintro e x9 ⟨rfl,hb⟩;replace a4:=zqm (Kd.S_below zq35 hb);replace a5:=zqm (Kd.Q_below zq34 hb);replace a0:=zqm (blk_below (g:=a1) (o:= .cells #[.slice b9 a2.length b5,.slice c5 a3.length b6] 30 (0,0)) zq2 hb);replace HB:=zqm (below_step zq17 hb);clear hb)|(go_at_call 18;(with_reducible refine(laws_alive.calls k d6 _ v3.out).mono ?_);rintro e y0 ⟨rfl,hb⟩;replace a4:=zqm (Kd.S_below zq35 hb);replace a5:=zqm (Kd.Q_below zq34 hb);replace a0:=zqm (blk_below (g:=a1) (o:= .cells #[.slice b9 a2.length b5,.slice c5 a3.length b6] 30 (0,0)) zq2 hb);replace HB:=zqm (below_step zq17 hb);clear hb));try go_wp2_with (first|(go_at_call 58;(with_reducible refine(spec_DrawStateOk.calls k _ _ l0 a2 a3 a8 _ ?side1 ?side2 A3.out).mono ?_);(case side1=> exact zq97);(case side2=>exact j4.out);rintro e x8 ⟨f3,f4,rfl,d2,d3,hb⟩;have a4:=zqm (Kd.S_lower d2 (below_size zq0));have a5:=zqm (Kd.Q_lower d3 (below_size zq0));replace HB:=zqm (below_step zq0 hb);clear hb d2 d3)|((with_reducible refine gate_dst (N:=3) rfl ?_);refine box_event ?hg (N:=3) ?hd (cs:= #[.slice none 0 0,.slice none 0 0]) (t:=30) ?hr ?_;(case hd=>rfl);(case hg=>rfl);(case hr=>first|(go_simp;done)|(go_simp;rfl));intro a1 hg l5 hbox hb;replace a4:=zqm (Kd.S_below zq35 hb);replace a5:=zqm (Kd.Q_below zq34 hb);have d4:=zqm (below_step zq0 hb);have a0:=zqm (hbox);have e3:=zqm ((by rw [hg];exact(below_size zq0):w.heap.size≤a1));have a9:=zqm ((by rw [hg];exact(below_size zq0):w.heap.size≤a1));clear HB;have HB:=d4;clear d4 hb hbox hg;obtain⟨b9,b5,m7⟩:=Kd.S_slice a4.out;subst m7;have n4:l5.cell? ⟨a1,0,none⟩=some (.slice none 0 0):=(blk_cell a0.out 0).trans rfl;have n5:l5.cell? ⟨a1,1,none⟩=some (.slice none 0 0):=(blk_cell a0.out 1).trans rfl;have n6:=blk_frozen a0.out 0;have n7:=blk_frozen a0.out 1;obtain⟨c5,b6,m8,_⟩:=Kd.Q_slice a5.out;subst m8)|(go_at_call 59;(with_reducible refine(impl_StateOk.calls _ _ a2 _ _ a3 a8 false _ ?side1 ?side2 ?side3 ?side4 A4.out).mono ?_);(case side1=> exact zq88);(case side2=>exact(Kd.S_reads' a4.out).2.1);(case side3=> exact zq113);(case side4=>exact(Kd.Q_reads' a5.out).2.1);rintro e l6 ⟨rfl,hb⟩;replace a4:=zqm (Kd.S_below zq70 hb);replace a5:=zqm (Kd.Q_below zq67 hb);replace a0:=zqm (blk_below (g:=a1) (o:= .cells #[.slice b9 a2.length b5,.slice c5 a3.length b6] 30 (0,0)) zq94 hb);replace HB:=zqm (below_step zq17 hb);clear hb;have n8:l6.cell? ⟨a1,0,none⟩=some (.slice b9 a2.length b5):=(blk_cell a0.out 0).trans rfl;have n9:l6.cell? ⟨a1,1,none⟩=some (.slice c5 a3.length b6):=(blk_cell a0.out 1).trans rfl;have o0:=blk_frozen a0.out 0;have o1:=blk_frozen a0.out 1)|(go_at_call 60;(with_reducible refine(spec_StateOk.calls k _ _ a2 _ _ a3 a8 b7 _ ?side1 ?side2 ?side3 ?side4 A5.out).mono ?_);(case side1=> exact zq44);(case side2=>exact(Kd.S_reads' a4.out).2.1);(case side3=> exact zq43);(case side4=>exact(Kd.Q_reads' a5.out).2.1);rintro e x9 ⟨rfl,hb⟩;replace a4:=zqm (Kd.S_below zq35 hb);replace a5:=zqm (Kd.Q_below zq34 hb);replace a0:=zqm (blk_below (g:=a1) (o:= .cells #[.slice b9 a2.length b5,.slice c5 a3.length b6] 30 (0,0)) zq2 hb);replace HB:=zqm (below_step zq17 hb);clear hb)|(go_at_call 18;(with_reducible refine(laws_alive.calls k d6 _ v3.out).mono ?_);rintro e y0 ⟨rfl,hb⟩;replace a4:=zqm (Kd.S_below zq35 hb);replace a5:=zqm (Kd.Q_below zq34 hb);replace a0:=zqm (blk_below (g:=a1) (o:= .cells #[.slice b9 a2.length b5,.slice c5 a3.length b6] 30 (0,0)) zq2 hb);replace HB:=zqm (below_step zq17 hb);clear hb)))
    go_ret
    exact⟨zq11,zq17⟩
def laws_FnStateOk.Pure : Prop := ∀ (l0 : List Int), l0.length ≤ maxLen → l0.length * 1 ≤ 140737488351232 → (∀ x ∈ l0, (Lit.int .u8 x).wf = true) → ∃ k, laws_FnStateOk.f k l0 = some true
theorem laws_FnStateOk.walk (P : laws_FnStateOk.Pure) (a0 : Option Addr) (len0 cap0 : Nat) (z0 : List Int) (w : World) (w0 : (a0 = none ∧ len0 = 0 ∧ cap0 = 0 ∧ z0 = []) ∨ ∃ x, a0 = some x ∧ len0 ≤ cap0 ∧ cap0 ≤ maxLen ∧ z0.length = cap0 ∧ (∀ i, i < z0.length → w.cell? (x.add i) = some (.int .u8 (z0.getD i 0))) ∧ ∀ n ∈ z0, (Lit.int .u8 n).wf = true) (y0 : len0 * 1 ≤ 140737488351232) :
  Calls Try.prog 12 #[.slice a0 len0 cap0] w fun e w' => e = .returned (.bool true) ∧ Below w.heap.size w w' := by
 obtain ⟨l0, rfl, hr0, hm0, hw0, hc0⟩ := ReadsInt.ofRowC w0
 obtain ⟨k, h⟩ := P l0 hm0 y0 hw0
 refine (laws_FnStateOk.calls k _ _ l0 true w (Kd.C_of_reads (d := (0 : Int)) (h1 := fun _ => rfl) hr0) hc0 h).mono ?_
 rintro e w' ⟨rfl, hd⟩
 exact ⟨rfl, hd⟩
end Go.Proofs.Ytdoomkcgdcfmlaa.Print
end
section
namespace Go.Proofs.Ytdoomkcgdcfmlaa.Print
open Go.RowKit Go.Proofs.YtdoomkcgdcfmlaaW.PrintWords Go.Proofs.YtdoomkcgdcfmlaaW.PrintLast Go.Proofs.YtdoomkcgdcfmlaaW.PrintMore
open Oml
theorem drawStateOk_ev {l : List Int} (h : Bytes l) : ∃ V M x, Ev (fun k => spec_DrawStateOk.f k l) (V, M, x) := by
  obtain⟨b,hb,hbl,ho⟩:=open_ev h
  obtain⟨V,M,q,hd,q0,q1⟩:=logic_ev hb hbl (p:=0) (by omega) (by omega) 12
  obtain⟨T,hT⟩: ∃T,Ev (fun k=>spec_StatesOf.f k V M) T:=⟨_,spec_StatesOf.ev V M⟩
  have other : ∀ p : Int, 0 ≤ p → p ≤ 1000000 → ∃ x, Ev (fun k => spec_DrawStateOk.j0 k T false b p V M) (V, M, x) := fun p p0 p1 => by
    obtain⟨v1,e1,_,_⟩:=pick_ev hb hbl (p:=p) (by omega) (by omega) 64
    obtain⟨v2,e2,_,_⟩:=pick_ev hb hbl (p:=p+1) (by omega) (by omega) 64
    obtain⟨v3,e3,_,_⟩:=pick_ev hb hbl (p:=p+1+1) (by omega) (by omega) 20
    refine⟨wrap64 ((wrap64 ((wrap64 (v1*64))+v2)) - (wrap64 (Int.tdiv v3 19))),Ev.succ ?_⟩
    simp only [spec_DrawStateOk.j0]
    exact Ev.ite_neg (by simp) (Ev.bind e1 (Ev.bind e2 (Ev.bind e3 (Ev.now _))))
  unfold spec_DrawStateOk.f
  by_cases hT0:(T.length:Int)>0
  · obtain ⟨v, e, _, _⟩ := pick_ev hb hbl (p := q) (by omega) (by omega) 3
    cases hv:decide (v>0) with
    | true =>
      obtain⟨y,ey,y0,y1⟩:=pick_ev hb hbl (p:=q+1) (by omega) (by omega) (T.length:Int)
      have y2:=y1 (by omega)
      refine⟨V,M,rd T y,Ev.pbind ho (Ev.bind hd (Ev.bind hT (Ev.ite_pos hT0 (Ev.bind e ?_))))⟩
      dsimp only
      rw [hv]
      refine Ev.succ ?_
      simp only [spec_DrawStateOk.j0]
      exact Ev.ite_pos (by simp) (Ev.bind ey (Ev.ite_pos y0 (Ev.ite_pos y2 (Ev.now _))))
    | false =>
      obtain⟨x,hx⟩:=other (q+1) (by omega) (by omega)
      refine⟨V,M,x,Ev.pbind ho (Ev.bind hd (Ev.bind hT (Ev.ite_pos hT0 (Ev.bind e ?_))))⟩
      dsimp only
      rw [hv]
      exact hx
  · obtain ⟨x, hx⟩ := other q (by omega) (by omega)
    exact⟨V,M,x,Ev.pbind ho (Ev.bind hd (Ev.bind hT (Ev.ite_neg hT0 hx)))⟩
theorem laws_FnStateOk.ev (l : List Int) (h : Bytes l) : Ev (fun k => laws_FnStateOk.f k l) true := by
  unfold laws_FnStateOk.f
  by_cases hl:(l.length:Int)>1048576
  · exact Ev.ite_pos hl (Ev.now _)
  refine Ev.ite_neg hl ?_
  obtain⟨V,M,x,hd⟩:=drawStateOk_ev h
  refine Ev.bind hd (Ev.pbind rfl (Ev.bind (spec_StateOk.ev V M x) ?_))
  dsimp only
  refine Ev.ite_neg (by simp) ?_
  cases hg:logicB V M with
  |false=>exact Ev.ite_neg (by simp) (Ev.bind alive_ok (Ev.now _))
  |true=>
  have L:=logicB_iff.1 hg
  rw [if_pos rfl]
  cases hs:isSt V M x with
  |false=>exact Ev.ite_neg (by simp) (Ev.bind alive_ok (Ev.now _))
  |true=>
  have hlen:=L.len
  have hsm:=L.small
  obtain⟨s,rfl⟩: ∃s:Nat,x=(s:Int):=⟨x.toNat,by unfold isSt at hs;simp at hs;omega⟩
  have hs2 : s < 2 ^ V.length := by
    unfold isSt at hs
    simp only [Bool.and_eq_true,decide_eq_true_eq] at hs
    omega
  rw [isSt_nat hs2] at hs
  have S:=(stB_iff L s).1 hs
  refine Ev.ite_pos rfl (Ev.bind (spec_KeepsOk.ev V M) ?_)
  rw [if_pos hg]
  refine Ev.loop (g:=fun k (_:Unit) i=>laws_FnStateOk.l0 k (s:Int) (keepB V M) i V M) V.length (fun _ _=>True) (by omega) (fun _ _=>?_) (fun a _ ha _=>⟨(),trivial,fun hnext=>?_⟩) () trivial
  · refine Ev.succ ?_
    simp only [laws_FnStateOk.l0,impl_YesOf.f,hg,if_true,yes_fin L]
    have hb:=S.top
    have ht:=L.ol.top.2
    refine Ev.ite_neg (by omega) (Ev.pbind rfl (Ev.ite_pos (by omega) ?_))
    rw [smod_nat s (by omega)]
    have hb2:s.testBit L.ol.top.1=true:=hb
    rw [hb2]
    exact Ev.now _
  · refine Ev.succ ?_
    simp only [laws_FnStateOk.l0]
    refine Ev.ite_pos (by omega) ?_
    refine Ev.loop (g:=fun k (_:Unit) j=>laws_FnStateOk.l1 k (s:Int) (keepB V M) (a:Int) j V M) V.length (fun _ _=>True) (by omega) (fun _ _=>?_) (fun b _ hb _=>⟨(),trivial,fun hnext2=>?_⟩) () trivial
    · refine Ev.succ ?_
      simp only [laws_FnStateOk.l1]
      exact Ev.ite_neg (by omega) hnext
    · have hrow := L.row a ha
      have hran:=L.ran b hb
      obtain⟨xa,rfl⟩:=fin_of_nat ha
      obtain⟨xb,rfl⟩:=fin_of_nat hb
      have hnb:at1 M xb.1=(((L.ol.neg xb).1:Nat):Int):=by have:=not_fin L xb;unfold notI at this;rw [Int.toNat_natCast] at this;exact this
      have hj2 : Ev (fun k => laws_FnStateOk.j2 k (s : Int) (keepB V M) (xa.1 : Int) (xb.1 : Int) false V M) true := by
        refine Ev.succ ?_
        simp only [laws_FnStateOk.j2,smod_nat s (show xa.1≤64 by omega),smod_nat s (show xb.1≤64 by omega)]
        refine Ev.ite_neg (by simp) (Ev.ite_pos (by omega) ?_)
        cases ea:s.testBit xa.1 with
        |false=>exact Ev.ite_neg (by simp) hnext2
        | true =>
          refine Ev.ite_pos (by simp) (Ev.ite_pos (by omega) ?_)
          cases eb:s.testBit xb.1 with
          |false=>exact Ev.ite_neg (by simp) hnext2
          | true =>
            have hnn:=(L.ol.neg xb).2
            simp only [rdL_nat,rd_nat,rd_row,hnb,hrow]
            refine Ev.ite_pos (by simp) (Ev.ite_pos (by omega) (Ev.ite_pos (by omega) (Ev.ite_pos (by omega) (Ev.ite_pos (by omega) (Ev.ite_neg (fun e=>?_) hnext2)))))
            have hle:=(at2_fin L xa (L.ol.neg xb)).1.1 e
            have h6:=(S.join xa xb hle).2
            have h7:(s.testBit xa.1 && s.testBit xb.1)=false:=h6
            rw [ea,eb] at h7
            exact absurd h7 (by simp)
      refine Ev.succ ?_
      simp only [laws_FnStateOk.l1,smod_nat s (show xa.1≤64 by omega),smod_nat s (show xb.1≤64 by omega),rdL_nat,rd_nat,rd_row,hrow]
      refine Ev.ite_pos (by omega) (Ev.ite_pos (by omega) ?_)
      cases ea:s.testBit xa.1 with
      |false=>exact Ev.ite_neg (by simp) hj2
      | true =>
        refine Ev.ite_pos (by simp) ?_
        cases hk:keepB V M with
        | false =>
          rw [hk] at hj2
          exact Ev.ite_neg (by simp) hj2
        | true =>
          rw [hk] at hj2
          have K:=(keepB_iff L).1 hk
          refine Ev.ite_pos (by simp) (Ev.ite_pos (by omega) (Ev.ite_pos (by omega) (Ev.ite_pos (by omega) ?_)))
          by_cases hle:L.ol.le xa xb
          · have e1 : s.testBit xb.1 = true := S.up K hle ea
            refine Ev.ite_pos ((at2_fin L xa xb).1.2 hle) ?_
            rw [e1]
            exact hj2
          · exact Ev.ite_neg (fun e=>hle ((at2_fin L xa xb).1.1 e)) hj2
end Go.Proofs.Ytdoomkcgdcfmlaa.Print
namespace Go.Proofs.Ytdoomkcgdcfmlaa.Pure
open Go.RowKit Go.Proofs.Ytdoomkcgdcfmlaa.Print Go.Proofs.YtdoomkcgdcfmlaaW.PrintWords Go.Proofs.YtdoomkcgdcfmlaaW.PrintLast Go.Proofs.YtdoomkcgdcfmlaaW.PrintMore
theorem FnStateOk : laws_FnStateOk.Pure := fun l _ _ hw => (laws_FnStateOk.ev l fun x hx => by
  have:=hw x hx
  first|exact Go.RowKit.bounds_u8 this|exact Go.ChangeShapes.bounds_u8 this|exact bounds_u8 this|(simp [Lit.wf,IntKind.wf] at this;omega)|(simp [Lit.wf] at this;omega)).rounds
end Go.Proofs.Ytdoomkcgdcfmlaa.Pure
end
