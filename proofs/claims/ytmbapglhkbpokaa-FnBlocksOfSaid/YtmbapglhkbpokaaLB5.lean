/- Part 5 of what is common to several claims of this seat: BlocksOfL. -/
import Derived.Test.YtmbapglhkbpokaaLB4
import Derived.Below
import Derived.Deep.Draws
import Derived.Deep.AppendLies
import Derived.Maps.AppendAt
import Derived.OwnWalk
import Derived.Laws.BytesArg
import Derived.Laws.MakeOwn
import Derived.Laws.OwnMore
import Derived.Deep.OwnRows
import Derived.Tactics
import Derived.Lib.ConvBytes
import Derived.Laws.Slices
import Derived.WalkKit
import Derived.KernelRfl
import Derived.RowKit3
import Derived.Deep.LoopGhost
import Derived.Deep.QuietTactic
import Derived.BigQuiet
import Derived.WideLaws
import Derived.Deep.DeepCutAuto
import Derived.Deep.CutBlock
import Derived.Deep.RegionHeld3
import Derived.Laws.Rows
import Derived.Lib.AppendStr
import Derived.ArgAppend
import Derived.Laws.IdiomCopy
import Derived.RowKit
import Derived.OrdersHeld
import Derived.Laws.BitsLemmas
import Derived.Test.YtmbapglhkbpokaaProg
set_option linter.all false
section
namespace Go.Proofs.Ytmbapglhkbpokaa.Print
open Go.RowKit Go.Proofs.YtmbapglhkbpokaaW.PrintWords Go.Proofs.YtmbapglhkbpokaaW.PrintLast Go.Proofs.YtmbapglhkbpokaaW.PrintMore
section
attribute [local go_sem] max2_int min2_int max_two min_two max_three min_three max_four min_four
mutual
def spec_BlocksOf.l0 : Nat → List Int → Int → List Int → Int → List (List Int) → List Int → Option (List Int)
 | 0, _, _, _, _, _, _ => none
 | k + 1, x3, x4, x5, x6, x520000, x520001 => if x6 < x4 then (spec_BlocksOf.l1 k x3 x4 x5 x6 0 0 x520000 x520001) else (spec_BlocksOf.l2 k x3 x4 x5 1)
def spec_BlocksOf.l1 : Nat → List Int → Int → List Int → Int → Int → Int → List (List Int) → List Int → Option (List Int)
 | 0, _, _, _, _, _, _, _, _ => none
 | k + 1, x3, x4, x5, x6, x7, x8, x520000, x520001 => if x8 < x4 then ((spec_l6Agree.f k x520000 x520001 x6 x8).bind fun t527 => (if t527 = true then (if 0 ≤ x8 then (spec_BlocksOf.l1 k x3 x4 x5 x6 (Go.bits .or .i64 x7 (shl .i64 1 x8)) (wrap64 (x8 + 1)) x520000 x520001) else (none)) else (spec_BlocksOf.l1 k x3 x4 x5 x6 x7 (wrap64 (x8 + 1)) x520000 x520001))) else (if x5.length < 17592186044416 then (spec_BlocksOf.l0 k x3 x4 (x5 ++ [x7]) (wrap64 (x6 + 1)) x520000 x520001) else (none))
def spec_BlocksOf.l2 : Nat → List Int → Int → List Int → Int → Option (List Int)
 | 0, _, _, _, _ => none
 | k + 1, x3, x4, x5, x9 => if 0 ≤ x4 then (if x9 < (shl .i64 1 x4) then (spec_BlocksOf.l3 k x3 x4 x5 x9 (wrap64 ((shl .i64 1 x4) - 1)) 0) else (some x3)) else (none)
def spec_BlocksOf.l3 : Nat → List Int → Int → List Int → Int → Int → Int → Option (List Int)
 | 0, _, _, _, _, _, _ => none
 | k + 1, x3, x4, x5, x9, x10, x11 => if x11 < x4 then (if 0 ≤ x11 then (if (Int.tmod (shr .i64 x9 x11) 2) = 1 then (if x11 < (x5.length : Int) then (spec_BlocksOf.l3 k x3 x4 x5 x9 (Go.bits .and .i64 x10 (rd x5 x11)) (wrap64 (x11 + 1))) else (none)) else (spec_BlocksOf.l3 k x3 x4 x5 x9 x10 (wrap64 (x11 + 1)))) else (none)) else (if x10 = x9 then (if x3.length < 17592186044416 then (spec_BlocksOf.l2 k (x3 ++ [x9]) x4 x5 (wrap64 (x9 + 1))) else (none)) else (spec_BlocksOf.l2 k x3 x4 x5 (wrap64 (x9 + 1))))
end
def spec_BlocksOf.f (k : Nat) (l0_0 : List (List Int)) (l0_1 : List Int) : Option (List Int) := (some (([] : List Int) : List Int)).bind fun y520 => ((spec_LogicOk.f k l0_0 l0_1).bind fun t523 => (if t523 = true then (spec_BlocksOf.l0 k y520 (l0_1.length : Int) (([] : List Int)) 0 l0_0 l0_1) else (some y520)))
set_option maxHeartbeats 8000000 in
set_option maxRecDepth 100000 in
theorem spec_BlocksOf.calls (k : Nat) (A0_0 : Option Addr) (c0_0 : Nat) (l0_0 : List (List Int)) (A0_1 : Option Addr) (c0_1 : Nat) (l0_1 : List Int) (r : List Int) (w : World) (hr0_0 : Kd.C (Kd.slice 3 (Kd.int .i64)) w A0_0 l0_0.length l0_0) (hc0_0 : l0_0.length ≤ c0_0) (hr0_1 : Kd.C (Kd.int .i64) w A0_1 l0_1.length l0_1) (hc0_1 : l0_1.length ≤ c0_1) (h : spec_BlocksOf.f k l0_0 l0_1 = some r) :
  Calls Try.prog 7 #[.agg #[.slice A0_0 l0_0.length c0_0, .slice A0_1 l0_1.length c0_1]] w fun e w' => ∃ v0_ : Value, e = .returned (v0_) ∧ Kd.R (Kd.int .i64) 3 w' w.heap.size (fun _ => True) v0_ r ∧ Below w.heap.size w w' := by
 have hu26:=Try.underlying26;have d6:=zqm hr0_0;have d4:=zqm hc0_0;clear hr0_0 hc0_0;have d7:=zqm hr0_1;have d5:=zqm hc0_1;clear hr0_1 hc0_1;have HB:=zqm (Below.refl w.heap.size w);have H:((some (([]:List Int):List Int)).bind fun b2=>((spec_LogicOk.f k l0_0 l0_1).bind fun e7=>(if e7=true then(spec_BlocksOf.l0 k b2 (l0_1.length:Int) (([]:List Int)) 0 l0_0 l0_1) else(some b2))))=some r:=h;clear h;obtain⟨b2,g1⟩: ∃y_:List Int,y_=(([]:List Int)):=⟨_,rfl⟩;replace H:((spec_LogicOk.f k l0_0 l0_1).bind fun e7=>(if e7=true then(spec_BlocksOf.l0 k b2 (l0_1.length:Int) (([]:List Int)) 0 l0_0 l0_1) else(some b2)))=some r:=zqy g1 H;have d8:=zqm g1;clear g1;replace H:=Option.bind_eq_some_iff.mp H;obtain⟨e7,j5,H⟩:=H;(try dsimp only at H);have A2:=zqm j5;clear j5
 by_cases c3:e7=true
 ·subst c3;rw [if_pos rfl] at H;obtain⟨h8,g2⟩: ∃y_:List Int,y_=(([]:List Int)):=⟨_,rfl⟩;replace H:(spec_BlocksOf.l0 k b2 (l0_1.length:Int) h8 0 l0_0 l0_1)=some r:=zqy g2 H;have h0:=zqm g2;clear g2;have H':=zqm H;clear H
  go_enter Try.func7,Try.ntmps7
  go_wp2_with (first|((with_reducible refine gate_dst (N:=1) rfl ?_);refine box_event ?hg (N:=1) ?hd (cs:= #[.slice A0_0 l0_0.length c0_0,.slice A0_1 l0_1.length c0_1]) (t:=26) ?hr ?_;(case hd=>rfl);(case hg=>rfl);(case hr=> exact zq15);intro a2 hg w4 hbox hb;have d3:=zqm (below_step zq2 hb);have a0:=zqm (hbox);have i1:=zqm ((by rw [hg];exact(below_size zq2):w.heap.size≤a2));have a1:=zqm ((by rw [hg];exact(below_size zq2):w.heap.size≤a2));clear HB;have HB:=d3;clear d3 hb hbox hg)|((with_reducible refine gate_dst (N:=12) rfl ?_);refine Kd.R_lit (Kd.int .i64) _ 3 ?hg (N:=12) ?hd (xs:=([]:List Int)) (inner:= []) (ok:=fun _=>True) (okp:=fun _=>True) ?hr ?hp (fun _ hk=>hk) trivial (Below.refl _ _) (Nat.le_refl _) (by simp) ?_;(case hd=>rfl);(case hg=>rfl);(case hr=> exact zq15);(case hp=>exact(Reps.none _ _));intro d0 w5 g7 hb hg_ hnew_;clear hg_ hnew_;(first|rw [← d8.out] at g7|(simp only [Int.reduceToNat] at g7;rw [← d8.out] at g7));have a9:=zqm (Kd.R_lower g7 (below_size zq9));replace a0:=zqm (blk_below (g:=a2) (o:= .cells #[.slice A0_0 l0_0.length c0_0,.slice A0_1 l0_1.length c0_1] 26 (0,0)) (zqe a0.out) hb);replace HB:=zqm (below_step zq9 hb);clear hb g7;have c4:w5.cell? ⟨a2,0,none⟩=some (.slice A0_0 l0_0.length c0_0):=(blk_cell a0.out 0).trans rfl;have c5:w5.cell? ⟨a2,1,none⟩=some (.slice A0_1 l0_1.length c0_1):=(blk_cell a0.out 1).trans rfl;have c6:=blk_frozen a0.out 0;have c8:=blk_frozen a0.out 1)|((with_reducible refine gate_callee (f:=21) rfl ?_);refine goesL_ (some 17) rfl rfl Try.func21 zqk rfl #[.agg #[.slice A0_0 l0_0.length c0_0,.slice A0_1 l0_1.length c0_1]] rfl zq5 ?_;(with_reducible refine(spec_LogicOk.calls k _ _ l0_0 _ _ l0_1 true _ ?side1 ?side2 ?side3 ?side4 A2.out).mono ?_);(case side1=> exact zq51);(case side2=>exact d4.out);(case side3=> exact zq52);(case side4=>exact d5.out);rintro e w8 ⟨rfl,hb⟩;refine⟨_,rfl,?_⟩;replace a9:=zqm (Kd.R_below (zqfR a9.out) hb);replace a0:=zqm (blk_below (g:=a2) (o:= .cells #[.slice A0_0 l0_0.length c0_0,.slice A0_1 l0_1.length c0_1] 26 (0,0)) (zqe a0.out) hb);replace HB:=zqm (below_step zq9 hb);clear hb)|((with_reducible refine gate_dst (N:=20) rfl ?_);refine Kd.R_lit (Kd.int .i64) _ 3 ?hg (N:=20) ?hd (xs:=([]:List Int)) (inner:= []) (ok:=fun _=>True) (okp:=fun _=>True) ?hr ?hp (fun _ hk=>hk) trivial (Below.refl _ _) (Nat.le_refl _) (by simp) ?_;(case hd=>rfl);(case hg=>rfl);(case hr=> exact zq15);(case hp=>exact(Reps.none _ _));intro m3 w9 c9 hb hg_ hnew_;clear hg_ hnew_;(first|rw [← h0.out] at c9|(simp only [Int.reduceToNat] at c9;rw [← h0.out] at c9));have d3:=zqm (Kd.R_elder' (zqfR a9.out) (Kd.R_base c9) hb);have i2:=zqm (Kd.R_lower (Kd.R_new' c9 (Kd.R_lt (zqfR a9.out))) (below_size zq9));replace a0:=zqm (blk_below (g:=a2) (o:= .cells #[.slice A0_0 l0_0.length c0_0,.slice A0_1 l0_1.length c0_1] 26 (0,0)) (zqe a0.out) hb);replace HB:=zqm (below_step zq9 hb);clear a9;have a9:=d3;clear d3 hb c9))
  go_loopg [5,6] k (fun kq v5 v6 w'=> ∃(a6:List Int) (b0:Int),v6= .int .i64 b0∧Aside0 (spec_BlocksOf.l0 kq b2 (l0_1.length:Int) a6 b0 l0_0 l0_1=some r)∧Aside0 (kq≤k)∧Aside0 (Kd.R (Kd.int .i64) 3 w' w.heap.size (fun k_=>some k_≠(v5:Value).ownBlock) d0 b2)∧Aside0 (Kd.R (Kd.int .i64) 3 w' w.heap.size (fun k_=>some k_≠(d0:Value).ownBlock) v5 a6)∧Aside0 (w'.heap[a2]? =some (.cells #[(.slice A0_0 l0_0.length c0_0),(.slice A0_1 l0_1.length c0_1)] 26 (0,0)))∧Aside0 (Below w.heap.size w w'))
  case atStart=>exact⟨(h8),(0),zq6,H',⟨Nat.le_refl _⟩,⟨by refine zqfR ?_;exact Kd.R_mono a9.out (fun _ hk=>hk.2)⟩,⟨by refine zqfR ?_;exact Kd.R_mono i2.out (fun _ hk=>hk.2)⟩,⟨zqe a0.out⟩,⟨zq9⟩⟩
  case round=>
   clear H';(try clear c2);(try clear p2);(try clear c3);(try clear c7);(try clear c4);(try clear c5);(try clear c6);(try clear c8);obtain⟨a6,b0,rfl,HA,b4,HO_3,HO_5,a0,HB⟩:=hrel
   cases gk with
   |zero=>exact absurd HA.out (by simp [spec_BlocksOf.l0])
   |succ k1=>
    have H:=HA.out;clear HA;simp only [spec_BlocksOf.l0] at H
    by_cases c0:b0<(l0_1.length:Int)
    ·rw [if_pos c0] at H;have d9:decide (b0<(l0_1.length:Int))=true:=decide_eq_true c0;clear c0;have H':=zqm H;clear H
     go_wp2
     go_loopg [7,8] k1 (fun kq v7 v8 w'=> ∃(b5:Int) (a4:Int),v7= .int .i64 b5∧v8= .int .i64 a4∧Aside0 (spec_BlocksOf.l1 kq b2 (l0_1.length:Int) a6 b0 b5 a4 l0_0 l0_1=some r)∧Aside0 (kq≤k1)∧Aside0 (Kd.R (Kd.int .i64) 3 w' w.heap.size (fun k_=>some k_≠(u5:Value).ownBlock) d0 b2)∧Aside0 (Kd.R (Kd.int .i64) 3 w' w.heap.size (fun k_=>some k_≠(d0:Value).ownBlock) u5 a6)∧Aside0 (w'.heap[a2]? =some (.cells #[(.slice A0_0 l0_0.length c0_0),(.slice A0_1 l0_1.length c0_1)] 26 (0,0)))∧Aside0 (Below w.heap.size w w'))
     case atStart=>exact⟨(0),(0),zq6,zq6,H',⟨Nat.le_refl _⟩,⟨zqfR HO_3.out⟩,⟨zqfR HO_5.out⟩,⟨zqe a0.out⟩,⟨zq9⟩⟩
     case round=>
      clear H';(try clear c1);(try clear c2);(try clear p2);(try clear c3);(try clear c7);(try clear c0);(try clear d9);(try clear c4);(try clear c5);(try clear c6);(try clear c8);(try clear p2);obtain⟨b5,a4,rfl,rfl,HA,b3,HO_3,HO_5,a0,HB⟩:=hrel
      cases gk with
      |zero=>exact absurd HA.out (by simp [spec_BlocksOf.l1])
      |succ k2=>
       have H:=HA.out;clear HA;simp only [spec_BlocksOf.l1] at H
       by_cases d2:a4<(l0_1.length:Int)
       ·rw [if_pos d2] at H;have g0:decide (a4<(l0_1.length:Int))=true:=decide_eq_true d2;clear d2;replace H:=Option.bind_eq_some_iff.mp H;obtain⟨j9,h7,H⟩:=H;(try dsimp only at H);have h6:=zqm h7;clear h7
        by_cases e8:j9=true
        ·subst e8;rw [if_pos rfl] at H
         by_cases e1:0≤a4
         ·rw [if_pos e1] at H;have h1:=eq_true e1;have h2:decide (0≤a4)=true:=decide_eq_true e1;clear e1;obtain⟨b6,b8⟩: ∃j_:Int,(shl .i64 1 a4)=j_:=⟨_,rfl⟩;(replace H:(spec_BlocksOf.l1 k2 b2 (l0_1.length:Int) a6 b0 (Go.bits .or .i64 b5 (b6)) (wrap64 (a4+1)) l0_0 l0_1)=some r:=by first|(rw [b8] at H;exact H)|(simp only [b8] at H ⊢;exact H));(try rw [b8] at h6);have g6:(IntKind.i64.wrap (1*2 ^ min a4.toNat 64))=b6:=b8;have hji16z:a4≤64→(IntKind.i64.wrap (1*2 ^ a4.toNat))=b6:=shl_small b8;(have hji16u:(IntKind.i64.wrap (2 ^ min a4.toNat 64))=b6:=by have h_:=g6;rw [Int.one_mul] at h_;exact h_);(have hji16v:a4≤64→(IntKind.i64.wrap (2 ^ a4.toNat))=b6:=fun hle_=>by have h_:=hji16z hle_;rw [Int.one_mul] at h_;exact h_);have hji16y:(wrap64 (1*2 ^ min a4.toNat 64))=b6:=(i64_w _).symm.trans g6;have hji16x:a4≤64→(wrap64 (1*2 ^ a4.toNat))=b6:=fun h_=>(i64_w _).symm.trans (hji16z h_);have H':=zqm H;clear H;have f2:wr.cell? ⟨a2,0,none⟩=some (.slice A0_0 l0_0.length c0_0):=(blk_cell a0.out 0).trans rfl;have f3:wr.cell? ⟨a2,1,none⟩=some (.slice A0_1 l0_1.length c0_1):=(blk_cell a0.out 1).trans rfl;have f6:=blk_frozen a0.out 0;have f7:=blk_frozen a0.out 1
          go_wp2_with (first|((with_reducible refine gate_callee (f:=22) rfl ?_);refine goesL_ (some 34) rfl rfl Try.func22 zqk rfl #[.agg #[.slice A0_0 l0_0.length c0_0,.slice A0_1 l0_1.length c0_1],.int .i64 b0,.int .i64 a4] rfl zq5 ?_;(with_reducible refine(spec_l6Agree.calls k2 _ _ l0_0 _ _ l0_1 b0 a4 true _ ?side1 ?side2 ?side3 ?side4 h6.out).mono ?_);(case side1=> exact zq51);(case side2=>exact d4.out);(case side3=> exact zq52);(case side4=>exact d5.out);rintro e m8 ⟨rfl,hb⟩;refine⟨_,rfl,?_⟩;replace HO_3:=zqm (Kd.R_below (zqfR HO_3.out) hb);replace HO_5:=zqm (Kd.R_below (zqfR HO_5.out) hb);replace a0:=zqm (blk_below (g:=a2) (o:= .cells #[.slice A0_0 l0_0.length c0_0,.slice A0_1 l0_1.length c0_1] 26 (0,0)) (zqe a0.out) hb);replace HB:=zqm (below_step zq9 hb);clear hb))
          go_roundg k2
          (case measure=> exact zq110);case rel=>exact⟨(Go.bits .or .i64 b5 (b6)),(wrap64 (a4+1)),(by first|rfl|(simp;done)|(simp only [← b8] <;> (first|rfl|simp))|(simp [*];done)),zq6,H',⟨zq110⟩,⟨zqfR HO_3.out⟩,⟨zqfR HO_5.out⟩,⟨zqe a0.out⟩,⟨zq9⟩⟩
         ·rw [if_neg e1] at H;exact absurd H (by simp)
        ·replace e8:=Bool.eq_false_iff.mpr e8;subst e8;rw [if_neg (show¬(false=true) by decide)] at H;have H':=zqm H;clear H;have f4:wr.cell? ⟨a2,0,none⟩=some (.slice A0_0 l0_0.length c0_0):=(blk_cell a0.out 0).trans rfl;have f5:wr.cell? ⟨a2,1,none⟩=some (.slice A0_1 l0_1.length c0_1):=(blk_cell a0.out 1).trans rfl;have f8:=blk_frozen a0.out 0;have f9:=blk_frozen a0.out 1
         go_wp2_with (first|((with_reducible refine gate_callee (f:=22) rfl ?_);refine goesL_ (some 34) rfl rfl Try.func22 zqk rfl #[.agg #[.slice A0_0 l0_0.length c0_0,.slice A0_1 l0_1.length c0_1],.int .i64 b0,.int .i64 a4] rfl zq5 ?_;(with_reducible refine(spec_l6Agree.calls k2 _ _ l0_0 _ _ l0_1 b0 a4 false _ ?side1 ?side2 ?side3 ?side4 h6.out).mono ?_);(case side1=> exact zq51);(case side2=>exact d4.out);(case side3=> exact zq52);(case side4=>exact d5.out);rintro e m9 ⟨rfl,hb⟩;refine⟨_,rfl,?_⟩;replace HO_3:=zqm (Kd.R_below (zqfR HO_3.out) hb);replace HO_5:=zqm (Kd.R_below (zqfR HO_5.out) hb);replace a0:=zqm (blk_below (g:=a2) (o:= .cells #[.slice A0_0 l0_0.length c0_0,.slice A0_1 l0_1.length c0_1] 26 (0,0)) (zqe a0.out) hb);replace HB:=zqm (below_step zq9 hb);clear hb))
         go_roundg k2
         (case measure=> exact zq110);case rel=>exact⟨(b5),(wrap64 (a4+1)),zq6,zq6,H',⟨zq110⟩,⟨zqfR HO_3.out⟩,⟨zqfR HO_5.out⟩,⟨zqe a0.out⟩,⟨zq9⟩⟩
       ·rw [if_neg d2] at H;have g0:decide (a4<(l0_1.length:Int))=false:=decide_eq_false d2;clear d2
        by_cases e9:a6.length<17592186044416
        ·rw [if_pos e9] at H;have LMc21:=zqm e9;clear e9;obtain⟨h9,g3⟩: ∃y_:List Int,y_=(a6 ++ [b5]):=⟨_,rfl⟩;replace H:(spec_BlocksOf.l0 k2 b2 (l0_1.length:Int) h9 (wrap64 (b0+1)) l0_0 l0_1)=some r:=zqy g3 H;have i5:=zqm g3;clear g3;have H':=zqm H;clear H
         go_wp2_with (first|((with_reducible refine gate_builtin (b:= .append) (xs:= #[.tmp 39,.tmp 41]) rfl ?_);at_builtin;refine Kd.R_append (Kd.int .i64) (w0:=w) w.heap.size rfl (.tmp 39) (.tmp 41) 24 3 (.int .i64 0) 8 rfl Try.underlying24 info3 rfl (by decide) (by omega) u5 a6 b5 [.int .i64 b5] (fun k_=>some k_≠(d0:Value).ownBlock) (fun _=>False) rfl rfl ?aP (fun _ hk=>hk.elim) ?aF ?aO ?aB ?aS ?aL ?_;(case aP=>exact rfl);(case aB=> exact zq109);(case aF=>exact(fun k_ hk=>Kd.fresh' (Kd.R_lt (zqfR HO_3.out)) k_ hk));(case aO=>exact(zqfR HO_5.out));(case aS=> exact zq102);(case aL=>have:=LMc21.out;omega);intro m4 n0 ho hb hg hat;rw [← i5.out] at ho;replace HO_3:=zqm (Kd.R_after (ok:=(fun _=>True)) (by refine zqfR ?_;exact Kd.R_mono HO_3.out (fun _ hk=>⟨trivial,hk⟩)) hg hat);replace a0:=zqm (blk_grown (g:=a2) (o:= .cells #[.slice A0_0 l0_0.length c0_0,.slice A0_1 l0_1.length c0_1] 26 (0,0)) (zqe a0.out) hg (Kd.R_ne HO_5.out a0.out (by decide)));replace HB:=zqm (hb);have i3:=zqm (ho);clear HO_5;clear ho hb hg hat))
         go_roundg k2
         (case measure=> exact zq110);case rel=>exact⟨(h9),(wrap64 (b0+1)),zq6,H',⟨zq110⟩,⟨by refine zqfR ?_;exact Kd.R_mono HO_3.out (fun _ hk=>hk.2)⟩,⟨zqfR i3.out⟩,⟨zqe a0.out⟩,⟨zq9⟩⟩
        ·rw [if_neg e9] at H;exact absurd H (by simp)
    ·rw [if_neg c0] at H;have d9:decide (b0<(l0_1.length:Int))=false:=decide_eq_false c0;clear c0;have H':=zqm H;clear H
     go_wp2
     go_loopg [3,9] k1 (fun kq v3 v9 w'=> ∃(b1:List Int) (a5:Int),v9= .int .i64 a5∧Aside0 (spec_BlocksOf.l2 kq b1 (l0_1.length:Int) a6 a5=some r)∧Aside0 (kq≤k1)∧Aside0 (Kd.R (Kd.int .i64) 3 w' w.heap.size (fun k_=>some k_≠(u5:Value).ownBlock) v3 b1)∧Aside0 (Kd.R (Kd.int .i64) 3 w' w.heap.size (fun k_=>some k_≠(v3:Value).ownBlock) u5 a6)∧Aside0 (w'.heap[a2]? =some (.cells #[(.slice A0_0 l0_0.length c0_0),(.slice A0_1 l0_1.length c0_1)] 26 (0,0)))∧Aside0 (Below w.heap.size w w'))
     case atStart=>exact⟨(b2),(1),zq6,H',⟨Nat.le_refl _⟩,⟨zqfR HO_3.out⟩,⟨zqfR HO_5.out⟩,⟨zqe a0.out⟩,⟨zq9⟩⟩
     case round=>
      clear H';(try clear c1);(try clear c2);(try clear p2);(try clear c3);(try clear p6);(try clear c7);(try clear c0);(try clear d9);(try clear d2);(try clear g0);(try clear e8);(try clear e1);(try clear h1);(try clear h2);(try clear e9);(try clear k8);(try clear f2);(try clear f3);(try clear f4);(try clear f5);(try clear c4);(try clear c5);(try clear f6);(try clear f7);(try clear f8);(try clear f9);(try clear c6);(try clear c8);(try clear p2);obtain⟨b1,a5,rfl,HA,b3,HO_3,HO_5,a0,HB⟩:=hrel
      cases gk with
      |zero=>exact absurd HA.out (by simp [spec_BlocksOf.l2])
      |succ k2=>
       have H:=HA.out;clear HA;simp only [spec_BlocksOf.l2] at H
       by_cases f0:0≤(l0_1.length:Int)
       ·rw [if_pos f0] at H;have i7:=eq_true f0;have i8:decide (0≤(l0_1.length:Int))=true:=decide_eq_true f0;clear f0;obtain⟨a7,b9⟩: ∃j_:Int,(shl .i64 1 (l0_1.length:Int))=j_:=⟨_,rfl⟩;(replace H:(if a5<(a7) then(spec_BlocksOf.l3 k2 b1 (l0_1.length:Int) a6 a5 (wrap64 ((a7) - 1)) 0) else(some b1))=some r:=by first|(rw [b9] at H;exact H)|(simp only [b9] at H ⊢;exact H));have e5:(IntKind.i64.wrap (1*2 ^ min (l0_1.length:Int).toNat 64))=a7:=b9;have hji24z:(l0_1.length:Int)≤64→(IntKind.i64.wrap (1*2 ^ (l0_1.length:Int).toNat))=a7:=shl_small b9;have hji24p:(IntKind.i64.wrap (1*2 ^ min l0_1.length 64))=a7:=e5;have hji24q:(l0_1.length:Int)≤64→(IntKind.i64.wrap (1*2 ^ l0_1.length))=a7:=hji24z;(have hji24r:(IntKind.i64.wrap (2 ^ min l0_1.length 64))=a7:=by have h_:=hji24p;rw [Int.one_mul] at h_;exact h_);(have hji24s:(l0_1.length:Int)≤64→(IntKind.i64.wrap (2 ^ l0_1.length))=a7:=fun hle_=>by have h_:=hji24q hle_;rw [Int.one_mul] at h_;exact h_);(have hji24u:(IntKind.i64.wrap (2 ^ min (l0_1.length:Int).toNat 64))=a7:=by have h_:=e5;rw [Int.one_mul] at h_;exact h_);(have hji24v:(l0_1.length:Int)≤64→(IntKind.i64.wrap (2 ^ (l0_1.length:Int).toNat))=a7:=fun hle_=>by have h_:=hji24z hle_;rw [Int.one_mul] at h_;exact h_);have hji24y:(wrap64 (1*2 ^ min (l0_1.length:Int).toNat 64))=a7:=(i64_w _).symm.trans e5;have hji24x:(l0_1.length:Int)≤64→(wrap64 (1*2 ^ (l0_1.length:Int).toNat))=a7:=fun h_=>(i64_w _).symm.trans (hji24z h_)
        by_cases e2:a5<(a7)
        ·rw [if_pos e2] at H;have h3:decide (a5<(a7))=true:=decide_eq_true e2;clear e2;have i9:=eq_true (zqo:0≤(l0_1.length:Int));have H':=zqm H;clear H
         go_wp2
         go_loopg [10,11] k2 (fun kq l4 l5 w'=> ∃(a8:Int) (a3:Int),l4= .int .i64 a8∧l5= .int .i64 a3∧Aside0 (spec_BlocksOf.l3 kq b1 (l0_1.length:Int) a6 a5 a8 a3=some r)∧Aside0 (kq≤k2)∧Aside0 (Kd.R (Kd.int .i64) 3 w' w.heap.size (fun k_=>some k_≠(u5:Value).ownBlock) u3 b1)∧Aside0 (Kd.R (Kd.int .i64) 3 w' w.heap.size (fun k_=>some k_≠(u3:Value).ownBlock) u5 a6)∧Aside0 (w'.heap[a2]? =some (.cells #[(.slice A0_0 l0_0.length c0_0),(.slice A0_1 l0_1.length c0_1)] 26 (0,0)))∧Aside0 (Below w.heap.size w w'))
         case atStart=>exact⟨(wrap64 ((a7) - 1)),(0),(by first|rfl|(simp;done)|(simp only [← b9] <;> (first|rfl|simp))|(simp [*];done)),zq6,H',⟨Nat.le_refl _⟩,⟨zqfR HO_3.out⟩,⟨zqfR HO_5.out⟩,⟨zqe a0.out⟩,⟨zq9⟩⟩
         case round=>
          clear H';(try clear c1);(try clear c2);(try clear p2);(try clear c3);(try clear p6);(try clear c7);(try clear c0);(try clear d9);(try clear d2);(try clear g0);(try clear e8);(try clear e1);(try clear h1);(try clear h2);(try clear e9);(try clear k8);(try clear f0);(try clear i7);(try clear i8);(try clear e2);(try clear h3);(try clear m6);(try clear i9);(try clear m7);(try clear l7);(try clear f2);(try clear f3);(try clear f4);(try clear f5);(try clear c4);(try clear c5);(try clear f6);(try clear f7);(try clear f8);(try clear f9);(try clear c6);(try clear c8);(try clear p2);(try clear p6);obtain⟨a8,a3,rfl,rfl,HA,d1,HO_3,HO_5,a0,HB⟩:=hrel
          cases gk with
          |zero=>exact absurd HA.out (by simp [spec_BlocksOf.l3])
          |succ k3=>
           have H:=HA.out;clear HA;simp only [spec_BlocksOf.l3] at H
           by_cases f1:a3<(l0_1.length:Int)
           ·rw [if_pos f1] at H;have j0:decide (a3<(l0_1.length:Int))=true:=decide_eq_true f1;clear f1
            by_cases g5:0≤a3
            ·rw [if_pos g5] at H;have l8:=eq_true g5;have l9:decide (0≤a3)=true:=decide_eq_true g5;clear g5;obtain⟨b7,e0⟩: ∃j_:Int,(shr .i64 a5 a3)=j_:=⟨_,rfl⟩;(replace H:(if(Int.tmod (b7) 2)=1 then(if a3<(a6.length:Int) then(spec_BlocksOf.l3 k3 b1 (l0_1.length:Int) a6 a5 (Go.bits .and .i64 a8 (rd a6 a3)) (wrap64 (a3+1))) else(none)) else(spec_BlocksOf.l3 k3 b1 (l0_1.length:Int) a6 a5 a8 (wrap64 (a3+1))))=some r:=by first|(rw [e0] at H;exact H)|(simp only [e0] at H ⊢;exact H));have k9:(a5 / 2 ^ min a3.toNat 64)=b7:=e0;have hji30z:a3≤64→(a5 / 2 ^ a3.toNat)=b7:=shr_small e0
             by_cases e3:(Int.tmod (b7) 2)=1
             ·rw [if_pos e3] at H;have j1:((Int.tmod (b7) 2)==1)=true:=beq_iff_eq.mpr e3;have j2:((Int.tmod (b7) 2) !=1)=false:=bne_eq_false_iff_eq.mpr e3;clear e3
              by_cases h4:a3<(a6.length:Int)
              ·rw [if_pos h4] at H;have m0:decide (a3<(a6.length:Int))=true:=decide_eq_true h4;clear h4;have H':=zqm H;clear H;obtain⟨m1,m2,j8⟩:=Kd.R_slice HO_5.out;subst j8;have g8:0≤(a3:Int):=zqo;have g9:a3<(a6.length:Int):=zqo;obtain⟨l6,j7,k7⟩:=Kd.at_int (Kd.R_reads' HO_5.out).2.2 a3 g8 g9
               cases j7
               replace g8:=eq_true g8;replace g9:=eq_true g9
               go_wp2
               go_roundg k3
               (case measure=> exact zq99);case rel=>exact⟨(Go.bits .and .i64 a8 (rd a6 a3)),(wrap64 (a3+1)),zq6,zq6,H',⟨zq99⟩,⟨zqfR HO_3.out⟩,⟨zqfR HO_5.out⟩,⟨zqe a0.out⟩,⟨zq9⟩⟩
              ·rw [if_neg h4] at H;exact absurd H (by simp)
             ·rw [if_neg e3] at H;have j1:((Int.tmod (b7) 2)==1)=false:=beq_eq_false_iff_ne.mpr e3;have j2:((Int.tmod (b7) 2) !=1)=true:=bne_iff_ne.mpr e3;have H':=zqm H;clear H
              go_wp2
              go_roundg k3
              (case measure=> exact zq99);case rel=>exact⟨(a8),(wrap64 (a3+1)),zq6,zq6,H',⟨zq99⟩,⟨zqfR HO_3.out⟩,⟨zqfR HO_5.out⟩,⟨zqe a0.out⟩,⟨zq9⟩⟩
            ·rw [if_neg g5] at H;exact absurd H (by simp)
           ·rw [if_neg f1] at H;have j0:decide (a3<(l0_1.length:Int))=false:=decide_eq_false f1;clear f1
            by_cases e4:a8=a5
            ·rw [if_pos e4] at H;have j3:(a8==a5)=true:=beq_iff_eq.mpr e4;have j4:(a8 !=a5)=false:=bne_eq_false_iff_eq.mpr e4;clear e4
             by_cases h5:b1.length<17592186044416
             ·rw [if_pos h5] at H;have LMc35:=zqm h5;clear h5;obtain⟨i0,g4⟩: ∃y_:List Int,y_=(b1 ++ [a5]):=⟨_,rfl⟩;replace H:(spec_BlocksOf.l2 k3 i0 (l0_1.length:Int) a6 (wrap64 (a5+1)))=some r:=zqy g4 H;have i6:=zqm g4;clear g4;have H':=zqm H;clear H
              go_wp2_with (first|((with_reducible refine gate_builtin (b:= .append) (xs:= #[.tmp 71,.tmp 73]) rfl ?_);at_builtin;refine Kd.R_append (Kd.int .i64) (w0:=w) w.heap.size rfl (.tmp 71) (.tmp 73) 24 3 (.int .i64 0) 8 rfl Try.underlying24 info3 rfl (by decide) (by omega) u3 b1 a5 [.int .i64 a5] (fun k_=>some k_≠(u5:Value).ownBlock) (fun _=>False) rfl rfl ?aP (fun _ hk=>hk.elim) ?aF ?aO ?aB ?aS ?aL ?_;(case aP=>exact rfl);(case aB=> exact zq109);(case aF=>exact(fun k_ hk=>Kd.fresh' (Kd.R_lt (zqfR HO_5.out)) k_ hk));(case aO=>exact(zqfR HO_3.out));(case aS=> exact zq102);(case aL=>have:=LMc35.out;omega);intro m5 n1 ho hb hg hat;rw [← i6.out] at ho;replace HO_5:=zqm (Kd.R_after (ok:=(fun _=>True)) (by refine zqfR ?_;exact Kd.R_mono HO_5.out (fun _ hk=>⟨trivial,hk⟩)) hg hat);replace a0:=zqm (blk_grown (g:=a2) (o:= .cells #[.slice A0_0 l0_0.length c0_0,.slice A0_1 l0_1.length c0_1] 26 (0,0)) (zqe a0.out) hg (Kd.R_ne HO_3.out a0.out (by decide)));replace HB:=zqm (hb);have i4:=zqm (ho);clear HO_3;clear ho hb hg hat))
              go_roundg k3
              (case measure=> exact zq99);case rel=>exact⟨(i0),(wrap64 (a5+1)),zq6,H',⟨zq99⟩,⟨zqfR i4.out⟩,⟨by refine zqfR ?_;exact Kd.R_mono HO_5.out (fun _ hk=>hk.2)⟩,⟨zqe a0.out⟩,⟨zq9⟩⟩
             ·rw [if_neg h5] at H;exact absurd H (by simp)
            ·rw [if_neg e4] at H;have j3:(a8==a5)=false:=beq_eq_false_iff_ne.mpr e4;have j4:(a8 !=a5)=true:=bne_iff_ne.mpr e4;have H':=zqm H;clear H
             go_wp2
             go_roundg k3
             (case measure=> exact zq99);case rel=>exact⟨(b1),(wrap64 (a5+1)),zq6,H',⟨zq99⟩,⟨zqfR HO_3.out⟩,⟨zqfR HO_5.out⟩,⟨zqe a0.out⟩,⟨zq9⟩⟩
        ·rw [if_neg e2] at H;have h3:decide (a5<(a7))=false:=decide_eq_false e2;clear e2;obtain rfl:=Option.some.inj H
         go_wp2
         go_ret
         exact⟨_,by first|rfl|(simp [errW_none,errW_some] <;> rfl)|(simp only [← b9];first|rfl|(simp [errW_none,errW_some] <;> rfl))|(simp [*,errW_none,errW_some] <;> rfl),by refine zqfR ?_;exact Kd.R_mono HO_3.out (fun _ hk=>trivial),zq9⟩
       ·rw [if_neg f0] at H;exact absurd H (by simp)
 ·replace c3:=Bool.eq_false_iff.mpr c3;subst c3;rw [if_neg (show¬(false=true) by decide)] at H;obtain rfl:=Option.some.inj H
  go_enter Try.func7,Try.ntmps7
  go_wp2_with (first|((with_reducible refine gate_dst (N:=1) rfl ?_);refine box_event ?hg (N:=1) ?hd (cs:= #[.slice A0_0 l0_0.length c0_0,.slice A0_1 l0_1.length c0_1]) (t:=26) ?hr ?_;(case hd=>rfl);(case hg=>rfl);(case hr=> exact zq15);intro a2 hg n2 hbox hb;have d3:=zqm (below_step zq2 hb);have a0:=zqm (hbox);have i1:=zqm ((by rw [hg];exact(below_size zq2):w.heap.size≤a2));have a1:=zqm ((by rw [hg];exact(below_size zq2):w.heap.size≤a2));clear HB;have HB:=d3;clear d3 hb hbox hg)|((with_reducible refine gate_dst (N:=12) rfl ?_);refine Kd.R_lit (Kd.int .i64) _ 3 ?hg (N:=12) ?hd (xs:=([]:List Int)) (inner:= []) (ok:=fun _=>True) (okp:=fun _=>True) ?hr ?hp (fun _ hk=>hk) trivial (Below.refl _ _) (Nat.le_refl _) (by simp) ?_;(case hd=>rfl);(case hg=>rfl);(case hr=> exact zq15);(case hp=>exact(Reps.none _ _));intro d0 j6 e6 hb hg_ hnew_;clear hg_ hnew_;(first|rw [← d8.out] at e6|(simp only [Int.reduceToNat] at e6;rw [← d8.out] at e6));have a9:=zqm (Kd.R_lower e6 (below_size zq9));replace a0:=zqm (blk_below (g:=a2) (o:= .cells #[.slice A0_0 l0_0.length c0_0,.slice A0_1 l0_1.length c0_1] 26 (0,0)) (zqe a0.out) hb);replace HB:=zqm (below_step zq9 hb);clear hb e6;have k0:j6.cell? ⟨a2,0,none⟩=some (.slice A0_0 l0_0.length c0_0):=(blk_cell a0.out 0).trans rfl;have k4:j6.cell? ⟨a2,1,none⟩=some (.slice A0_1 l0_1.length c0_1):=(blk_cell a0.out 1).trans rfl;have k5:=blk_frozen a0.out 0;have k6:=blk_frozen a0.out 1)|((with_reducible refine gate_callee (f:=21) rfl ?_);refine goesL_ (some 17) rfl rfl Try.func21 zqk rfl #[.agg #[.slice A0_0 l0_0.length c0_0,.slice A0_1 l0_1.length c0_1]] rfl zq5 ?_;(with_reducible refine(spec_LogicOk.calls k _ _ l0_0 _ _ l0_1 false _ ?side1 ?side2 ?side3 ?side4 A2.out).mono ?_);(case side1=> exact zq51);(case side2=>exact d4.out);(case side3=> exact zq52);(case side4=>exact d5.out);rintro e n3 ⟨rfl,hb⟩;refine⟨_,rfl,?_⟩;replace a9:=zqm (Kd.R_below (zqfR a9.out) hb);replace a0:=zqm (blk_below (g:=a2) (o:= .cells #[.slice A0_0 l0_0.length c0_0,.slice A0_1 l0_1.length c0_1] 26 (0,0)) (zqe a0.out) hb);replace HB:=zqm (below_step zq9 hb);clear hb))
  go_ret
  exact⟨_,zq17,zqfR a9.out,zq9⟩
end
section
attribute [local go_sem] max2_int min2_int max_two min_two max_three min_three max_four min_four
mutual
def impl_OrderOk.j0 : Nat → List (List Int) → Int → Bool → Option (Bool)
 | 0, _, _, _ => none
 | k + 1, x0, x3, x18 => if x18 = true then (some false) else (impl_OrderOk.l0 k x0 x3 x0 (x0.length : Int) 0)
def impl_OrderOk.l0 : Nat → List (List Int) → Int → List (List Int) → Int → Int → Option (Bool)
 | 0, _, _, _, _, _ => none
 | k + 1, x0, x3, x19, x20, x21 => if x21 < x20 then (if 0 ≤ x21 then (if x21 < (x19.length : Int) then (if ((rd_L2 x19 x21).length : Int) = x3 then (if x21 < ((rd_L2 x19 x21).length : Int) then (impl_OrderOk.j2 k x0 x3 x21 (rd_L2 x19 x21) x19 x20 x21 ((rd (rd_L2 x19 x21) x21) != 1)) else (none)) else (impl_OrderOk.j2 k x0 x3 x21 (rd_L2 x19 x21) x19 x20 x21 true)) else (none)) else (none)) else (impl_OrderOk.l2 k x0 x3 x3 0)
def impl_OrderOk.j2 : Nat → List (List Int) → Int → Int → List Int → List (List Int) → Int → Int → Bool → Option (Bool)
 | 0, _, _, _, _, _, _, _, _ => none
 | k + 1, x0, x3, x4, x5, x19, x20, x21, x36 => if x36 = true then (some false) else (impl_OrderOk.l1 k x0 x3 x4 x19 x20 x21 x5 (x5.length : Int) 0)
def impl_OrderOk.l1 : Nat → List (List Int) → Int → Int → List (List Int) → Int → Int → List Int → Int → Int → Option (Bool)
 | 0, _, _, _, _, _, _, _, _, _ => none
 | k + 1, x0, x3, x4, x19, x20, x21, x37, x38, x39 => if x39 < x38 then (if 0 ≤ x39 then (if x39 < (x37.length : Int) then (if (rd x37 x39) = 0 then (impl_OrderOk.j4 k x0 x3 x4 x39 (rd x37 x39) x19 x20 x21 x37 x38 x39 false) else (impl_OrderOk.j4 k x0 x3 x4 x39 (rd x37 x39) x19 x20 x21 x37 x38 x39 ((rd x37 x39) != 1))) else (none)) else (none)) else (impl_OrderOk.l0 k x0 x3 x19 x20 (wrap64 (x21 + 1)))
def impl_OrderOk.j4 : Nat → List (List Int) → Int → Int → Int → Int → List (List Int) → Int → Int → List Int → Int → Int → Bool → Option (Bool)
 | 0, _, _, _, _, _, _, _, _, _, _, _, _ => none
 | k + 1, x0, x3, x4, x6, x7, x19, x20, x21, x37, x38, x39, x49 => if x49 = true then (some false) else (if 0 ≤ x6 then (if x6 < (x0.length : Int) then (if ((rd_L2 x0 x6).length : Int) = x3 then (if x7 = 1 then (if x4 = x6 then (impl_OrderOk.l1 k x0 x3 x4 x19 x20 x21 x37 x38 (wrap64 (x39 + 1))) else (if 0 ≤ x4 then (if x4 < ((rd_L2 x0 x6).length : Int) then (if (rd (rd_L2 x0 x6) x4) = 1 then (some false) else (impl_OrderOk.l1 k x0 x3 x4 x19 x20 x21 x37 x38 (wrap64 (x39 + 1)))) else (none)) else (none))) else (impl_OrderOk.l1 k x0 x3 x4 x19 x20 x21 x37 x38 (wrap64 (x39 + 1)))) else (some false)) else (none)) else (none))
def impl_OrderOk.l2 : Nat → List (List Int) → Int → Int → Int → Option (Bool)
 | 0, _, _, _, _ => none
 | k + 1, x0, x3, x78, x79 => if x79 < x78 then (impl_OrderOk.l3 k x0 x3 x79 x78 x79 x3 0) else (some true)
def impl_OrderOk.l3 : Nat → List (List Int) → Int → Int → Int → Int → Int → Int → Option (Bool)
 | 0, _, _, _, _, _, _, _ => none
 | k + 1, x0, x3, x8, x78, x79, x82, x83 => if x83 < x82 then (impl_OrderOk.l4 k x0 x3 x8 x83 x78 x79 x82 x83 x3 0) else (impl_OrderOk.l2 k x0 x3 x78 (wrap64 (x79 + 1)))
def impl_OrderOk.l4 : Nat → List (List Int) → Int → Int → Int → Int → Int → Int → Int → Int → Int → Option (Bool)
 | 0, _, _, _, _, _, _, _, _, _, _ => none
 | k + 1, x0, x3, x8, x9, x78, x79, x82, x83, x86, x87 => if x87 < x86 then (if 0 ≤ x8 then (if x8 < (x0.length : Int) then (if 0 ≤ x9 then (if x9 < ((rd_L2 x0 x8).length : Int) then (if (rd (rd_L2 x0 x8) x9) = 1 then (if x9 < (x0.length : Int) then (if 0 ≤ x87 then (if x87 < ((rd_L2 x0 x9).length : Int) then (if (rd (rd_L2 x0 x9) x87) = 1 then (if x87 < ((rd_L2 x0 x8).length : Int) then (if (rd (rd_L2 x0 x8) x87) = 1 then (impl_OrderOk.l4 k x0 x3 x8 x9 x78 x79 x82 x83 x86 (wrap64 (x87 + 1))) else (some false)) else (none)) else (impl_OrderOk.l4 k x0 x3 x8 x9 x78 x79 x82 x83 x86 (wrap64 (x87 + 1)))) else (none)) else (none)) else (none)) else (impl_OrderOk.l4 k x0 x3 x8 x9 x78 x79 x82 x83 x86 (wrap64 (x87 + 1)))) else (none)) else (none)) else (none)) else (none)) else (impl_OrderOk.l3 k x0 x3 x8 x78 x79 x82 (wrap64 (x83 + 1)))
end
def impl_OrderOk.f (k : Nat) (l0 : List (List Int)) : Option (Bool) := if (l0.length : Int) < 1 then (impl_OrderOk.j0 k l0 (l0.length : Int) true) else (impl_OrderOk.j0 k l0 (l0.length : Int) (decide ((l0.length : Int) > 12)))
set_option maxHeartbeats 8000000 in
set_option maxRecDepth 100000 in
theorem impl_OrderOk.calls (k : Nat) (A0 : Option Addr) (c0 : Nat) (l0 : List (List Int)) (r : Bool) (w : World) (hr0 : Kd.C (Kd.slice 3 (Kd.int .i64)) w A0 l0.length l0) (hc0 : l0.length ≤ c0) (h : impl_OrderOk.f k l0 = some r) :
  Calls Try.prog 23 #[.slice A0 l0.length c0] w fun e w' => e = .returned (.bool r) ∧ Drawn0 w w' := by
 have c2:=zqm hr0;have w2:=zqm hc0;clear hr0 hc0;have H:(if(l0.length:Int)<1 then(impl_OrderOk.j0 k l0 (l0.length:Int) true) else(impl_OrderOk.j0 k l0 (l0.length:Int) (decide ((l0.length:Int)>12))))=some r:=h;clear h;have p4:=zqm H;clear H
 go_enter Try.func23,Try.ntmps23
 go_upto_region 2 with (fail)
 go_cut [18] (fun t5 wc=> ∃(kq:Nat) (h2:Bool),t5= .bool h2∧Aside0 (impl_OrderOk.j0 kq l0 (l0.length:Int) h2=some r)∧Aside0 (kq≤k)∧Drawn0 w wc)
 case first=>
  have H:=p4.out;clear p4
  by_cases c3:(l0.length:Int)<1
  ·rw [if_pos c3] at H;have i2:decide ((l0.length:Int)<1)=true:=decide_eq_true c3;have s2:decide (l0.length<1)=true:=decide_eq_true (by omega);clear c3;(first|rw [i2]|(simp only [i64_w,i32_w];rw [i2])|skip);have H':=zqm H;clear H
   go_wp2
   go_meet
   case rel=>exact⟨_,(true),zq6,H',⟨zq123⟩,zq8⟩
  ·rw [if_neg c3] at H;have i2:decide ((l0.length:Int)<1)=false:=decide_eq_false c3;have s2:decide (l0.length<1)=false:=decide_eq_false (by omega);clear c3;(first|rw [i2]|(simp only [i64_w,i32_w];rw [i2])|skip);have H':=zqm H;clear H
   go_wp2
   go_meet
   case rel=>exact⟨_,(decide ((l0.length:Int)>12)),zq6,H',⟨zq123⟩,zq8⟩
 case rest=>
  clear p4;obtain⟨kq,h2,rfl,HA,b1,⟨mc1,rfl⟩⟩:=hcut
  cases kq with
  |zero=>exact absurd HA.out (by simp [impl_OrderOk.j0])
  |succ s0=>
   have H:=HA.out;clear HA;simp only [impl_OrderOk.j0] at H
   by_cases c4:h2=true
   ·subst c4;rw [if_pos rfl] at H;obtain rfl:=Option.some.inj H
    go_wp2
    go_ret
    exact⟨zq6,zq8⟩
   ·replace c4:=Bool.eq_false_iff.mpr c4;subst c4;rw [if_neg (show¬(false=true) by decide)] at H;have H':=zqm H;clear H
    go_wp2
    go_loopg [21] s0 (fun kq t6 w'=> ∃(a0:Int),t6= .int .i64 a0∧Aside0 (impl_OrderOk.l0 kq l0 (l0.length:Int) l0 (l0.length:Int) a0=some r)∧Aside0 (kq≤s0)∧Drawn0 w w')
    case atStart=>exact⟨(0),zq6,H',⟨Nat.le_refl _⟩,zq8⟩
    case round=>
     clear H';obtain⟨a0,rfl,HA,b2,⟨m2,rfl⟩⟩:=hrel
     cases gk with
     |zero=>exact absurd HA.out (by simp [impl_OrderOk.l0])
     |succ k2=>
      have H:=HA.out;clear HA;simp only [impl_OrderOk.l0] at H
      by_cases c5:a0<(l0.length:Int)
      ·rw [if_pos c5] at H;have s3:decide (a0<(l0.length:Int))=true:=decide_eq_true c5;clear c5
       by_cases c6:0≤a0
       ·rw [if_pos c6] at H;have w0:decide (0≤a0)=true:=decide_eq_true c6;clear c6
        by_cases c7:a0<(l0.length:Int)
        ·rw [if_pos c7] at H;have w1:decide (a0<(l0.length:Int))=true:=decide_eq_true c7;clear c7;have p5:=zqm H;clear H;have m0:0≤(a0:Int):=zqo;have m7:a0<(l0.length:Int):=zqo;obtain⟨e2,t3,t4,s6,t0,j7,j6⟩:=at_L2 c2.out a0 m0 m7
         cases s6
         have i8:=zqm j6;have s9:=zqm j7;clear j6 j7;replace m0:=eq_true m0;replace m7:=eq_true m7
         go_upto_region 7 with (fail)
         go_cut [36] (fun t7 wc=> ∃(kq:Nat) (h3:Bool),t7= .bool h3∧Aside0 (impl_OrderOk.j2 kq l0 (l0.length:Int) a0 (rd_L2 l0 a0) l0 (l0.length:Int) a0 h3=some r)∧Aside0 (kq≤k2)∧Drawn0 w wc)
         case first=>
          have H:=p5.out;clear p5
          by_cases c9:((rd_L2 l0 a0).length:Int)=(l0.length:Int)
          ·rw [if_pos c9] at H;have i4:(((rd_L2 l0 a0).length:Int)==(l0.length:Int))=true:=beq_iff_eq.mpr c9;have s4:(((rd_L2 l0 a0).length:Int) !=(l0.length:Int))=false:=bne_eq_false_iff_eq.mpr c9;(have s5:((rd_L2 l0 a0).length==l0.length)=true:=by first|simpa using c9|(simp at c9 ⊢;omega));clear c9;(first|rw [i4]|(simp only [i64_w,i32_w];rw [i4])|skip)
           by_cases n1:a0<((rd_L2 l0 a0).length:Int)
           ·rw [if_pos n1] at H;have u5:decide (a0<((rd_L2 l0 a0).length:Int))=true:=decide_eq_true n1;clear n1;have H':=zqm H;clear H;have m1:0≤(a0:Int):=zqo;have m8:a0<((rd_L2 l0 a0).length:Int):=zqo;obtain⟨u3,s7,t1⟩:=Kd.at_int i8.out a0 m1 m8
            cases s7
            replace m1:=eq_true m1;replace m8:=eq_true m8
            go_wp2
            go_meet
            case rel=>exact⟨_,(((rd (rd_L2 l0 a0) a0) !=1)),zq6,H',⟨by have:=b1.out;have:=b2.out;first|omega|exact Nat.le_refl _⟩,zq8⟩
           ·rw [if_neg n1] at H;exact absurd H (by simp)
          ·rw [if_neg c9] at H;have i4:(((rd_L2 l0 a0).length:Int)==(l0.length:Int))=false:=beq_eq_false_iff_ne.mpr c9;have s4:(((rd_L2 l0 a0).length:Int) !=(l0.length:Int))=true:=bne_iff_ne.mpr c9;(have s5:((rd_L2 l0 a0).length==l0.length)=false:=by first|simpa using c9|(simp at c9 ⊢;omega));(first|rw [i4]|(simp only [i64_w,i32_w];rw [i4])|skip);have H':=zqm H;clear H
           go_wp2
           go_meet
           case rel=>exact⟨_,(true),zq6,H',⟨by have:=b1.out;have:=b2.out;first|omega|exact Nat.le_refl _⟩,zq8⟩
         case rest=>
          clear p5;obtain⟨kq,h3,rfl,HA,e7,⟨mc7,rfl⟩⟩:=hcut
          cases kq with
          |zero=>exact absurd HA.out (by simp [impl_OrderOk.j2])
          |succ s1=>
           have H:=HA.out;clear HA;simp only [impl_OrderOk.j2] at H
           by_cases n2:h3=true
           ·subst n2;rw [if_pos rfl] at H;obtain rfl:=Option.some.inj H
            go_wp2
            go_ret
            exact⟨zq6,zq8⟩
           ·replace n2:=Bool.eq_false_iff.mpr n2;subst n2;rw [if_neg (show¬(false=true) by decide)] at H;have H':=zqm H;clear H
            go_wp2
            go_loopg [39] s1 (fun kq t8 w'=> ∃(a1:Int),t8= .int .i64 a1∧Aside0 (impl_OrderOk.l1 kq l0 (l0.length:Int) a0 l0 (l0.length:Int) a0 (rd_L2 l0 a0) ((rd_L2 l0 a0).length:Int) a1=some r)∧Aside0 (kq≤s1)∧Drawn0 w w')
            case atStart=>exact⟨(0),zq6,H',⟨Nat.le_refl _⟩,zq8⟩
            case round=>
             clear H';obtain⟨a1,rfl,HA,b3,⟨m4,rfl⟩⟩:=hrel
             cases gk with
             |zero=>exact absurd HA.out (by simp [impl_OrderOk.l1])
             |succ k4=>
              have H:=HA.out;clear HA;simp only [impl_OrderOk.l1] at H
              by_cases i9:a1<((rd_L2 l0 a0).length:Int)
              ·rw [if_pos i9] at H;have q0:decide (a1<((rd_L2 l0 a0).length:Int))=true:=decide_eq_true i9;clear i9
               by_cases n3:0≤a1
               ·rw [if_pos n3] at H;have u6:decide (0≤a1)=true:=decide_eq_true n3;clear n3
                by_cases n4:a1<((rd_L2 l0 a0).length:Int)
                ·rw [if_pos n4] at H;have u7:decide (a1<((rd_L2 l0 a0).length:Int))=true:=decide_eq_true n4;clear n4;have k9:=zqm H;clear H;have m6:0≤(a1:Int):=zqo;have m9:a1<((rd_L2 l0 a0).length:Int):=zqo;obtain⟨u4,s8,t2⟩:=Kd.at_int i8.out a1 m6 m9
                 cases s8
                 replace m6:=eq_true m6;replace m9:=eq_true m9
                 go_upto_region 12 with (fail)
                 go_cut [49] (fun t9 wc=> ∃(kq:Nat) (g3:Bool),t9= .bool g3∧Aside0 (impl_OrderOk.j4 kq l0 (l0.length:Int) a0 a1 (rd (rd_L2 l0 a0) a1) l0 (l0.length:Int) a0 (rd_L2 l0 a0) ((rd_L2 l0 a0).length:Int) a1 g3=some r)∧Aside0 (kq≤k4)∧Drawn0 w wc)
                 case first=>
                  have H:=k9.out;clear k9
                  by_cases h5:(rd (rd_L2 l0 a0) a1)=0
                  ·rw [if_pos h5] at H;have g1:((rd (rd_L2 l0 a0) a1)==0)=true:=beq_iff_eq.mpr h5;have q1:((rd (rd_L2 l0 a0) a1) !=0)=false:=bne_eq_false_iff_eq.mpr h5;clear h5;(first|rw [g1]|(simp only [i64_w,i32_w];rw [g1])|skip);have H':=zqm H;clear H
                   go_wp2
                   go_meet
                   case rel=>exact⟨_,(false),zq6,H',⟨zq149⟩,zq8⟩
                  ·rw [if_neg h5] at H;have g1:((rd (rd_L2 l0 a0) a1)==0)=false:=beq_eq_false_iff_ne.mpr h5;have q1:((rd (rd_L2 l0 a0) a1) !=0)=true:=bne_iff_ne.mpr h5;(first|rw [g1]|(simp only [i64_w,i32_w];rw [g1])|skip);have H':=zqm H;clear H
                   go_wp2
                   go_meet
                   case rel=>exact⟨_,(((rd (rd_L2 l0 a0) a1) !=1)),zq6,H',⟨zq149⟩,zq8⟩
                 case rest=>
                  clear k9;obtain⟨kq,g3,rfl,HA,g5,⟨mc14,rfl⟩⟩:=hcut
                  cases kq with
                  |zero=>exact absurd HA.out (by simp [impl_OrderOk.j4])
                  |succ l9=>
                   have H:=HA.out;clear HA;simp only [impl_OrderOk.j4] at H
                   by_cases n5:g3=true
                   ·subst n5;rw [if_pos rfl] at H;obtain rfl:=Option.some.inj H
                    go_wp2
                    go_ret
                    exact⟨zq6,zq8⟩
                   ·replace n5:=Bool.eq_false_iff.mpr n5;subst n5;rw [if_neg (show¬(false=true) by decide)] at H
                    by_cases n6:0≤a1
                    ·rw [if_pos n6] at H;have u8:decide (0≤a1)=true:=decide_eq_true n6;clear n6
                     by_cases n7:a1<(l0.length:Int)
                     ·rw [if_pos n7] at H;have u9:decide (a1<(l0.length:Int))=true:=decide_eq_true n7;clear n7
                      by_cases e4:((rd_L2 l0 a1).length:Int)=(l0.length:Int)
                      ·rw [if_pos e4] at H;have q2:(((rd_L2 l0 a1).length:Int)==(l0.length:Int))=true:=beq_iff_eq.mpr e4;have q3:(((rd_L2 l0 a1).length:Int) !=(l0.length:Int))=false:=bne_eq_false_iff_eq.mpr e4;(have q4:((rd_L2 l0 a1).length==l0.length)=true:=by first|simpa using e4|(simp at e4 ⊢;omega));clear e4
                       by_cases h6:(rd (rd_L2 l0 a0) a1)=1
                       ·rw [if_pos h6] at H;have q5:((rd (rd_L2 l0 a0) a1)==1)=true:=beq_iff_eq.mpr h6;have q6:((rd (rd_L2 l0 a0) a1) !=1)=false:=bne_eq_false_iff_eq.mpr h6;clear h6
                        by_cases h7:a0=a1
                        ·rw [if_pos h7] at H;have q7:(a0==a1)=true:=beq_iff_eq.mpr h7;have q8:(a0 !=a1)=false:=bne_eq_false_iff_eq.mpr h7;clear h7;have H':=zqm H;clear H;have a9:0≤(a1:Int):=zqo;have b0:a1<(l0.length:Int):=zqo;obtain⟨c8,f9,g2,e3,d0,a6,a5⟩:=at_L2 c2.out a1 a9 b0;obtain rfl:e2=c8:=(by injection e3);have e6:=zqm a5;have e5:=zqm a6;clear a5 a6;replace a9:=eq_true a9;replace b0:=eq_true b0
                         go_wp2
                         go_roundg l9
                         (case measure=> exact zq83);case rel=>exact⟨(wrap64 (a1+1)),zq6,H',⟨zq83⟩,zq8⟩
                        ·rw [if_neg h7] at H;have q7:(a0==a1)=false:=beq_eq_false_iff_ne.mpr h7;have q8:(a0 !=a1)=true:=bne_iff_ne.mpr h7
                         by_cases n8:0≤a0
                         ·rw [if_pos n8] at H;have v0:decide (0≤a0)=true:=decide_eq_true n8;clear n8
                          by_cases n9:a0<((rd_L2 l0 a1).length:Int)
                          ·rw [if_pos n9] at H;have v1:decide (a0<((rd_L2 l0 a1).length:Int))=true:=decide_eq_true n9;clear n9
                           by_cases h8:(rd (rd_L2 l0 a1) a0)=1
                           ·rw [if_pos h8] at H;have q9:((rd (rd_L2 l0 a1) a0)==1)=true:=beq_iff_eq.mpr h8;have r0:((rd (rd_L2 l0 a1) a0) !=1)=false:=bne_eq_false_iff_eq.mpr h8;clear h8;obtain rfl:=Option.some.inj H;have a9:0≤(a1:Int):=zqo;have b0:a1<(l0.length:Int):=zqo;obtain⟨c8,f9,g2,e3,d0,a6,a5⟩:=at_L2 c2.out a1 a9 b0;obtain rfl:e2=c8:=(by injection e3);have e6:=zqm a5;have e5:=zqm a6;clear a5 a6;replace a9:=eq_true a9;replace b0:=eq_true b0;have f1:0≤(a1:Int):=zqo;have f5:a1<(l0.length:Int):=zqo;obtain⟨k0,p2,p6,l5,g8,d9,d7⟩:=at_L2 c2.out a1 f1 f5;obtain rfl:e2=k0:=(by injection l5);have g6:=zqm d7;have o8:=zqm d9;clear d7 d9;replace f1:=eq_true f1;replace f5:=eq_true f5;have ea_:=Option.some.inj (d0.symm.trans g8);injection ea_ with ea_ en_ ec_;subst ea_;subst ec_;clear en_;have f2:0≤(a0:Int):=zqo;have f6:a0<((rd_L2 l0 a1).length:Int):=zqo;obtain⟨p8,l6,p0⟩:=Kd.at_int g6.out a0 f2 f6
                            cases l6
                            replace f2:=eq_true f2;replace f6:=eq_true f6
                            go_wp2
                            go_ret
                            exact⟨zq6,zq8⟩
                           ·rw [if_neg h8] at H;have q9:((rd (rd_L2 l0 a1) a0)==1)=false:=beq_eq_false_iff_ne.mpr h8;have r0:((rd (rd_L2 l0 a1) a0) !=1)=true:=bne_iff_ne.mpr h8;have H':=zqm H;clear H;have a9:0≤(a1:Int):=zqo;have b0:a1<(l0.length:Int):=zqo;obtain⟨c8,f9,g2,e3,d0,a6,a5⟩:=at_L2 c2.out a1 a9 b0;obtain rfl:e2=c8:=(by injection e3);have e6:=zqm a5;have e5:=zqm a6;clear a5 a6;replace a9:=eq_true a9;replace b0:=eq_true b0;have f1:0≤(a1:Int):=zqo;have f5:a1<(l0.length:Int):=zqo;obtain⟨k0,p2,p6,l5,g8,d9,d7⟩:=at_L2 c2.out a1 f1 f5;obtain rfl:e2=k0:=(by injection l5);have g6:=zqm d7;have o8:=zqm d9;clear d7 d9;replace f1:=eq_true f1;replace f5:=eq_true f5;have ea_:=Option.some.inj (d0.symm.trans g8);injection ea_ with ea_ en_ ec_;subst ea_;subst ec_;clear en_;have f2:0≤(a0:Int):=zqo;have f6:a0<((rd_L2 l0 a1).length:Int):=zqo;obtain⟨p8,l6,p0⟩:=Kd.at_int g6.out a0 f2 f6
                            cases l6
                            replace f2:=eq_true f2;replace f6:=eq_true f6
                            go_wp2
                            go_roundg l9
                            (case measure=> exact zq83);case rel=>exact⟨(wrap64 (a1+1)),zq6,H',⟨zq83⟩,zq8⟩
                          ·rw [if_neg n9] at H;exact absurd H (by simp)
                         ·rw [if_neg n8] at H;exact absurd H (by simp)
                       ·rw [if_neg h6] at H;have q5:((rd (rd_L2 l0 a0) a1)==1)=false:=beq_eq_false_iff_ne.mpr h6;have q6:((rd (rd_L2 l0 a0) a1) !=1)=true:=bne_iff_ne.mpr h6;have H':=zqm H;clear H;have a9:0≤(a1:Int):=zqo;have b0:a1<(l0.length:Int):=zqo;obtain⟨c8,f9,g2,e3,d0,a6,a5⟩:=at_L2 c2.out a1 a9 b0;obtain rfl:e2=c8:=(by injection e3);have e6:=zqm a5;have e5:=zqm a6;clear a5 a6;replace a9:=eq_true a9;replace b0:=eq_true b0
                        go_wp2
                        go_roundg l9
                        (case measure=> exact zq83);case rel=>exact⟨(wrap64 (a1+1)),zq6,H',⟨zq83⟩,zq8⟩
                      ·rw [if_neg e4] at H;have q2:(((rd_L2 l0 a1).length:Int)==(l0.length:Int))=false:=beq_eq_false_iff_ne.mpr e4;have q3:(((rd_L2 l0 a1).length:Int) !=(l0.length:Int))=true:=bne_iff_ne.mpr e4;(have q4:((rd_L2 l0 a1).length==l0.length)=false:=by first|simpa using e4|(simp at e4 ⊢;omega));obtain rfl:=Option.some.inj H;have a9:0≤(a1:Int):=zqo;have b0:a1<(l0.length:Int):=zqo;obtain⟨c8,f9,g2,e3,d0,a6,a5⟩:=at_L2 c2.out a1 a9 b0;obtain rfl:e2=c8:=(by injection e3);have e6:=zqm a5;have e5:=zqm a6;clear a5 a6;replace a9:=eq_true a9;replace b0:=eq_true b0
                       go_wp2
                       go_ret
                       exact⟨zq6,zq8⟩
                     ·rw [if_neg n7] at H;exact absurd H (by simp)
                    ·rw [if_neg n6] at H;exact absurd H (by simp)
                ·rw [if_neg n4] at H;exact absurd H (by simp)
               ·rw [if_neg n3] at H;exact absurd H (by simp)
              ·rw [if_neg i9] at H;have q0:decide (a1<((rd_L2 l0 a0).length:Int))=false:=decide_eq_false i9;clear i9;have H':=zqm H;clear H
               go_wp2
               go_roundg k4
               (case measure=>have:=b1.out;have:=b2.out;have:=e7.out;have:=b3.out;omega);case rel=>exact⟨(wrap64 (a0+1)),zq6,H',⟨by have:=b1.out;have:=b2.out;have:=e7.out;have:=b3.out;omega⟩,zq8⟩
        ·rw [if_neg c7] at H;exact absurd H (by simp)
       ·rw [if_neg c6] at H;exact absurd H (by simp)
      ·rw [if_neg c5] at H;have s3:decide (a0<(l0.length:Int))=false:=decide_eq_false c5;clear c5;have H':=zqm H;clear H
       go_wp2
       go_loopg [79] k2 (fun kq u0 w'=> ∃(a2:Int),u0= .int .i64 a2∧Aside0 (impl_OrderOk.l2 kq l0 (l0.length:Int) (l0.length:Int) a2=some r)∧Aside0 (kq≤k2)∧Drawn0 w w')
       case atStart=>exact⟨(0),zq6,H',⟨Nat.le_refl _⟩,zq8⟩
       case round=>
        clear H';obtain⟨a2,rfl,HA,e8,⟨m3,rfl⟩⟩:=hrel
        cases gk with
        |zero=>exact absurd HA.out (by simp [impl_OrderOk.l2])
        |succ k3=>
         have H:=HA.out;clear HA;simp only [impl_OrderOk.l2] at H
         by_cases j1:a2<(l0.length:Int)
         ·rw [if_pos j1] at H;have r1:decide (a2<(l0.length:Int))=true:=decide_eq_true j1;clear j1;have H':=zqm H;clear H
          go_wp2
          go_loopg [83] k3 (fun kq u1 w'=> ∃(a3:Int),u1= .int .i64 a3∧Aside0 (impl_OrderOk.l3 kq l0 (l0.length:Int) a2 (l0.length:Int) a2 (l0.length:Int) a3=some r)∧Aside0 (kq≤k3)∧Drawn0 w w')
          case atStart=>exact⟨(0),zq6,H',⟨Nat.le_refl _⟩,zq8⟩
          case round=>
           clear H';obtain⟨a3,rfl,HA,b3,⟨m4,rfl⟩⟩:=hrel
           cases gk with
           |zero=>exact absurd HA.out (by simp [impl_OrderOk.l3])
           |succ k4=>
            have H:=HA.out;clear HA;simp only [impl_OrderOk.l3] at H
            by_cases j3:a3<(l0.length:Int)
            ·rw [if_pos j3] at H;have r2:decide (a3<(l0.length:Int))=true:=decide_eq_true j3;clear j3;have H':=zqm H;clear H
             go_wp2
             go_loopg [87] k4 (fun kq u2 w'=> ∃(a4:Int),u2= .int .i64 a4∧Aside0 (impl_OrderOk.l4 kq l0 (l0.length:Int) a2 a3 (l0.length:Int) a2 (l0.length:Int) a3 (l0.length:Int) a4=some r)∧Aside0 (kq≤k4)∧Drawn0 w w')
             case atStart=>exact⟨(0),zq6,H',⟨Nat.le_refl _⟩,zq8⟩
             case round=>
              clear H';obtain⟨a4,rfl,HA,h1,⟨m5,rfl⟩⟩:=hrel
              cases gk with
              |zero=>exact absurd HA.out (by simp [impl_OrderOk.l4])
              |succ k5=>
               have H:=HA.out;clear HA;simp only [impl_OrderOk.l4] at H
               by_cases j5:a4<(l0.length:Int)
               ·rw [if_pos j5] at H;have r3:decide (a4<(l0.length:Int))=true:=decide_eq_true j5;clear j5
                by_cases o0:0≤a2
                ·rw [if_pos o0] at H;have v2:decide (0≤a2)=true:=decide_eq_true o0;clear o0
                 by_cases o1:a2<(l0.length:Int)
                 ·rw [if_pos o1] at H;have v3:decide (a2<(l0.length:Int))=true:=decide_eq_true o1;clear o1
                  by_cases o2:0≤a3
                  ·rw [if_pos o2] at H;have v4:decide (0≤a3)=true:=decide_eq_true o2;clear o2
                   by_cases o3:a3<((rd_L2 l0 a2).length:Int)
                   ·rw [if_pos o3] at H;have v5:decide (a3<((rd_L2 l0 a2).length:Int))=true:=decide_eq_true o3;clear o3
                    by_cases h9:(rd (rd_L2 l0 a2) a3)=1
                    ·rw [if_pos h9] at H;have r4:((rd (rd_L2 l0 a2) a3)==1)=true:=beq_iff_eq.mpr h9;have r5:((rd (rd_L2 l0 a2) a3) !=1)=false:=bne_eq_false_iff_eq.mpr h9;clear h9
                     by_cases o4:a3<(l0.length:Int)
                     ·rw [if_pos o4] at H;have v6:decide (a3<(l0.length:Int))=true:=decide_eq_true o4;clear o4
                      by_cases o5:0≤a4
                      ·rw [if_pos o5] at H;have v7:decide (0≤a4)=true:=decide_eq_true o5;clear o5
                       by_cases o6:a4<((rd_L2 l0 a3).length:Int)
                       ·rw [if_pos o6] at H;have v8:decide (a4<((rd_L2 l0 a3).length:Int))=true:=decide_eq_true o6;clear o6
                        by_cases i0:(rd (rd_L2 l0 a3) a4)=1
                        ·rw [if_pos i0] at H;have r6:((rd (rd_L2 l0 a3) a4)==1)=true:=beq_iff_eq.mpr i0;have r7:((rd (rd_L2 l0 a3) a4) !=1)=false:=bne_eq_false_iff_eq.mpr i0;clear i0
                         by_cases o7:a4<((rd_L2 l0 a2).length:Int)
                         ·rw [if_pos o7] at H;have v9:decide (a4<((rd_L2 l0 a2).length:Int))=true:=decide_eq_true o7;clear o7
                          by_cases i1:(rd (rd_L2 l0 a2) a4)=1
                          ·rw [if_pos i1] at H;have r8:((rd (rd_L2 l0 a2) a4)==1)=true:=beq_iff_eq.mpr i1;have r9:((rd (rd_L2 l0 a2) a4) !=1)=false:=bne_eq_false_iff_eq.mpr i1;clear i1;have H':=zqm H;clear H;have b4:0≤(a2:Int):=zqo;have b6:a2<(l0.length:Int):=zqo;obtain⟨d5,h4,i3,e9,e1,a8,a7⟩:=at_L2 c2.out a2 b4 b6
                           cases e9
                           have c1:=zqm a7;have g4:=zqm a8;clear a7 a8;replace b4:=eq_true b4;replace b6:=eq_true b6;have b5:0≤(a3:Int):=zqo;have b7:a3<((rd_L2 l0 a2).length:Int):=zqo;obtain⟨k1,f0,g9⟩:=Kd.at_int c1.out a3 b5 b7
                           cases f0
                           replace b5:=eq_true b5;replace b7:=eq_true b7;have d1:0≤(a3:Int):=zqo;have d3:a3<(l0.length:Int):=zqo;obtain⟨g0,k7,k8,i5,j8,b9,b8⟩:=at_L2 c2.out a3 d1 d3;obtain rfl:d5=g0:=(by injection i5);have d6:=zqm b8;have i7:=zqm b9;clear b8 b9;replace d1:=eq_true d1;replace d3:=eq_true d3;have d2:0≤(a4:Int):=zqo;have d4:a4<((rd_L2 l0 a3).length:Int):=zqo;obtain⟨n0,i6,j9⟩:=Kd.at_int d6.out a4 d2 d4
                           cases i6
                           replace d2:=eq_true d2;replace d4:=eq_true d4;have f3:0≤(a2:Int):=zqo;have f7:a2<(l0.length:Int):=zqo;obtain⟨k6,p3,p7,l7,h0,e0,d8⟩:=at_L2 c2.out a2 f3 f7;obtain rfl:d5=k6:=(by injection l7);have g7:=zqm d8;have o9:=zqm e0;clear d8 e0;replace f3:=eq_true f3;replace f7:=eq_true f7;have ea_:=Option.some.inj (e1.symm.trans h0);injection ea_ with ea_ en_ ec_;subst ea_;subst ec_;clear en_;have f4:0≤(a4:Int):=zqo;have f8:a4<((rd_L2 l0 a2).length:Int):=zqo;obtain⟨p9,l8,p1⟩:=Kd.at_int g7.out a4 f4 f8
                           cases l8
                           replace f4:=eq_true f4;replace f8:=eq_true f8
                           go_wp2
                           go_roundg k5
                           (case measure=> exact zq59);case rel=>exact⟨(wrap64 (a4+1)),zq6,H',⟨zq59⟩,zq8⟩
                          ·rw [if_neg i1] at H;have r8:((rd (rd_L2 l0 a2) a4)==1)=false:=beq_eq_false_iff_ne.mpr i1;have r9:((rd (rd_L2 l0 a2) a4) !=1)=true:=bne_iff_ne.mpr i1;obtain rfl:=Option.some.inj H;have b4:0≤(a2:Int):=zqo;have b6:a2<(l0.length:Int):=zqo;obtain⟨d5,h4,i3,e9,e1,a8,a7⟩:=at_L2 c2.out a2 b4 b6
                           cases e9
                           have c1:=zqm a7;have g4:=zqm a8;clear a7 a8;replace b4:=eq_true b4;replace b6:=eq_true b6;have b5:0≤(a3:Int):=zqo;have b7:a3<((rd_L2 l0 a2).length:Int):=zqo;obtain⟨k1,f0,g9⟩:=Kd.at_int c1.out a3 b5 b7
                           cases f0
                           replace b5:=eq_true b5;replace b7:=eq_true b7;have d1:0≤(a3:Int):=zqo;have d3:a3<(l0.length:Int):=zqo;obtain⟨g0,k7,k8,i5,j8,b9,b8⟩:=at_L2 c2.out a3 d1 d3;obtain rfl:d5=g0:=(by injection i5);have d6:=zqm b8;have i7:=zqm b9;clear b8 b9;replace d1:=eq_true d1;replace d3:=eq_true d3;have d2:0≤(a4:Int):=zqo;have d4:a4<((rd_L2 l0 a3).length:Int):=zqo;obtain⟨n0,i6,j9⟩:=Kd.at_int d6.out a4 d2 d4
                           cases i6
                           replace d2:=eq_true d2;replace d4:=eq_true d4;have f3:0≤(a2:Int):=zqo;have f7:a2<(l0.length:Int):=zqo;obtain⟨k6,p3,p7,l7,h0,e0,d8⟩:=at_L2 c2.out a2 f3 f7;obtain rfl:d5=k6:=(by injection l7);have g7:=zqm d8;have o9:=zqm e0;clear d8 e0;replace f3:=eq_true f3;replace f7:=eq_true f7;have ea_:=Option.some.inj (e1.symm.trans h0);injection ea_ with ea_ en_ ec_;subst ea_;subst ec_;clear en_;have f4:0≤(a4:Int):=zqo;have f8:a4<((rd_L2 l0 a2).length:Int):=zqo;obtain⟨p9,l8,p1⟩:=Kd.at_int g7.out a4 f4 f8
                           cases l8
                           replace f4:=eq_true f4;replace f8:=eq_true f8
                           go_wp2
                           go_ret
                           exact⟨zq6,zq8⟩
                         ·rw [if_neg o7] at H;exact absurd H (by simp)
                        ·rw [if_neg i0] at H;have r6:((rd (rd_L2 l0 a3) a4)==1)=false:=beq_eq_false_iff_ne.mpr i0;have r7:((rd (rd_L2 l0 a3) a4) !=1)=true:=bne_iff_ne.mpr i0;have H':=zqm H;clear H;have b4:0≤(a2:Int):=zqo;have b6:a2<(l0.length:Int):=zqo;obtain⟨d5,h4,i3,e9,e1,a8,a7⟩:=at_L2 c2.out a2 b4 b6
                         cases e9
                         have c1:=zqm a7;have g4:=zqm a8;clear a7 a8;replace b4:=eq_true b4;replace b6:=eq_true b6;have b5:0≤(a3:Int):=zqo;have b7:a3<((rd_L2 l0 a2).length:Int):=zqo;obtain⟨k1,f0,g9⟩:=Kd.at_int c1.out a3 b5 b7
                         cases f0
                         replace b5:=eq_true b5;replace b7:=eq_true b7;have d1:0≤(a3:Int):=zqo;have d3:a3<(l0.length:Int):=zqo;obtain⟨g0,k7,k8,i5,j8,b9,b8⟩:=at_L2 c2.out a3 d1 d3;obtain rfl:d5=g0:=(by injection i5);have d6:=zqm b8;have i7:=zqm b9;clear b8 b9;replace d1:=eq_true d1;replace d3:=eq_true d3;have d2:0≤(a4:Int):=zqo;have d4:a4<((rd_L2 l0 a3).length:Int):=zqo;obtain⟨n0,i6,j9⟩:=Kd.at_int d6.out a4 d2 d4
                         cases i6
                         replace d2:=eq_true d2;replace d4:=eq_true d4
                         go_wp2
                         go_roundg k5
                         (case measure=> exact zq59);case rel=>exact⟨(wrap64 (a4+1)),zq6,H',⟨zq59⟩,zq8⟩
                       ·rw [if_neg o6] at H;exact absurd H (by simp)
                      ·rw [if_neg o5] at H;exact absurd H (by simp)
                     ·rw [if_neg o4] at H;exact absurd H (by simp)
                    ·rw [if_neg h9] at H;have r4:((rd (rd_L2 l0 a2) a3)==1)=false:=beq_eq_false_iff_ne.mpr h9;have r5:((rd (rd_L2 l0 a2) a3) !=1)=true:=bne_iff_ne.mpr h9;have H':=zqm H;clear H;have b4:0≤(a2:Int):=zqo;have b6:a2<(l0.length:Int):=zqo;obtain⟨d5,h4,i3,e9,e1,a8,a7⟩:=at_L2 c2.out a2 b4 b6
                     cases e9
                     have c1:=zqm a7;have g4:=zqm a8;clear a7 a8;replace b4:=eq_true b4;replace b6:=eq_true b6;have b5:0≤(a3:Int):=zqo;have b7:a3<((rd_L2 l0 a2).length:Int):=zqo;obtain⟨k1,f0,g9⟩:=Kd.at_int c1.out a3 b5 b7
                     cases f0
                     replace b5:=eq_true b5;replace b7:=eq_true b7
                     go_wp2
                     go_roundg k5
                     (case measure=> exact zq59);case rel=>exact⟨(wrap64 (a4+1)),zq6,H',⟨zq59⟩,zq8⟩
                   ·rw [if_neg o3] at H;exact absurd H (by simp)
                  ·rw [if_neg o2] at H;exact absurd H (by simp)
                 ·rw [if_neg o1] at H;exact absurd H (by simp)
                ·rw [if_neg o0] at H;exact absurd H (by simp)
               ·rw [if_neg j5] at H;have r3:decide (a4<(l0.length:Int))=false:=decide_eq_false j5;clear j5;have H':=zqm H;clear H
                go_wp2
                go_roundg k5
                (case measure=> exact zq59);case rel=>exact⟨(wrap64 (a3+1)),zq6,H',⟨zq59⟩,zq8⟩
            ·rw [if_neg j3] at H;have r2:decide (a3<(l0.length:Int))=false:=decide_eq_false j3;clear j3;have H':=zqm H;clear H
             go_wp2
             go_roundg k4
             (case measure=>have:=b1.out;have:=b2.out;have:=e8.out;have:=b3.out;omega);case rel=>exact⟨(wrap64 (a2+1)),zq6,H',⟨by have:=b1.out;have:=b2.out;have:=e8.out;have:=b3.out;omega⟩,zq8⟩
         ·rw [if_neg j1] at H;have r1:decide (a2<(l0.length:Int))=false:=decide_eq_false j1;clear j1;obtain rfl:=Option.some.inj H
          go_wp2
          go_ret
          exact⟨zq6,zq8⟩
end
section
attribute [local go_sem] max2_int min2_int max_two min_two max_three min_three max_four min_four
def laws_alive.f (k : Nat)  : Option (Bool) := (impl_OrderOk.f k (([(([1] : List Int))] : List (List Int)))).bind fun t541 => (if t541 = true then ((impl_OrderOk.f k (([(([0] : List Int))] : List (List Int)))).bind fun t548 => (some (!t548))) else (some false))
set_option maxHeartbeats 8000000 in
set_option maxRecDepth 100000 in
theorem laws_alive.calls (k : Nat)  (r : Bool) (w : World) (h : laws_alive.f k  = some r) :
  Calls Try.prog 9 #[] w fun e w' => e = .returned (.bool r) ∧ Below w.heap.size w w' := by
 have HB:=zqm (Below.refl w.heap.size w);have H:((impl_OrderOk.f k (([(([1]:List Int))]:List (List Int)))).bind fun a5=>(if a5=true then((impl_OrderOk.f k (([(([0]:List Int))]:List (List Int)))).bind fun a2=>(some (!a2))) else(some false)))=some r:=h;clear h;obtain⟨a3,b7⟩: ∃y_:List Int,y_=(([1]:List Int)):=⟨_,rfl⟩;replace H:((impl_OrderOk.f k (([a3]:List (List Int)))).bind fun a5=>(if a5=true then((impl_OrderOk.f k (([(([0]:List Int))]:List (List Int)))).bind fun a2=>(some (!a2))) else(some false)))=some r:=zqy b7 H;have b0:=zqm b7;clear b7;obtain⟨a4,b8⟩: ∃y_:List (List Int),y_=(([a3]:List (List Int))):=⟨_,rfl⟩;replace H:((impl_OrderOk.f k a4).bind fun a5=>(if a5=true then((impl_OrderOk.f k (([(([0]:List Int))]:List (List Int)))).bind fun a2=>(some (!a2))) else(some false)))=some r:=zqy b8 H;have b1:=zqm b8;clear b8;replace H:=Option.bind_eq_some_iff.mp H;obtain⟨a5,d1,H⟩:=H;(try dsimp only at H);have A1:=zqm d1;clear d1
 by_cases c2:a5=true
 ·subst c2;rw [if_pos rfl] at H;obtain⟨a8,b9⟩: ∃y_:List Int,y_=(([0]:List Int)):=⟨_,rfl⟩;replace H:((impl_OrderOk.f k (([a8]:List (List Int)))).bind fun a2=>(some (!a2)))=some r:=zqy b9 H;have c4:=zqm b9;clear b9;obtain⟨d0,c0⟩: ∃y_:List (List Int),y_=(([a8]:List (List Int))):=⟨_,rfl⟩;replace H:((impl_OrderOk.f k d0).bind fun a2=>(some (!a2)))=some r:=zqy c0 H;have c5:=zqm c0;clear c0;replace H:=Option.bind_eq_some_iff.mp H;obtain⟨a2,d2,H⟩:=H;(try dsimp only at H);have A3:=zqm d2;clear d2;obtain rfl:=Option.some.inj H
  go_enter Try.func9,Try.ntmps9
  go_wp2_with (first|((with_reducible refine gate_dst (N:=1) rfl ?_);(try(refine gate_guard (by rfl) ?_;dsimp only));refine Kd.R_lit (Kd.int .i64) _ 3 ?hg (N:=1) ?hd (xs:=([1]:List Int)) (inner:= [.int .i64 1]) (ok:=fun _=>True) (okp:=fun _=>True) ?hr ?hp (fun _ hk=>hk) trivial (Below.refl _ _) (Nat.le_refl _) (by simp) ?_;(case hd=>rfl);(case hg=>rfl);(case hr=> exact zq15);(case hp=> exact zq140);intro e1 w4 c1 hb hg_ hnew_;clear hg_ hnew_;(first|rw [← b0.out] at c1|(simp only [Int.reduceToNat] at c1;rw [← b0.out] at c1));have a1:=zqm (Kd.R_lower c1 (below_size zq2));replace HB:=zqm (below_step zq2 hb);clear hb c1;obtain⟨d3,d4,e3⟩:=Kd.R_slice a1.out;subst e3)|((with_reducible refine gate_dst (N:=2) rfl ?_);(try(refine gate_guard (by rfl) ?_;dsimp only));refine Kd.N_lit (Kd.slice 3 (Kd.int .i64)) _ 24 ?hg (N':=2) ?hd (xs:=([a3]:List (List Int))) (inner:= [.slice d3 a3.length d4]) (ok:=(fun _=>True)) (okp:=(fun _=>True)) ?hr ?hp (fun _ hk=>hk) ((show∀k_,w4.heap.size≤k_→(fun _=>True) k_ from fun k_ hk=>trivial) _ (Nat.le_refl _)) (Below.refl _ _) (Nat.le_refl _) (by simp) ?_;(case hd=>rfl);(case hg=>rfl);(case hr=> exact zq15);(case hp=>exact(Reps.one (show Kd.FK (Kd.slice 3 (Kd.int .i64)) _ _ a3 [.slice d3 a3.length d4] from (Kd.FK_slice_mk (Kd.R_reads' (Kd.R_mono (ok':=(fun _=>True)) (a1.out) (fun k_ hk=>trivial))).2.1 (Kd.R_F (Kd.R_mono (ok':=(fun _=>True)) (a1.out) (fun k_ hk=>trivial))))) (Reps.none _ _)));intro e2 w7 c3 hb hg_ hnew_;clear hg_ hnew_;(first|rw [← b1.out] at c3|(simp only [Int.reduceToNat] at c3;rw [← b1.out] at c3));have a0:=zqm (Kd.N_lower c3 (below_size zq2));replace HB:=zqm (below_step zq2 hb);clear a1;clear hb c3;obtain⟨b4,b5,e4⟩:=Kd.N_slice a0.out;subst e4)|((with_reducible refine gate_callee (f:=23) rfl ?_);refine goesL_ (some 3) rfl rfl Try.func23 zqk rfl #[.slice b4 a4.length b5] rfl zq5 ?_;(with_reducible refine(impl_OrderOk.calls k _ _ a4 true _ ?side1 ?side2 A1.out).mono ?_);(case side1=> exact zq106);(case side2=>exact(Kd.N_reads' a0.out).2.1);rintro e w' ⟨rfl,⟨nd,rfl⟩⟩;refine⟨_,rfl,?_⟩)|((with_reducible refine gate_dst (N:=5) rfl ?_);(try(refine gate_guard (by rfl) ?_;dsimp only));refine Kd.R_lit (Kd.int .i64) _ 3 ?hg (N:=5) ?hd (xs:=([0]:List Int)) (inner:= [.int .i64 0]) (ok:=fun _=>True) (okp:=fun _=>True) ?hr ?hp (fun _ hk=>hk) trivial (Below.refl _ _) (Nat.le_refl _) (by simp) ?_;(case hd=>rfl);(case hg=>rfl);(case hr=> exact zq15);(case hp=>exact(Reps.one (show Kd.M (Kd.int .i64) _ _ _ 0 [.int .i64 0] from rfl) (Reps.none _ _)));intro e9 e5 a6 hb hg_ hnew_;clear hg_ hnew_;(first|rw [← c4.out] at a6|(simp only [Int.reduceToNat] at a6;rw [← c4.out] at a6));replace a0:=zqm (Kd.N_elder' zq117 (Kd.R_base a6) hb);have a9:=zqm (Kd.R_lower a6 (below_size zq2));replace HB:=zqm (below_step zq2 hb);clear hb a6;obtain⟨c6,c8,d7⟩:=Kd.R_slice a9.out;subst d7)|((with_reducible refine gate_dst (N:=6) rfl ?_);(try(refine gate_guard (by rfl) ?_;dsimp only));refine Kd.N_lit (Kd.slice 3 (Kd.int .i64)) _ 24 ?hg (N':=6) ?hd (xs:=([a8]:List (List Int))) (inner:= [.slice c6 a8.length c8]) (ok:=(fun k_=>some k_≠(.slice b4 a4.length b5:Value).ownBlock)) (okp:=(fun k_=>some k_≠(.slice b4 a4.length b5:Value).ownBlock)) ?hr ?hp (fun _ hk=>hk) ((show∀k_,e5.heap.size≤k_→(fun k_=>some k_≠(.slice b4 a4.length b5:Value).ownBlock) k_ from fun k_ hk=>Kd.fresh' (Kd.N_lt zq117) k_ hk) _ (Nat.le_refl _)) (Below.refl _ _) (Nat.le_refl _) (by simp) ?_;(case hd=>rfl);(case hg=>rfl);(case hr=> exact zq15);(case hp=>exact(Reps.one (show Kd.FK (Kd.slice 3 (Kd.int .i64)) _ _ a8 [.slice c6 a8.length c8] from (Kd.FK_slice_mk (Kd.R_reads' (Kd.R_mono (ok':=(fun k_=>some k_≠(.slice b4 a4.length b5:Value).ownBlock)) (Kd.R_apart' (a9.out) (Kd.N_typed a0.out) (by decide)) (fun k_ hk=>hk.2))).2.1 (Kd.R_F (Kd.R_mono (ok':=(fun k_=>some k_≠(.slice b4 a4.length b5:Value).ownBlock)) (Kd.R_apart' (a9.out) (Kd.N_typed a0.out) (by decide)) (fun k_ hk=>hk.2))))) (Reps.none _ _)));intro f0 f1 a7 hb hg_ hnew_;clear hg_ hnew_;(first|rw [← c5.out] at a7|(simp only [Int.reduceToNat] at a7;rw [← c5.out] at a7));replace a0:=zqm (Kd.N_elder' zq117 (Kd.N_base a7) hb);have b6:=zqm (Kd.N_lower a7 (below_size zq2));replace HB:=zqm (below_step zq2 hb);clear a9;clear hb a7;obtain⟨e7,e8,d8⟩:=Kd.N_slice b6.out;subst d8)|(go_at_call 23;(with_reducible refine(impl_OrderOk.calls k _ _ d0 a2 _ ?side1 ?side2 A3.out).mono ?_);(case side1=>repeat(first|exact(Kd.N_reads' b6.out).2.2|(with_reducible refine Kd.C_alloc ?_ _)|(with_reducible refine Kd.C_drewN ?_ _)|(with_reducible refine Kd.C_drew ?_)));(case side2=>exact(Kd.N_reads' b6.out).2.1);rintro e w' ⟨rfl,⟨nd,rfl⟩⟩))
  go_ret
  exact⟨zq17,zq2⟩
 ·replace c2:=Bool.eq_false_iff.mpr c2;subst c2;rw [if_neg (show¬(false=true) by decide)] at H;obtain rfl:=Option.some.inj H
  go_enter Try.func9,Try.ntmps9
  go_wp2_with (first|((with_reducible refine gate_dst (N:=1) rfl ?_);(try(refine gate_guard (by rfl) ?_;dsimp only));refine Kd.R_lit (Kd.int .i64) _ 3 ?hg (N:=1) ?hd (xs:=([1]:List Int)) (inner:= [.int .i64 1]) (ok:=fun _=>True) (okp:=fun _=>True) ?hr ?hp (fun _ hk=>hk) trivial (Below.refl _ _) (Nat.le_refl _) (by simp) ?_;(case hd=>rfl);(case hg=>rfl);(case hr=> exact zq15);(case hp=> exact zq140);intro e1 e6 b2 hb hg_ hnew_;clear hg_ hnew_;(first|rw [← b0.out] at b2|(simp only [Int.reduceToNat] at b2;rw [← b0.out] at b2));have a1:=zqm (Kd.R_lower b2 (below_size zq2));replace HB:=zqm (below_step zq2 hb);clear hb b2;obtain⟨c7,c9,d9⟩:=Kd.R_slice a1.out;subst d9)|((with_reducible refine gate_dst (N:=2) rfl ?_);(try(refine gate_guard (by rfl) ?_;dsimp only));refine Kd.N_lit (Kd.slice 3 (Kd.int .i64)) _ 24 ?hg (N':=2) ?hd (xs:=([a3]:List (List Int))) (inner:= [.slice c7 a3.length c9]) (ok:=(fun _=>True)) (okp:=(fun _=>True)) ?hr ?hp (fun _ hk=>hk) ((show∀k_,e6.heap.size≤k_→(fun _=>True) k_ from fun k_ hk=>trivial) _ (Nat.le_refl _)) (Below.refl _ _) (Nat.le_refl _) (by simp) ?_;(case hd=>rfl);(case hg=>rfl);(case hr=> exact zq15);(case hp=>exact(Reps.one (show Kd.FK (Kd.slice 3 (Kd.int .i64)) _ _ a3 [.slice c7 a3.length c9] from (Kd.FK_slice_mk (Kd.R_reads' (Kd.R_mono (ok':=(fun _=>True)) (a1.out) (fun k_ hk=>trivial))).2.1 (Kd.R_F (Kd.R_mono (ok':=(fun _=>True)) (a1.out) (fun k_ hk=>trivial))))) (Reps.none _ _)));intro e2 f2 b3 hb hg_ hnew_;clear hg_ hnew_;(first|rw [← b1.out] at b3|(simp only [Int.reduceToNat] at b3;rw [← b1.out] at b3));have a0:=zqm (Kd.N_lower b3 (below_size zq2));replace HB:=zqm (below_step zq2 hb);clear a1;clear hb b3;obtain⟨d5,d6,e0⟩:=Kd.N_slice a0.out;subst e0)|((with_reducible refine gate_callee (f:=23) rfl ?_);refine goesL_ (some 3) rfl rfl Try.func23 zqk rfl #[.slice d5 a4.length d6] rfl zq5 ?_;(with_reducible refine(impl_OrderOk.calls k _ _ a4 false _ ?side1 ?side2 A1.out).mono ?_);(case side1=> exact zq106);(case side2=>exact(Kd.N_reads' a0.out).2.1);rintro e w' ⟨rfl,⟨nd,rfl⟩⟩;refine⟨_,rfl,?_⟩))
  go_ret
  exact⟨zq17,zq2⟩
end
section
attribute [local go_sem] max2_int min2_int max_two min_two max_three min_three max_four min_four
mutual
def spec_KeepsOk.l0 : Nat → Int → List (List Int) → List Int → Option (Bool)
 | 0, _, _, _ => none
 | k + 1, x3, x550000, x550001 => if x3 < (x550001.length : Int) then ((spec_LogicOk.f k x550000 x550001).bind fun t550 => (spec_KeepsOk.j1 k x3 t550 x550000 x550001)) else (spec_KeepsOk.j1 k x3 false x550000 x550001)
def spec_KeepsOk.j1 : Nat → Int → Bool → List (List Int) → List Int → Option (Bool)
 | 0, _, _, _, _ => none
 | k + 1, x3, x13, x550000, x550001 => if x13 = true then (spec_KeepsOk.l1 k x3 0 x550000 x550001) else ((spec_LogicOk.f k x550000 x550001).bind fun t551 => (some t551))
def spec_KeepsOk.l1 : Nat → Int → Int → List (List Int) → List Int → Option (Bool)
 | 0, _, _, _, _ => none
 | k + 1, x3, x4, x550000, x550001 => if x4 < (x550001.length : Int) then (if 0 ≤ x3 then (if x3 < (x550000.length : Int) then (if 0 ≤ x4 then (if x4 < ((rd_L2 x550000 x3).length : Int) then (if (rd (rd_L2 x550000 x3) x4) = 1 then (if x3 < (x550001.length : Int) then ((spec_l1Meet.f k x550000 x4 (rd x550001 x3)).bind fun t555 => ((spec_l1Join.f k x550000 x3 t555).bind fun t556 => (if t556 = x4 then (spec_KeepsOk.l1 k x3 (wrap64 (x4 + 1)) x550000 x550001) else (some false)))) else (none)) else (spec_KeepsOk.l1 k x3 (wrap64 (x4 + 1)) x550000 x550001)) else (none)) else (none)) else (none)) else (none)) else (spec_KeepsOk.l0 k (wrap64 (x3 + 1)) x550000 x550001)
end
def spec_KeepsOk.f (k : Nat) (l0_0 : List (List Int)) (l0_1 : List Int) : Option (Bool) := spec_KeepsOk.l0 k 0 l0_0 l0_1
set_option maxHeartbeats 8000000 in
set_option maxRecDepth 100000 in
theorem spec_KeepsOk.calls (k : Nat) (A0_0 : Option Addr) (c0_0 : Nat) (l0_0 : List (List Int)) (A0_1 : Option Addr) (c0_1 : Nat) (l0_1 : List Int) (r : Bool) (w : World) (hr0_0 : Kd.C (Kd.slice 3 (Kd.int .i64)) w A0_0 l0_0.length l0_0) (hc0_0 : l0_0.length ≤ c0_0) (hr0_1 : Kd.C (Kd.int .i64) w A0_1 l0_1.length l0_1) (hc0_1 : l0_1.length ≤ c0_1) (h : spec_KeepsOk.f k l0_0 l0_1 = some r) :
  Calls Try.prog 10 #[.agg #[.slice A0_0 l0_0.length c0_0, .slice A0_1 l0_1.length c0_1]] w fun e w' => e = .returned (.bool r) ∧ Below w.heap.size w w' := by
 have hu26:=Try.underlying26;have a5:=zqm hr0_0;have a6:=zqm hc0_0;clear hr0_0 hc0_0;have b8:=zqm hr0_1;have c0:=zqm hc0_1;clear hr0_1 hc0_1;have HB:=zqm (Below.refl w.heap.size w);have H:(spec_KeepsOk.l0 k 0 l0_0 l0_1)=some r:=h;clear h;have H':=zqm H;clear H
 go_enter Try.func10,Try.ntmps10
 go_wp2_with (first|((with_reducible refine gate_dst (N:=1) rfl ?_);refine box_event ?hg (N:=1) ?hd (cs:= #[.slice A0_0 l0_0.length c0_0,.slice A0_1 l0_1.length c0_1]) (t:=26) ?hr ?_;(case hd=>rfl);(case hg=>rfl);(case hr=> exact zq15);intro a2 hg w2 hbox hb;have c7:=zqm (below_step zq2 hb);have a0:=zqm (hbox);have f4:=zqm ((by rw [hg];exact(below_size zq2):w.heap.size≤a2));have a4:=zqm ((by rw [hg];exact(below_size zq2):w.heap.size≤a2));clear HB;have HB:=c7;clear c7 hb hbox hg))
 repeat(go_quiet (first|((with_reducible refine gate_dst (N:=1) rfl ?_);refine box_event ?hg (N:=1) ?hd (cs:= #[.slice A0_0 l0_0.length c0_0,.slice A0_1 l0_1.length c0_1]) (t:=26) ?hr ?_;(case hd=>rfl);(case hg=>rfl);(case hr=> exact zq15);intro a2 hg w2 hbox hb;have c7:=zqm (below_step zq2 hb);have a0:=zqm (hbox);have f4:=zqm ((by rw [hg];exact(below_size zq2):w.heap.size≤a2));have a4:=zqm ((by rw [hg];exact(below_size zq2):w.heap.size≤a2));clear HB;have HB:=c7;clear c7 hb hbox hg));try go_wp2_with (first|((with_reducible refine gate_dst (N:=1) rfl ?_);refine box_event ?hg (N:=1) ?hd (cs:= #[.slice A0_0 l0_0.length c0_0,.slice A0_1 l0_1.length c0_1]) (t:=26) ?hr ?_;(case hd=>rfl);(case hg=>rfl);(case hr=> exact zq15);intro a2 hg w2 hbox hb;have c7:=zqm (below_step zq2 hb);have a0:=zqm (hbox);have f4:=zqm ((by rw [hg];exact(below_size zq2):w.heap.size≤a2));have a4:=zqm ((by rw [hg];exact(below_size zq2):w.heap.size≤a2));clear HB;have HB:=c7;clear c7 hb hbox hg)))
 go_loopg [3] k (fun kq v3 w'=> ∃(a1:Int),v3= .int .i64 a1∧Aside0 (spec_KeepsOk.l0 kq a1 l0_0 l0_1=some r)∧Aside0 (kq≤k)∧Aside0 (w'.heap[a2]? =some (.cells #[(.slice A0_0 l0_0.length c0_0),(.slice A0_1 l0_1.length c0_1)] 26 (0,0)))∧Aside0 (Below w.heap.size w w'))
 case atStart=>exact⟨(0),zq6,H',⟨Nat.le_refl _⟩,⟨zqe a0.out⟩,⟨zq10⟩⟩
 case round=>
  clear H';(try clear c1);(try clear p2);obtain⟨a1,rfl,HA,c6,a0,HB⟩:=hrel
  cases gk with
  |zero=>exact absurd HA.out (by simp [spec_KeepsOk.l0])
  |succ k1=>
   have H:=HA.out;clear HA;simp only [spec_KeepsOk.l0] at H;have g6:=zqm H;clear H
   go_upto_region 2 with (fail)
   repeat(go_quiet (fail);go_upto_region 2 with (fail))
   go_cut [13] (fun j6 wc=> ∃(kq:Nat) (c8:Bool),j6= .bool c8∧Aside0 (spec_KeepsOk.j1 kq a1 c8 l0_0 l0_1=some r)∧Aside0 (kq≤k1)∧Aside0 (wc.heap[a2]? =some (.cells #[(.slice A0_0 l0_0.length c0_0),(.slice A0_1 l0_1.length c0_1)] 26 (0,0)))∧Aside0 (Below w.heap.size w wc))
   case first=>
    have H:=g6.out;clear g6
    by_cases c4:a1<(l0_1.length:Int)
    ·rw [if_pos c4] at H;have c2:decide (a1<(l0_1.length:Int))=true:=decide_eq_true c4;clear c4;(first|rw [c2]|(simp only [i64_w,i32_w];rw [c2])|skip);replace H:=Option.bind_eq_some_iff.mp H;obtain⟨e0,h3,H⟩:=H;(try dsimp only at H);have A5:=zqm h3;clear h3;have H':=zqm H;clear H;have e3:wr.cell? ⟨a2,0,none⟩=some (.slice A0_0 l0_0.length c0_0):=(blk_cell a0.out 0).trans rfl;have e4:wr.cell? ⟨a2,1,none⟩=some (.slice A0_1 l0_1.length c0_1):=(blk_cell a0.out 1).trans rfl;have e7:=blk_frozen a0.out 0;have e8:=blk_frozen a0.out 1
     go_wp2_with (first|(go_at_call 21;(with_reducible refine(spec_LogicOk.calls k1 _ _ l0_0 _ _ l0_1 e0 _ ?side1 ?side2 ?side3 ?side4 A5.out).mono ?_);(case side1=> exact zq23);(case side2=>exact a6.out);(case side3=> exact zq34);(case side4=>exact c0.out);rintro e w7 ⟨rfl,hb⟩;replace a0:=zqm (blk_below (g:=a2) (o:= .cells #[.slice A0_0 l0_0.length c0_0,.slice A0_1 l0_1.length c0_1] 26 (0,0)) (zqe a0.out) hb);replace HB:=zqm (below_step zq10 hb);clear hb))
     repeat(go_quiet (first|(go_at_call 21;(with_reducible refine(spec_LogicOk.calls k1 _ _ l0_0 _ _ l0_1 e0 _ ?side1 ?side2 ?side3 ?side4 A5.out).mono ?_);(case side1=> exact zq23);(case side2=>exact a6.out);(case side3=> exact zq34);(case side4=>exact c0.out);rintro e w7 ⟨rfl,hb⟩;replace a0:=zqm (blk_below (g:=a2) (o:= .cells #[.slice A0_0 l0_0.length c0_0,.slice A0_1 l0_1.length c0_1] 26 (0,0)) (zqe a0.out) hb);replace HB:=zqm (below_step zq10 hb);clear hb));try go_wp2_with (first|(go_at_call 21;(with_reducible refine(spec_LogicOk.calls k1 _ _ l0_0 _ _ l0_1 e0 _ ?side1 ?side2 ?side3 ?side4 A5.out).mono ?_);(case side1=> exact zq23);(case side2=>exact a6.out);(case side3=> exact zq34);(case side4=>exact c0.out);rintro e w7 ⟨rfl,hb⟩;replace a0:=zqm (blk_below (g:=a2) (o:= .cells #[.slice A0_0 l0_0.length c0_0,.slice A0_1 l0_1.length c0_1] 26 (0,0)) (zqe a0.out) hb);replace HB:=zqm (below_step zq10 hb);clear hb)))
     go_meet
     case rel=>exact⟨_,(e0),zq6,H',⟨by have:=c6.out;first|omega|exact Nat.le_refl _⟩,⟨zqe a0.out⟩,⟨zq10⟩⟩
    ·rw [if_neg c4] at H;have c2:decide (a1<(l0_1.length:Int))=false:=decide_eq_false c4;clear c4;(first|rw [c2]|(simp only [i64_w,i32_w];rw [c2])|skip);have H':=zqm H;clear H;have e5:wr.cell? ⟨a2,0,none⟩=some (.slice A0_0 l0_0.length c0_0):=(blk_cell a0.out 0).trans rfl;have e6:wr.cell? ⟨a2,1,none⟩=some (.slice A0_1 l0_1.length c0_1):=(blk_cell a0.out 1).trans rfl;have e9:=blk_frozen a0.out 0;have f0:=blk_frozen a0.out 1
     go_wp2
     repeat(go_quiet (fail);try go_wp2)
     go_meet
     case rel=>exact⟨_,(false),zq6,H',⟨by have:=c6.out;first|omega|exact Nat.le_refl _⟩,⟨zqe a0.out⟩,⟨zq10⟩⟩
   case rest=>
    clear g6;(try clear c1);(try clear p2);(try clear c4);(try clear c2);(try clear e3);(try clear e4);(try clear e5);(try clear e6);(try clear e7);(try clear e8);(try clear e9);(try clear f0);(try clear p2);obtain⟨kq,c8,rfl,HA,d7,a0,HB⟩:=hcut
    cases kq with
    |zero=>exact absurd HA.out (by simp [spec_KeepsOk.j1])
    |succ f1=>
     have H:=HA.out;clear HA;simp only [spec_KeepsOk.j1] at H
     by_cases c9:c8=true
     ·subst c9;rw [if_pos rfl] at H;have H':=zqm H;clear H
      go_wp2
      repeat(go_quiet (fail);try go_wp2)
      go_loopg [4] f1 (fun kq v4 w'=> ∃(a3:Int),v4= .int .i64 a3∧Aside0 (spec_KeepsOk.l1 kq a1 a3 l0_0 l0_1=some r)∧Aside0 (kq≤f1)∧Aside0 (w'.heap[a2]? =some (.cells #[(.slice A0_0 l0_0.length c0_0),(.slice A0_1 l0_1.length c0_1)] 26 (0,0)))∧Aside0 (Below w.heap.size w w'))
      case atStart=>exact⟨(0),zq6,H',⟨Nat.le_refl _⟩,⟨zqe a0.out⟩,⟨zq10⟩⟩
      case round=>
       clear H';(try clear c1);(try clear p2);(try clear c4);(try clear c2);(try clear c9);(try clear e3);(try clear e4);(try clear e5);(try clear e6);(try clear e7);(try clear e8);(try clear e9);(try clear f0);(try clear p2);obtain⟨a3,rfl,HA,d8,a0,HB⟩:=hrel
       cases gk with
       |zero=>exact absurd HA.out (by simp [spec_KeepsOk.l1])
       |succ k3=>
        have H:=HA.out;clear HA;simp only [spec_KeepsOk.l1] at H
        by_cases d9:a3<(l0_1.length:Int)
        ·rw [if_pos d9] at H;have g8:decide (a3<(l0_1.length:Int))=true:=decide_eq_true d9;clear d9
         by_cases f7:0≤a1
         ·rw [if_pos f7] at H;have j7:decide (0≤a1)=true:=decide_eq_true f7;clear f7
          by_cases f8:a1<(l0_0.length:Int)
          ·rw [if_pos f8] at H;have j8:decide (a1<(l0_0.length:Int))=true:=decide_eq_true f8;clear f8
           by_cases f9:0≤a3
           ·rw [if_pos f9] at H;have j9:decide (0≤a3)=true:=decide_eq_true f9;clear f9
            by_cases g0:a3<((rd_L2 l0_0 a1).length:Int)
            ·rw [if_pos g0] at H;have k0:decide (a3<((rd_L2 l0_0 a1).length:Int))=true:=decide_eq_true g0;clear g0
             by_cases d0:(rd (rd_L2 l0_0 a1) a3)=1
             ·rw [if_pos d0] at H;have g9:((rd (rd_L2 l0_0 a1) a3)==1)=true:=beq_iff_eq.mpr d0;have h0:((rd (rd_L2 l0_0 a1) a3) !=1)=false:=bne_eq_false_iff_eq.mpr d0;clear d0
              by_cases g1:a1<(l0_1.length:Int)
              ·rw [if_pos g1] at H;have k2:decide (a1<(l0_1.length:Int))=true:=decide_eq_true g1;clear g1;replace H:=Option.bind_eq_some_iff.mp H;obtain⟨b2,g2,H⟩:=H;(try dsimp only at H);have d4:=zqm g2;clear g2;replace H:=Option.bind_eq_some_iff.mp H;obtain⟨b7,g3,H⟩:=H;(try dsimp only at H);have d5:=zqm g3;clear g3
               by_cases d1:b7=a3
               ·rw [if_pos d1] at H;have h1:(b7==a3)=true:=beq_iff_eq.mpr d1;have h2:(b7 !=a3)=false:=bne_eq_false_iff_eq.mpr d1;clear d1;have H':=zqm H;clear H;have h5:wr.cell? ⟨a2,0,none⟩=some (.slice A0_0 l0_0.length c0_0):=(blk_cell a0.out 0).trans rfl;have h6:wr.cell? ⟨a2,1,none⟩=some (.slice A0_1 l0_1.length c0_1):=(blk_cell a0.out 1).trans rfl;have i5:=blk_frozen a0.out 0;have i6:=blk_frozen a0.out 1;have b3:0≤(a1:Int):=zqo;have b5:a1<(l0_0.length:Int):=zqo;obtain⟨f5,e1,e2,d2,a7,b0,a9⟩:=at_L2 a5.out a1 b3 b5
                cases d2
                replace a7:=(HB.out.cell (World.block_lt_of_cell? w _ a7)).trans a7;have b9:=zqm a9;have d6:=zqm b0;clear a9 b0;replace b3:=eq_true b3;replace b5:=eq_true b5;have b4:0≤(a3:Int):=zqo;have b6:a3<((rd_L2 l0_0 a1).length:Int):=zqo;obtain⟨f6,d3,a8⟩:=Kd.at_int b9.out a3 b4 b6
                cases d3
                replace a8:=(HB.out.cell (World.block_lt_of_cell? w _ a8)).trans a8;replace b4:=eq_true b4;replace b6:=eq_true b6;have c3:0≤(a1:Int):=zqo;have c5:a1<(l0_1.length:Int):=zqo;obtain⟨g7,f2,b1⟩:=Kd.at_int b8.out a1 c3 c5
                cases f2
                replace b1:=(HB.out.cell (World.block_lt_of_cell? w _ b1)).trans b1;replace c3:=eq_true c3;replace c5:=eq_true c5
                go_wp2_with (first|(go_at_call 25;(with_reducible refine(spec_l1Meet.calls k3 _ _ l0_0 a3 (rd l0_1 a1) b2 _ ?side1 ?side2 d4.out).mono ?_);(case side1=> exact zq23);(case side2=>exact a6.out);rintro e w' ⟨rfl,⟨nd,rfl⟩⟩;(try first|exact⟨rfl,_,World.drewN_drewN _ _ _⟩|exact⟨rfl,_,Eq.trans (World.drewN_drewN _ _ _) (congrArg (World.drewN _) (Nat.add_assoc _ _ _))⟩))|(go_at_call 24;(with_reducible refine(spec_l1Join.calls k3 _ _ l0_0 a1 b2 b7 _ ?side1 ?side2 d5.out).mono ?_);(case side1=> exact zq24);(case side2=>exact a6.out);rintro e w' ⟨rfl,⟨nd,rfl⟩⟩;(try first|exact⟨rfl,_,World.drewN_drewN _ _ _⟩|exact⟨rfl,_,Eq.trans (World.drewN_drewN _ _ _) (congrArg (World.drewN _) (Nat.add_assoc _ _ _))⟩)))
                repeat(go_quiet (first|(go_at_call 25;(with_reducible refine(spec_l1Meet.calls k3 _ _ l0_0 a3 (rd l0_1 a1) b2 _ ?side1 ?side2 d4.out).mono ?_);(case side1=> exact zq23);(case side2=>exact a6.out);rintro e w' ⟨rfl,⟨nd,rfl⟩⟩;(try first|exact⟨rfl,_,World.drewN_drewN _ _ _⟩|exact⟨rfl,_,Eq.trans (World.drewN_drewN _ _ _) (congrArg (World.drewN _) (Nat.add_assoc _ _ _))⟩))|(go_at_call 24;(with_reducible refine(spec_l1Join.calls k3 _ _ l0_0 a1 b2 b7 _ ?side1 ?side2 d5.out).mono ?_);(case side1=> exact zq24);(case side2=>exact a6.out);rintro e w' ⟨rfl,⟨nd,rfl⟩⟩;(try first|exact⟨rfl,_,World.drewN_drewN _ _ _⟩|exact⟨rfl,_,Eq.trans (World.drewN_drewN _ _ _) (congrArg (World.drewN _) (Nat.add_assoc _ _ _))⟩)));try go_wp2_with (first|(go_at_call 25;(with_reducible refine(spec_l1Meet.calls k3 _ _ l0_0 a3 (rd l0_1 a1) b2 _ ?side1 ?side2 d4.out).mono ?_);(case side1=> exact zq23);(case side2=>exact a6.out);rintro e w' ⟨rfl,⟨nd,rfl⟩⟩;(try first|exact⟨rfl,_,World.drewN_drewN _ _ _⟩|exact⟨rfl,_,Eq.trans (World.drewN_drewN _ _ _) (congrArg (World.drewN _) (Nat.add_assoc _ _ _))⟩))|(go_at_call 24;(with_reducible refine(spec_l1Join.calls k3 _ _ l0_0 a1 b2 b7 _ ?side1 ?side2 d5.out).mono ?_);(case side1=> exact zq24);(case side2=>exact a6.out);rintro e w' ⟨rfl,⟨nd,rfl⟩⟩;(try first|exact⟨rfl,_,World.drewN_drewN _ _ _⟩|exact⟨rfl,_,Eq.trans (World.drewN_drewN _ _ _) (congrArg (World.drewN _) (Nat.add_assoc _ _ _))⟩))))
                go_roundg k3
                (case measure=> exact zq121);case rel=>exact⟨(wrap64 (a3+1)),zq6,H',⟨zq121⟩,⟨zqe a0.out⟩,⟨zq10⟩⟩
               ·rw [if_neg d1] at H;have h1:(b7==a3)=false:=beq_eq_false_iff_ne.mpr d1;have h2:(b7 !=a3)=true:=bne_iff_ne.mpr d1;obtain rfl:=Option.some.inj H;have h7:wr.cell? ⟨a2,0,none⟩=some (.slice A0_0 l0_0.length c0_0):=(blk_cell a0.out 0).trans rfl;have h8:wr.cell? ⟨a2,1,none⟩=some (.slice A0_1 l0_1.length c0_1):=(blk_cell a0.out 1).trans rfl;have i7:=blk_frozen a0.out 0;have i8:=blk_frozen a0.out 1;have b3:0≤(a1:Int):=zqo;have b5:a1<(l0_0.length:Int):=zqo;obtain⟨f5,e1,e2,d2,a7,b0,a9⟩:=at_L2 a5.out a1 b3 b5
                cases d2
                replace a7:=(HB.out.cell (World.block_lt_of_cell? w _ a7)).trans a7;have b9:=zqm a9;have d6:=zqm b0;clear a9 b0;replace b3:=eq_true b3;replace b5:=eq_true b5;have b4:0≤(a3:Int):=zqo;have b6:a3<((rd_L2 l0_0 a1).length:Int):=zqo;obtain⟨f6,d3,a8⟩:=Kd.at_int b9.out a3 b4 b6
                cases d3
                replace a8:=(HB.out.cell (World.block_lt_of_cell? w _ a8)).trans a8;replace b4:=eq_true b4;replace b6:=eq_true b6;have c3:0≤(a1:Int):=zqo;have c5:a1<(l0_1.length:Int):=zqo;obtain⟨g7,f2,b1⟩:=Kd.at_int b8.out a1 c3 c5
                cases f2
                replace b1:=(HB.out.cell (World.block_lt_of_cell? w _ b1)).trans b1;replace c3:=eq_true c3;replace c5:=eq_true c5
                go_wp2_with (first|(go_at_call 25;(with_reducible refine(spec_l1Meet.calls k3 _ _ l0_0 a3 (rd l0_1 a1) b2 _ ?side1 ?side2 d4.out).mono ?_);(case side1=> exact zq23);(case side2=>exact a6.out);rintro e w' ⟨rfl,⟨nd,rfl⟩⟩;(try first|exact⟨rfl,_,World.drewN_drewN _ _ _⟩|exact⟨rfl,_,Eq.trans (World.drewN_drewN _ _ _) (congrArg (World.drewN _) (Nat.add_assoc _ _ _))⟩))|(go_at_call 24;(with_reducible refine(spec_l1Join.calls k3 _ _ l0_0 a1 b2 b7 _ ?side1 ?side2 d5.out).mono ?_);(case side1=> exact zq24);(case side2=>exact a6.out);rintro e w' ⟨rfl,⟨nd,rfl⟩⟩;(try first|exact⟨rfl,_,World.drewN_drewN _ _ _⟩|exact⟨rfl,_,Eq.trans (World.drewN_drewN _ _ _) (congrArg (World.drewN _) (Nat.add_assoc _ _ _))⟩)))
                repeat(go_quiet (first|(go_at_call 25;(with_reducible refine(spec_l1Meet.calls k3 _ _ l0_0 a3 (rd l0_1 a1) b2 _ ?side1 ?side2 d4.out).mono ?_);(case side1=> exact zq23);(case side2=>exact a6.out);rintro e w' ⟨rfl,⟨nd,rfl⟩⟩;(try first|exact⟨rfl,_,World.drewN_drewN _ _ _⟩|exact⟨rfl,_,Eq.trans (World.drewN_drewN _ _ _) (congrArg (World.drewN _) (Nat.add_assoc _ _ _))⟩))|(go_at_call 24;(with_reducible refine(spec_l1Join.calls k3 _ _ l0_0 a1 b2 b7 _ ?side1 ?side2 d5.out).mono ?_);(case side1=> exact zq24);(case side2=>exact a6.out);rintro e w' ⟨rfl,⟨nd,rfl⟩⟩;(try first|exact⟨rfl,_,World.drewN_drewN _ _ _⟩|exact⟨rfl,_,Eq.trans (World.drewN_drewN _ _ _) (congrArg (World.drewN _) (Nat.add_assoc _ _ _))⟩)));try go_wp2_with (first|(go_at_call 25;(with_reducible refine(spec_l1Meet.calls k3 _ _ l0_0 a3 (rd l0_1 a1) b2 _ ?side1 ?side2 d4.out).mono ?_);(case side1=> exact zq23);(case side2=>exact a6.out);rintro e w' ⟨rfl,⟨nd,rfl⟩⟩;(try first|exact⟨rfl,_,World.drewN_drewN _ _ _⟩|exact⟨rfl,_,Eq.trans (World.drewN_drewN _ _ _) (congrArg (World.drewN _) (Nat.add_assoc _ _ _))⟩))|(go_at_call 24;(with_reducible refine(spec_l1Join.calls k3 _ _ l0_0 a1 b2 b7 _ ?side1 ?side2 d5.out).mono ?_);(case side1=> exact zq24);(case side2=>exact a6.out);rintro e w' ⟨rfl,⟨nd,rfl⟩⟩;(try first|exact⟨rfl,_,World.drewN_drewN _ _ _⟩|exact⟨rfl,_,Eq.trans (World.drewN_drewN _ _ _) (congrArg (World.drewN _) (Nat.add_assoc _ _ _))⟩))))
                go_ret
                exact⟨zq17,zq10⟩
              ·rw [if_neg g1] at H;exact absurd H (by simp)
             ·rw [if_neg d0] at H;have g9:((rd (rd_L2 l0_0 a1) a3)==1)=false:=beq_eq_false_iff_ne.mpr d0;have h0:((rd (rd_L2 l0_0 a1) a3) !=1)=true:=bne_iff_ne.mpr d0;have H':=zqm H;clear H;have h9:wr.cell? ⟨a2,0,none⟩=some (.slice A0_0 l0_0.length c0_0):=(blk_cell a0.out 0).trans rfl;have i0:wr.cell? ⟨a2,1,none⟩=some (.slice A0_1 l0_1.length c0_1):=(blk_cell a0.out 1).trans rfl;have i9:=blk_frozen a0.out 0;have j0:=blk_frozen a0.out 1;have b3:0≤(a1:Int):=zqo;have b5:a1<(l0_0.length:Int):=zqo;obtain⟨f5,e1,e2,d2,a7,b0,a9⟩:=at_L2 a5.out a1 b3 b5
              cases d2
              replace a7:=(HB.out.cell (World.block_lt_of_cell? w _ a7)).trans a7;have b9:=zqm a9;have d6:=zqm b0;clear a9 b0;replace b3:=eq_true b3;replace b5:=eq_true b5;have b4:0≤(a3:Int):=zqo;have b6:a3<((rd_L2 l0_0 a1).length:Int):=zqo;obtain⟨f6,d3,a8⟩:=Kd.at_int b9.out a3 b4 b6
              cases d3
              replace a8:=(HB.out.cell (World.block_lt_of_cell? w _ a8)).trans a8;replace b4:=eq_true b4;replace b6:=eq_true b6
              go_wp2
              repeat(go_quiet (fail);try go_wp2)
              go_roundg k3
              (case measure=> exact zq121);case rel=>exact⟨(wrap64 (a3+1)),zq6,H',⟨zq121⟩,⟨zqe a0.out⟩,⟨zq10⟩⟩
            ·rw [if_neg g0] at H;exact absurd H (by simp)
           ·rw [if_neg f9] at H;exact absurd H (by simp)
          ·rw [if_neg f8] at H;exact absurd H (by simp)
         ·rw [if_neg f7] at H;exact absurd H (by simp)
        ·rw [if_neg d9] at H;have g8:decide (a3<(l0_1.length:Int))=false:=decide_eq_false d9;clear d9;have H':=zqm H;clear H;have i1:wr.cell? ⟨a2,0,none⟩=some (.slice A0_0 l0_0.length c0_0):=(blk_cell a0.out 0).trans rfl;have i2:wr.cell? ⟨a2,1,none⟩=some (.slice A0_1 l0_1.length c0_1):=(blk_cell a0.out 1).trans rfl;have j2:=blk_frozen a0.out 0;have j3:=blk_frozen a0.out 1
         go_wp2
         repeat(go_quiet (fail);try go_wp2)
         go_roundg k3
         (case measure=> exact zq121);case rel=>exact⟨(wrap64 (a1+1)),zq6,H',⟨zq121⟩,⟨zqe a0.out⟩,⟨zq10⟩⟩
     ·replace c9:=Bool.eq_false_iff.mpr c9;subst c9;rw [if_neg (show¬(false=true) by decide)] at H;replace H:=Option.bind_eq_some_iff.mp H;obtain⟨f3,g5,H⟩:=H;(try dsimp only at H);have g4:=zqm g5;clear g5;obtain rfl:=Option.some.inj H;have i3:wc.cell? ⟨a2,0,none⟩=some (.slice A0_0 l0_0.length c0_0):=(blk_cell a0.out 0).trans rfl;have i4:wc.cell? ⟨a2,1,none⟩=some (.slice A0_1 l0_1.length c0_1):=(blk_cell a0.out 1).trans rfl;have j4:=blk_frozen a0.out 0;have j5:=blk_frozen a0.out 1
      go_wp2_with (first|(go_at_call 21;(with_reducible refine(spec_LogicOk.calls f1 _ _ l0_0 _ _ l0_1 f3 _ ?side1 ?side2 ?side3 ?side4 g4.out).mono ?_);(case side1=> exact zq23);(case side2=>exact a6.out);(case side3=> exact zq34);(case side4=>exact c0.out);rintro e h4 ⟨rfl,hb⟩;replace a0:=zqm (blk_below (g:=a2) (o:= .cells #[.slice A0_0 l0_0.length c0_0,.slice A0_1 l0_1.length c0_1] 26 (0,0)) (zqe a0.out) hb);replace HB:=zqm (below_step zq10 hb);clear hb))
      repeat(go_quiet (first|(go_at_call 21;(with_reducible refine(spec_LogicOk.calls f1 _ _ l0_0 _ _ l0_1 f3 _ ?side1 ?side2 ?side3 ?side4 g4.out).mono ?_);(case side1=> exact zq23);(case side2=>exact a6.out);(case side3=> exact zq34);(case side4=>exact c0.out);rintro e h4 ⟨rfl,hb⟩;replace a0:=zqm (blk_below (g:=a2) (o:= .cells #[.slice A0_0 l0_0.length c0_0,.slice A0_1 l0_1.length c0_1] 26 (0,0)) (zqe a0.out) hb);replace HB:=zqm (below_step zq10 hb);clear hb));try go_wp2_with (first|(go_at_call 21;(with_reducible refine(spec_LogicOk.calls f1 _ _ l0_0 _ _ l0_1 f3 _ ?side1 ?side2 ?side3 ?side4 g4.out).mono ?_);(case side1=> exact zq23);(case side2=>exact a6.out);(case side3=> exact zq34);(case side4=>exact c0.out);rintro e h4 ⟨rfl,hb⟩;replace a0:=zqm (blk_below (g:=a2) (o:= .cells #[.slice A0_0 l0_0.length c0_0,.slice A0_1 l0_1.length c0_1] 26 (0,0)) (zqe a0.out) hb);replace HB:=zqm (below_step zq10 hb);clear hb)))
      go_ret
      exact⟨zq17,zq10⟩
end
section
attribute [local go_sem] max2_int min2_int max_two min_two max_three min_three max_four min_four
mutual
def spec_CentreOf.l0 : Nat → List Int → Int → List (List Int) → List Int → Option (List Int)
 | 0, _, _, _, _ => none
 | k + 1, x3, x4, x558000, x558001 => if x4 < (x558001.length : Int) then ((spec_LogicOk.f k x558000 x558001).bind fun t561 => (spec_CentreOf.j1 k x3 x4 t561 x558000 x558001)) else (spec_CentreOf.j1 k x3 x4 false x558000 x558001)
def spec_CentreOf.j1 : Nat → List Int → Int → Bool → List (List Int) → List Int → Option (List Int)
 | 0, _, _, _, _, _ => none
 | k + 1, x3, x4, x16, x558000, x558001 => if x16 = true then (spec_CentreOf.l1 k x3 x4 true 0 x558000 x558001) else (some x3)
def spec_CentreOf.l1 : Nat → List Int → Int → Bool → Int → List (List Int) → List Int → Option (List Int)
 | 0, _, _, _, _, _, _ => none
 | k + 1, x3, x4, x5, x6, x558000, x558001 => if x6 < (x558001.length : Int) then (if x5 = true then ((spec_l5With.f k x558000 x558001 x4 x6).bind fun t562 => (if t562 = true then ((spec_l5With.f k x558000 x558001 x6 x4).bind fun t563 => (spec_CentreOf.l1 k x3 x4 t563 (wrap64 (x6 + 1)) x558000 x558001)) else (spec_CentreOf.l1 k x3 x4 false (wrap64 (x6 + 1)) x558000 x558001))) else (spec_CentreOf.l1 k x3 x4 false (wrap64 (x6 + 1)) x558000 x558001)) else (if x5 = true then (if x3.length < 17592186044416 then (spec_CentreOf.l0 k (x3 ++ [x4]) (wrap64 (x4 + 1)) x558000 x558001) else (none)) else (spec_CentreOf.l0 k x3 (wrap64 (x4 + 1)) x558000 x558001))
end
def spec_CentreOf.f (k : Nat) (l0_0 : List (List Int)) (l0_1 : List Int) : Option (List Int) := spec_CentreOf.l0 k (([] : List Int)) 0 l0_0 l0_1
set_option maxHeartbeats 8000000 in
set_option maxRecDepth 100000 in
theorem spec_CentreOf.calls (k : Nat) (A0_0 : Option Addr) (c0_0 : Nat) (l0_0 : List (List Int)) (A0_1 : Option Addr) (c0_1 : Nat) (l0_1 : List Int) (r : List Int) (w : World) (hr0_0 : Kd.C (Kd.slice 3 (Kd.int .i64)) w A0_0 l0_0.length l0_0) (hc0_0 : l0_0.length ≤ c0_0) (hr0_1 : Kd.C (Kd.int .i64) w A0_1 l0_1.length l0_1) (hc0_1 : l0_1.length ≤ c0_1) (h : spec_CentreOf.f k l0_0 l0_1 = some r) :
  Calls Try.prog 14 #[.agg #[.slice A0_0 l0_0.length c0_0, .slice A0_1 l0_1.length c0_1]] w fun e w' => ∃ v0_ : Value, e = .returned (v0_) ∧ Kd.R (Kd.int .i64) 3 w' w.heap.size (fun _ => True) v0_ r ∧ Below w.heap.size w w' := by
 have hu26:=Try.underlying26;have b2:=zqm hr0_0;have b0:=zqm hc0_0;clear hr0_0 hc0_0;have b3:=zqm hr0_1;have b1:=zqm hc0_1;clear hr0_1 hc0_1;have HB:=zqm (Below.refl w.heap.size w);have H:(spec_CentreOf.l0 k (([]:List Int)) 0 l0_0 l0_1)=some r:=h;clear h;obtain⟨e1,c2⟩: ∃y_:List Int,y_=(([]:List Int)):=⟨_,rfl⟩;replace H:(spec_CentreOf.l0 k e1 0 l0_0 l0_1)=some r:=zqy c2 H;have d1:=zqm c2;clear c2;have H':=zqm H;clear H
 go_enter Try.func14,Try.ntmps14
 go_wp2_with (first|((with_reducible refine gate_dst (N:=1) rfl ?_);refine box_event ?hg (N:=1) ?hd (cs:= #[.slice A0_0 l0_0.length c0_0,.slice A0_1 l0_1.length c0_1]) (t:=26) ?hr ?_;(case hd=>rfl);(case hg=>rfl);(case hr=> exact zq15);intro a1 hg w2 hbox hb;have f0:=zqm (below_step zq2 hb);have a0:=zqm (hbox);have h9:=zqm ((by rw [hg];exact(below_size zq2):w.heap.size≤a1));have a2:=zqm ((by rw [hg];exact(below_size zq2):w.heap.size≤a1));clear HB;have HB:=f0;clear f0 hb hbox hg)|((with_reducible refine gate_dst (N:=7) rfl ?_);refine Kd.R_lit (Kd.int .i64) _ 3 ?hg (N:=7) ?hd (xs:=([]:List Int)) (inner:= []) (ok:=fun _=>True) (okp:=fun _=>True) ?hr ?hp (fun _ hk=>hk) trivial (Below.refl _ _) (Nat.le_refl _) (by simp) ?_;(case hd=>rfl);(case hg=>rfl);(case hr=> exact zq15);(case hp=>exact(Reps.none _ _));intro i0 w3 d0 hb hg_ hnew_;clear hg_ hnew_;(first|rw [← d1.out] at d0|(simp only [Int.reduceToNat] at d0;rw [← d1.out] at d0));have e3:=zqm (Kd.R_lower d0 (below_size zq18));replace a0:=zqm (blk_below (g:=a1) (o:= .cells #[.slice A0_0 l0_0.length c0_0,.slice A0_1 l0_1.length c0_1] 26 (0,0)) (zqe a0.out) hb);replace HB:=zqm (below_step zq18 hb);clear hb d0))
 go_loopg [3,4] k (fun kq v3 v4 w'=> ∃(a5:List Int) (a3:Int),v4= .int .i64 a3∧Aside0 (spec_CentreOf.l0 kq a5 a3 l0_0 l0_1=some r)∧Aside0 (kq≤k)∧Aside0 (Kd.R (Kd.int .i64) 3 w' w.heap.size (fun _=>True) v3 a5)∧Aside0 (w'.heap[a1]? =some (.cells #[(.slice A0_0 l0_0.length c0_0),(.slice A0_1 l0_1.length c0_1)] 26 (0,0)))∧Aside0 (Below w.heap.size w w'))
 case atStart=>exact⟨(e1),(0),zq6,H',⟨Nat.le_refl _⟩,⟨zqfR e3.out⟩,⟨zqe a0.out⟩,⟨zq18⟩⟩
 case round=>
  clear H';(try clear c1);(try clear p2);obtain⟨a5,a3,rfl,HA,a6,HO_3,a0,HB⟩:=hrel
  cases gk with
  |zero=>exact absurd HA.out (by simp [spec_CentreOf.l0])
  |succ k1=>
   have H:=HA.out;clear HA;simp only [spec_CentreOf.l0] at H;have d8:=zqm H;clear H
   go_upto_region 3 with (fail)
   go_cut [16] (fun h8 wc=> ∃(kq:Nat) (b4:Bool),h8= .bool b4∧Aside0 (spec_CentreOf.j1 kq a5 a3 b4 l0_0 l0_1=some r)∧Aside0 (kq≤k1)∧Aside0 (Kd.R (Kd.int .i64) 3 wc w.heap.size (fun _=>True) u3 a5)∧Aside0 (wc.heap[a1]? =some (.cells #[(.slice A0_0 l0_0.length c0_0),(.slice A0_1 l0_1.length c0_1)] 26 (0,0)))∧Aside0 (Below w.heap.size w wc))
   case first=>
    have H:=d8.out;clear d8
    by_cases c6:a3<(l0_1.length:Int)
    ·rw [if_pos c6] at H;have a9:decide (a3<(l0_1.length:Int))=true:=decide_eq_true c6;clear c6;(first|rw [a9]|(simp only [i64_w,i32_w];rw [a9])|skip);replace H:=Option.bind_eq_some_iff.mp H;obtain⟨d9,e8,H⟩:=H;(try dsimp only at H);have A7:=zqm e8;clear e8;have H':=zqm H;clear H;have c5:wr.cell? ⟨a1,0,none⟩=some (.slice A0_0 l0_0.length c0_0):=(blk_cell a0.out 0).trans rfl;have c7:wr.cell? ⟨a1,1,none⟩=some (.slice A0_1 l0_1.length c0_1):=(blk_cell a0.out 1).trans rfl;have c8:=blk_frozen a0.out 0;have c9:=blk_frozen a0.out 1
     go_wp2_with (first|(go_at_call 21;(with_reducible refine(spec_LogicOk.calls k1 _ _ l0_0 _ _ l0_1 d9 _ ?side1 ?side2 ?side3 ?side4 A7.out).mono ?_);(case side1=> exact zq49);(case side2=>exact b0.out);(case side3=> exact zq50);(case side4=>exact b1.out);rintro e w9 ⟨rfl,hb⟩;replace HO_3:=zqm (Kd.R_below (zqfR HO_3.out) hb);replace a0:=zqm (blk_below (g:=a1) (o:= .cells #[.slice A0_0 l0_0.length c0_0,.slice A0_1 l0_1.length c0_1] 26 (0,0)) (zqe a0.out) hb);replace HB:=zqm (below_step zq18 hb);clear hb))
     go_meet
     case rel=>exact⟨_,(d9),zq6,H',⟨by have:=a6.out;first|omega|exact Nat.le_refl _⟩,⟨zqfR HO_3.out⟩,⟨zqe a0.out⟩,⟨zq18⟩⟩
    ·rw [if_neg c6] at H;have a9:decide (a3<(l0_1.length:Int))=false:=decide_eq_false c6;clear c6;(first|rw [a9]|(simp only [i64_w,i32_w];rw [a9])|skip);have H':=zqm H;clear H;have b7:wr.cell? ⟨a1,0,none⟩=some (.slice A0_0 l0_0.length c0_0):=(blk_cell a0.out 0).trans rfl;have b8:wr.cell? ⟨a1,1,none⟩=some (.slice A0_1 l0_1.length c0_1):=(blk_cell a0.out 1).trans rfl;have b9:=blk_frozen a0.out 0;have c0:=blk_frozen a0.out 1
     go_wp2
     go_meet
     case rel=>exact⟨_,(false),zq6,H',⟨by have:=a6.out;first|omega|exact Nat.le_refl _⟩,⟨zqfR HO_3.out⟩,⟨zqe a0.out⟩,⟨zq18⟩⟩
   case rest=>
    clear d8;(try clear c1);(try clear p2);(try clear c6);(try clear a9);(try clear b7);(try clear b8);(try clear c5);(try clear c7);(try clear b9);(try clear c0);(try clear c8);(try clear c9);(try clear p2);obtain⟨kq,b4,rfl,HA,a7,HO_3,a0,HB⟩:=hcut
    cases kq with
    |zero=>exact absurd HA.out (by simp [spec_CentreOf.j1])
    |succ e9=>
     have H:=HA.out;clear HA;simp only [spec_CentreOf.j1] at H
     by_cases c4:b4=true
     ·subst c4;rw [if_pos rfl] at H;have H':=zqm H;clear H
      go_wp2
      go_loopg [5,6] e9 (fun kq v5 v6 w'=> ∃(b5:Bool) (a4:Int),v5= .bool b5∧v6= .int .i64 a4∧Aside0 (spec_CentreOf.l1 kq a5 a3 b5 a4 l0_0 l0_1=some r)∧Aside0 (kq≤e9)∧Aside0 (Kd.R (Kd.int .i64) 3 w' w.heap.size (fun _=>True) u3 a5)∧Aside0 (w'.heap[a1]? =some (.cells #[(.slice A0_0 l0_0.length c0_0),(.slice A0_1 l0_1.length c0_1)] 26 (0,0)))∧Aside0 (Below w.heap.size w w'))
      case atStart=>exact⟨(true),(0),zq6,zq6,H',⟨Nat.le_refl _⟩,⟨zqfR HO_3.out⟩,⟨zqe a0.out⟩,⟨zq18⟩⟩
      case round=>
       clear H';(try clear c1);(try clear p2);(try clear c6);(try clear a9);(try clear c4);(try clear b7);(try clear b8);(try clear c5);(try clear c7);(try clear b9);(try clear c0);(try clear c8);(try clear c9);(try clear p2);obtain⟨b5,a4,rfl,rfl,HA,a8,HO_3,a0,HB⟩:=hrel
       cases gk with
       |zero=>exact absurd HA.out (by simp [spec_CentreOf.l1])
       |succ k3=>
        have H:=HA.out;clear HA;simp only [spec_CentreOf.l1] at H
        by_cases b6:a4<(l0_1.length:Int)
        ·rw [if_pos b6] at H;have e6:decide (a4<(l0_1.length:Int))=true:=decide_eq_true b6;clear b6
         by_cases d2:b5=true
         ·subst d2;rw [if_pos rfl] at H;replace H:=Option.bind_eq_some_iff.mp H;obtain⟨f2,d6,H⟩:=H;(try dsimp only at H);have e7:=zqm d6;clear d6
          by_cases d3:f2=true
          ·subst d3;rw [if_pos rfl] at H;replace H:=Option.bind_eq_some_iff.mp H;obtain⟨e0,d7,H⟩:=H;(try dsimp only at H);have h7:=zqm d7;clear d7;have H':=zqm H;clear H;have f3:wr.cell? ⟨a1,0,none⟩=some (.slice A0_0 l0_0.length c0_0):=(blk_cell a0.out 0).trans rfl;have f4:wr.cell? ⟨a1,1,none⟩=some (.slice A0_1 l0_1.length c0_1):=(blk_cell a0.out 1).trans rfl;have g5:=blk_frozen a0.out 0;have g6:=blk_frozen a0.out 1
           go_wp2_with (first|(go_at_call 38;(with_reducible refine(spec_l5With.calls k3 _ _ l0_0 _ _ l0_1 a3 a4 true _ ?side1 ?side2 ?side3 ?side4 e7.out).mono ?_);(case side1=> exact zq49);(case side2=>exact b0.out);(case side3=> exact zq50);(case side4=>exact b1.out);rintro e f1 ⟨rfl,hb⟩;replace HO_3:=zqm (Kd.R_below (zqfR HO_3.out) hb);replace a0:=zqm (blk_below (g:=a1) (o:= .cells #[.slice A0_0 l0_0.length c0_0,.slice A0_1 l0_1.length c0_1] 26 (0,0)) (zqe a0.out) hb);replace HB:=zqm (below_step zq18 hb);clear hb;have f5:f1.cell? ⟨a1,0,none⟩=some (.slice A0_0 l0_0.length c0_0):=(blk_cell a0.out 0).trans rfl;have f6:f1.cell? ⟨a1,1,none⟩=some (.slice A0_1 l0_1.length c0_1):=(blk_cell a0.out 1).trans rfl;have g7:=blk_frozen a0.out 0;have g8:=blk_frozen a0.out 1)|(go_at_call 38;(with_reducible refine(spec_l5With.calls k3 _ _ l0_0 _ _ l0_1 a4 a3 e0 _ ?side1 ?side2 ?side3 ?side4 h7.out).mono ?_);(case side1=> exact zq49);(case side2=>exact b0.out);(case side3=> exact zq50);(case side4=>exact b1.out);rintro e i2 ⟨rfl,hb⟩;replace HO_3:=zqm (Kd.R_below (zqfR HO_3.out) hb);replace a0:=zqm (blk_below (g:=a1) (o:= .cells #[.slice A0_0 l0_0.length c0_0,.slice A0_1 l0_1.length c0_1] 26 (0,0)) (zqe a0.out) hb);replace HB:=zqm (below_step zq18 hb);clear hb))
           go_roundg k3
           (case measure=> exact zq78);case rel=>exact⟨(e0),(wrap64 (a4+1)),zq6,zq6,H',⟨zq78⟩,⟨zqfR HO_3.out⟩,⟨zqe a0.out⟩,⟨zq18⟩⟩
          ·replace d3:=Bool.eq_false_iff.mpr d3;subst d3;rw [if_neg (show¬(false=true) by decide)] at H;have H':=zqm H;clear H;have f7:wr.cell? ⟨a1,0,none⟩=some (.slice A0_0 l0_0.length c0_0):=(blk_cell a0.out 0).trans rfl;have f8:wr.cell? ⟨a1,1,none⟩=some (.slice A0_1 l0_1.length c0_1):=(blk_cell a0.out 1).trans rfl;have g9:=blk_frozen a0.out 0;have h0:=blk_frozen a0.out 1
           go_wp2_with (first|(go_at_call 38;(with_reducible refine(spec_l5With.calls k3 _ _ l0_0 _ _ l0_1 a3 a4 false _ ?side1 ?side2 ?side3 ?side4 e7.out).mono ?_);(case side1=> exact zq49);(case side2=>exact b0.out);(case side3=> exact zq50);(case side4=>exact b1.out);rintro e i3 ⟨rfl,hb⟩;replace HO_3:=zqm (Kd.R_below (zqfR HO_3.out) hb);replace a0:=zqm (blk_below (g:=a1) (o:= .cells #[.slice A0_0 l0_0.length c0_0,.slice A0_1 l0_1.length c0_1] 26 (0,0)) (zqe a0.out) hb);replace HB:=zqm (below_step zq18 hb);clear hb))
           go_roundg k3
           (case measure=> exact zq78);case rel=>exact⟨(false),(wrap64 (a4+1)),zq6,zq6,H',⟨zq78⟩,⟨zqfR HO_3.out⟩,⟨zqe a0.out⟩,⟨zq18⟩⟩
         ·replace d2:=Bool.eq_false_iff.mpr d2;subst d2;rw [if_neg (show¬(false=true) by decide)] at H;have H':=zqm H;clear H;have f9:wr.cell? ⟨a1,0,none⟩=some (.slice A0_0 l0_0.length c0_0):=(blk_cell a0.out 0).trans rfl;have g0:wr.cell? ⟨a1,1,none⟩=some (.slice A0_1 l0_1.length c0_1):=(blk_cell a0.out 1).trans rfl;have h1:=blk_frozen a0.out 0;have h2:=blk_frozen a0.out 1
          go_wp2
          go_roundg k3
          (case measure=> exact zq78);case rel=>exact⟨(false),(wrap64 (a4+1)),zq6,zq6,H',⟨zq78⟩,⟨zqfR HO_3.out⟩,⟨zqe a0.out⟩,⟨zq18⟩⟩
        ·rw [if_neg b6] at H;have e6:decide (a4<(l0_1.length:Int))=false:=decide_eq_false b6;clear b6
         by_cases d4:b5=true
         ·subst d4;rw [if_pos rfl] at H
          by_cases d5:a5.length<17592186044416
          ·rw [if_pos d5] at H;have LMc25:=zqm d5;clear d5;obtain⟨e2,c3⟩: ∃y_:List Int,y_=(a5 ++ [a3]):=⟨_,rfl⟩;replace H:(spec_CentreOf.l0 k3 e2 (wrap64 (a3+1)) l0_0 l0_1)=some r:=zqy c3 H;have e5:=zqm c3;clear c3;have H':=zqm H;clear H;have g1:wr.cell? ⟨a1,0,none⟩=some (.slice A0_0 l0_0.length c0_0):=(blk_cell a0.out 0).trans rfl;have g2:wr.cell? ⟨a1,1,none⟩=some (.slice A0_1 l0_1.length c0_1):=(blk_cell a0.out 1).trans rfl;have h3:=blk_frozen a0.out 0;have h4:=blk_frozen a0.out 1
           go_wp2_with (first|((with_reducible refine gate_builtin (b:= .append) (xs:= #[.tmp 40,.tmp 42]) rfl ?_);at_builtin;refine Kd.R_append (Kd.int .i64) (w0:=w) w.heap.size rfl (.tmp 40) (.tmp 42) 24 3 (.int .i64 0) 8 rfl Try.underlying24 info3 rfl (by decide) (by omega) u3 a5 a3 [.int .i64 a3] (fun _=>True) (fun _=>False) rfl rfl ?aP (fun _ hk=>hk.elim) ?aF ?aO ?aB ?aS ?aL ?_;(case aP=>exact rfl);(case aB=>exact zq18);(case aF=>exact(fun _ _=>trivial));(case aO=>exact(zqfR HO_3.out));(case aS=>exact(below_size zq18));(case aL=>have:=LMc25.out;omega);intro i1 i4 ho hb hg hat;rw [← e5.out] at ho;replace a0:=zqm (blk_grown (g:=a1) (o:= .cells #[.slice A0_0 l0_0.length c0_0,.slice A0_1 l0_1.length c0_1] 26 (0,0)) (zqe a0.out) hg (Kd.R_ne HO_3.out a0.out (by decide)));replace HB:=zqm (hb);have e4:=zqm (ho);clear HO_3;clear ho hb hg hat))
           go_roundg k3
           (case measure=> exact zq78);case rel=>exact⟨(e2),(wrap64 (a3+1)),zq6,H',⟨zq78⟩,⟨zqfR e4.out⟩,⟨zqe a0.out⟩,⟨zq18⟩⟩
          ·rw [if_neg d5] at H;exact absurd H (by simp)
         ·replace d4:=Bool.eq_false_iff.mpr d4;subst d4;rw [if_neg (show¬(false=true) by decide)] at H;have H':=zqm H;clear H;have g3:wr.cell? ⟨a1,0,none⟩=some (.slice A0_0 l0_0.length c0_0):=(blk_cell a0.out 0).trans rfl;have g4:wr.cell? ⟨a1,1,none⟩=some (.slice A0_1 l0_1.length c0_1):=(blk_cell a0.out 1).trans rfl;have h5:=blk_frozen a0.out 0;have h6:=blk_frozen a0.out 1
          go_wp2
          go_roundg k3
          (case measure=> exact zq78);case rel=>exact⟨(a5),(wrap64 (a3+1)),zq6,H',⟨zq78⟩,⟨zqfR HO_3.out⟩,⟨zqe a0.out⟩,⟨zq18⟩⟩
     ·replace c4:=Bool.eq_false_iff.mpr c4;subst c4;rw [if_neg (show¬(false=true) by decide)] at H;obtain rfl:=Option.some.inj H
      go_wp2
      go_ret
      exact⟨_,zq17,zqfR HO_3.out,zq18⟩
end
section
attribute [local go_sem] max2_int min2_int max_two min_two max_three min_three max_four min_four
def laws_ascend.l0 : Nat → List Int → Int → Option (Bool)
 | 0, _, _ => none
 | k + 1, x0, x3 => if x3 < (x0.length : Int) then (if 0 ≤ (wrap64 (x3 - 1)) then (if (wrap64 (x3 - 1)) < (x0.length : Int) then (if 0 ≤ x3 then (if (rd x0 (wrap64 (x3 - 1))) ≥ (rd x0 x3) then (some false) else (laws_ascend.l0 k x0 (wrap64 (x3 + 1)))) else (none)) else (none)) else (none)) else (some true)
def laws_ascend.f (k : Nat) (l0 : List Int) : Option (Bool) := laws_ascend.l0 k l0 1
set_option maxHeartbeats 8000000 in
set_option maxRecDepth 100000 in
theorem laws_ascend.calls (k : Nat) (A0 : Option Addr) (c0 : Nat) (l0 : List Int) (r : Bool) (w : World) (hr0 : Kd.C (Kd.int .i64) w A0 l0.length l0) (hc0 : l0.length ≤ c0) (h : laws_ascend.f k l0 = some r) :
  Calls Try.prog 15 #[.slice A0 l0.length c0] w fun e w' => e = .returned (.bool r) ∧ Drawn0 w w' := by
 have b1:=zqm hr0;have c8:=zqm hc0;clear hr0 hc0;have H:(laws_ascend.l0 k l0 1)=some r:=h;clear h;have H':=zqm H;clear H
 go_enter Try.func15,Try.ntmps15
 go_wp2
 repeat(go_quiet (fail);try go_wp2)
 go_loopg [3] k (fun kq v3 w'=> ∃(a0:Int),v3= .int .i64 a0∧Aside0 (laws_ascend.l0 kq l0 a0=some r)∧Aside0 (kq≤k)∧Drawn0 w w')
 case atStart=>exact⟨(1),zq6,H',⟨Nat.le_refl _⟩,zq8⟩
 case round=>
  clear H';(try clear c1);obtain⟨a0,rfl,HA,b4,⟨m1,rfl⟩⟩:=hrel
  cases gk with
  |zero=>exact absurd HA.out (by simp [laws_ascend.l0])
  |succ k1=>
   have H:=HA.out;clear HA;simp only [laws_ascend.l0] at H
   by_cases c2:a0<(l0.length:Int)
   ·rw [if_pos c2] at H;have b5:decide (a0<(l0.length:Int))=true:=decide_eq_true c2;clear c2;obtain⟨a1,a8⟩: ∃j_:Int,(wrap64 (a0 - 1))=j_:=⟨_,rfl⟩;(replace H:(if 0≤(a1) then(if(a1)<(l0.length:Int) then(if 0≤a0 then(if(rd l0 (a1))≥(rd l0 a0) then(some false) else(laws_ascend.l0 k1 l0 (wrap64 (a0+1)))) else(none)) else(none)) else(none))=some r:=by first|(rw [a8] at H;exact H)|(simp only [a8] at H ⊢;exact H));have b7:(IntKind.i64.wrap (a0 - 1))=a1:=(i64_w _).trans a8
    by_cases c4:0≤(a1)
    ·rw [if_pos c4] at H;have b8:decide (0≤(a1))=true:=decide_eq_true c4;clear c4
     by_cases c5:(a1)<(l0.length:Int)
     ·rw [if_pos c5] at H;have b9:decide ((a1)<(l0.length:Int))=true:=decide_eq_true c5;clear c5
      by_cases c6:0≤a0
      ·rw [if_pos c6] at H;have c3:decide (0≤a0)=true:=decide_eq_true c6;clear c6
       by_cases c7:(rd l0 (a1))≥(rd l0 a0)
       ·rw [if_pos c7] at H;have b6:decide ((rd l0 a0)≤(rd l0 (a1)))=true:=decide_eq_true c7;clear c7;obtain rfl:=Option.some.inj H;have a2:0≤((a1):Int):=zqo;have a4:(a1)<(l0.length:Int):=zqo;obtain⟨a6,a9,b2⟩:=Kd.at_int b1.out (a1) a2 a4
        cases a9
        replace a2:=eq_true a2;replace a4:=eq_true a4;have a3:0≤(a0:Int):=zqo;have a5:a0<(l0.length:Int):=zqo;obtain⟨a7,b0,b3⟩:=Kd.at_int b1.out a0 a3 a5;obtain rfl:a6=a7:=(by injection b0);replace a3:=eq_true a3;replace a5:=eq_true a5
        go_wp2
        repeat(go_quiet (fail);try go_wp2)
        go_ret
        exact⟨by first|rfl|(simp;done)|(simp only [← a8] <;> (first|rfl|simp))|(simp [*];done),zq8⟩
       ·rw [if_neg c7] at H;have b6:decide ((rd l0 a0)≤(rd l0 (a1)))=false:=decide_eq_false c7;clear c7;have H':=zqm H;clear H;have a2:0≤((a1):Int):=zqo;have a4:(a1)<(l0.length:Int):=zqo;obtain⟨a6,a9,b2⟩:=Kd.at_int b1.out (a1) a2 a4
        cases a9
        replace a2:=eq_true a2;replace a4:=eq_true a4;have a3:0≤(a0:Int):=zqo;have a5:a0<(l0.length:Int):=zqo;obtain⟨a7,b0,b3⟩:=Kd.at_int b1.out a0 a3 a5;obtain rfl:a6=a7:=(by injection b0);replace a3:=eq_true a3;replace a5:=eq_true a5
        go_wp2
        repeat(go_quiet (fail);try go_wp2)
        go_roundg k1
        (case measure=>have:=b4.out;omega);case rel=>exact⟨(wrap64 (a0+1)),zq6,H',⟨by have:=b4.out;omega⟩,zq8⟩
      ·rw [if_neg c6] at H;exact absurd H (by simp)
     ·rw [if_neg c5] at H;exact absurd H (by simp)
    ·rw [if_neg c4] at H;exact absurd H (by simp)
   ·rw [if_neg c2] at H;have b5:decide (a0<(l0.length:Int))=false:=decide_eq_false c2;clear c2;obtain rfl:=Option.some.inj H
    go_wp2
    repeat(go_quiet (fail);try go_wp2)
    go_ret
    exact⟨zq6,zq8⟩
end
end Go.Proofs.Ytmbapglhkbpokaa.Print
end
section
namespace Oml
section
universe u
structure OL (α : Type u) where
 le:α→α→Prop
 meet:α→α→α
 join:α→α→α
 neg:α→α
 bot:α
 le_refl: ∀a,le a a
 le_antisymm: ∀a b,le a b→le b a→a=b
 le_trans: ∀a b c,le a b→le b c→le a c
 meet_l: ∀a b,le (meet a b) a
 meet_r: ∀a b,le (meet a b) b
 le_meet: ∀a b c,le c a→le c b→le c (meet a b)
 join_l: ∀a b,le a (join a b)
 join_r: ∀a b,le b (join a b)
 join_le: ∀a b c,le a c→le b c→le (join a b) c
 neg_neg: ∀a,neg (neg a)=a
 neg_anti: ∀a b,le a b→le (neg b) (neg a)
 meet_neg: ∀a,meet a (neg a)=bot
 bot_le: ∀a,le bot a
namespace OL
variable {α : Type u} (L : OL α)
def top : α := L.neg L.bot
theorem le_top (a : α) : L.le a L.top := by
 have h := L.neg_anti _ _ (L.bot_le (L.neg a))
 rw [L.neg_neg] at h
 exact h
theorem neg_le_iff (a b : α) : L.le (L.neg a) b ↔ L.le (L.neg b) a := by
 constructor <;> intro h
 ·have:=L.neg_anti _ _ h;rwa [L.neg_neg] at this
 ·have:=L.neg_anti _ _ h;rwa [L.neg_neg] at this
theorem neg_inj {a b : α} (h : L.neg a = L.neg b) : a = b := by
 have := congrArg L.neg h; rwa [L.neg_neg, L.neg_neg] at this
theorem meet_comm (a b : α) : L.meet a b = L.meet b a :=
 L.le_antisymm _ _ (L.le_meet _ _ _ (L.meet_r _ _) (L.meet_l _ _)) (L.le_meet _ _ _ (L.meet_r _ _) (L.meet_l _ _))
theorem join_comm (a b : α) : L.join a b = L.join b a :=
 L.le_antisymm _ _ (L.join_le _ _ _ (L.join_r _ _) (L.join_l _ _)) (L.join_le _ _ _ (L.join_r _ _) (L.join_l _ _))
theorem meet_le_l {a b c : α} (h : L.le a c) : L.le (L.meet a b) c := L.le_trans _ _ _ (L.meet_l _ _) h
theorem meet_le_r {a b c : α} (h : L.le b c) : L.le (L.meet a b) c := L.le_trans _ _ _ (L.meet_r _ _) h
theorem le_join_l {a b c : α} (h : L.le c a) : L.le c (L.join a b) := L.le_trans _ _ _ h (L.join_l _ _)
theorem le_join_r {a b c : α} (h : L.le c b) : L.le c (L.join a b) := L.le_trans _ _ _ h (L.join_r _ _)
theorem meet_mono {a b c d : α} (h : L.le a c) (k : L.le b d) : L.le (L.meet a b) (L.meet c d) := L.le_meet _ _ _ (L.meet_le_l h) (L.meet_le_r k)
theorem join_mono {a b c d : α} (h : L.le a c) (k : L.le b d) : L.le (L.join a b) (L.join c d) := L.join_le _ _ _ (L.le_join_l h) (L.le_join_r k)
theorem meet_assoc (a b c : α) : L.meet (L.meet a b) c = L.meet a (L.meet b c) :=
 L.le_antisymm _ _ (L.le_meet _ _ _ (L.meet_le_l (L.meet_l _ _)) (L.meet_mono (L.meet_r _ _) (L.le_refl _)))
  (L.le_meet _ _ _ (L.meet_mono (L.le_refl _) (L.meet_l _ _)) (L.meet_le_r (L.meet_r _ _)))
theorem join_assoc (a b c : α) : L.join (L.join a b) c = L.join a (L.join b c) :=
 L.le_antisymm _ _ (L.join_le _ _ _ (L.join_mono (L.le_refl _) (L.join_l _ _)) (L.le_join_r (L.join_r _ _)))
  (L.join_le _ _ _ (L.le_join_l (L.join_l _ _)) (L.join_mono (L.join_r _ _) (L.le_refl _)))
theorem meet_eq_l (a b : α) : L.meet a b = a ↔ L.le a b := by
 constructor
 ·intro h; rw [← h]; exact L.meet_r _ _
 ·intro h; exact L.le_antisymm _ _ (L.meet_l _ _) (L.le_meet _ _ _ (L.le_refl _) h)
theorem join_eq_r (a b : α) : L.join a b = b ↔ L.le a b := by
 constructor
 ·intro h; rw [← h]; exact L.join_l _ _
 ·intro h; exact L.le_antisymm _ _ (L.join_le _ _ _ h (L.le_refl _)) (L.join_r _ _)
theorem join_eq_l (a b : α) : L.join a b = a ↔ L.le b a := by rw [L.join_comm]; exact L.join_eq_r b a
theorem meet_self (a : α) : L.meet a a = a := (L.meet_eq_l a a).2 (L.le_refl _)
theorem neg_meet (a b : α) : L.neg (L.meet a b) = L.join (L.neg a) (L.neg b) := by
 apply L.le_antisymm
 ·rw [L.neg_le_iff]
  exact L.le_meet _ _ _ (by rw [L.neg_le_iff];exact L.join_l _ _) (by rw [L.neg_le_iff];exact L.join_r _ _)
 ·exact L.join_le _ _ _ (L.neg_anti _ _ (L.meet_l _ _)) (L.neg_anti _ _ (L.meet_r _ _))
theorem neg_join (a b : α) : L.neg (L.join a b) = L.meet (L.neg a) (L.neg b) := by
 apply L.neg_inj
 rw [L.neg_neg, L.neg_meet, L.neg_neg, L.neg_neg]
theorem join_neg (a : α) : L.join a (L.neg a) = L.top := by
 have := L.neg_meet a (L.neg a)
 rw [L.meet_neg, L.neg_neg, L.join_comm] at this
 exact this.symm
theorem join_bot (a : α) : L.join a L.bot = a := (L.join_eq_l _ _).2 (L.bot_le _)
theorem meet_top (a : α) : L.meet a L.top = a := (L.meet_eq_l _ _).2 (L.le_top _)
theorem le_bot {a : α} (h : L.le a L.bot) : a = L.bot := L.le_antisymm _ _ h (L.bot_le _)
theorem join_meet_absorb (a b : α) : L.join a (L.meet a b) = a := (L.join_eq_l _ _).2 (L.meet_l _ _)
def Keeps : Prop := ∀ a b, L.le a b → L.join a (L.meet b (L.neg a)) = b
def C (a b : α) : Prop := L.join (L.meet a b) (L.meet a (L.neg b)) = a
def Split (a b c : α) : Prop := L.meet a (L.join b c) = L.join (L.meet a b) (L.meet a c)
def Boolean : Prop := ∀ a b c, L.Split a b c
variable {L}
theorem C_refl (a : α) : L.C a a := by unfold C; rw [L.meet_self, L.meet_neg, L.join_bot]
theorem C_neg {a b : α} (h : L.C a b) : L.C a (L.neg b) := by unfold C at *; rw [L.neg_neg, L.join_comm]; exact h
theorem C_neg_iff (a b : α) : L.C a (L.neg b) ↔ L.C a b := ⟨fun h => by have := C_neg h; rwa [L.neg_neg] at this, C_neg⟩
theorem C_of_le {a b : α} (h : L.le a b) : L.C a b := by
 unfold C; rw [(L.meet_eq_l a b).2 h]; exact L.join_meet_absorb _ _
theorem C_bot (a : α) : L.C a L.bot := (C_neg_iff a L.bot).1 (C_of_le (L.le_top a))
theorem Keeps.dual (K : L.Keeps) {a b : α} (h : L.le a b) : L.meet b (L.join a (L.neg b)) = a := by
 have:=K _ _ (L.neg_anti _ _ h)
 have h2:=congrArg L.neg this
 rw [L.neg_join,L.neg_meet,L.neg_neg,L.neg_neg] at h2
 exact h2
theorem Keeps.eq_of (K : L.Keeps) {a b : α} (h : L.le a b) (k : L.meet b (L.neg a) = L.bot) : a = b := by
 have := K _ _ h; rw [k, L.join_bot] at this; exact this
theorem Keeps.C_symm (K : L.Keeps) {a b : α} (h : L.C a b) : L.C b a := by
 have h1:L.meet (L.neg a) b=L.meet (L.neg (L.meet a b)) b:=by
  have e:L.neg a=L.meet (L.neg (L.meet a b)) (L.neg (L.meet a (L.neg b))):=by rw [← L.neg_join,h]
  rw [e,L.meet_assoc]
  congr 1
  apply L.le_antisymm
  ·exact L.meet_r _ _
  ·refine L.le_meet _ _ _ ?_ (L.le_refl _)
   rw [L.neg_meet,L.neg_neg]
   exact L.join_r _ _
 have h2:=K _ _ (L.meet_r a b)
 unfold C
 rw [L.meet_comm b a,L.meet_comm b (L.neg a),h1,L.meet_comm (L.neg (L.meet a b)) b]
 exact h2
theorem Keeps.C_neg_l (K : L.Keeps) {a b : α} (h : L.C a b) : L.C (L.neg a) b := K.C_symm (C_neg (K.C_symm h))
theorem Keeps.proj_of_C (K : L.Keeps) {a b : α} (h : L.C a b) : L.meet a (L.join (L.neg a) b) = L.meet a b := by
 have hb:=K.C_symm h
 have e:L.join (L.neg a) b=L.join (L.neg a) (L.meet b a):=by
  apply L.le_antisymm
  ·refine L.join_le _ _ _ (L.join_l _ _) ?_
   have h0:L.le (L.join (L.meet b a) (L.meet b (L.neg a))) (L.join (L.neg a) (L.meet b a)):=
    L.join_le _ _ _ (L.join_r _ _) (L.le_join_l (L.meet_r _ _))
   rwa [show L.join (L.meet b a) (L.meet b (L.neg a))=b from hb] at h0
  ·exact L.join_mono (L.le_refl _) (L.meet_l _ _)
 rw [e,L.join_comm,L.meet_comm a b]
 exact K.dual (L.meet_r _ _)
theorem Keeps.fh1 (K : L.Keeps) {a b c : α} (hb : L.C a b) (hc : L.C a c) : L.Split a b c := by
 refine Eq.symm (?_:_=_)
 have hle:L.le (L.join (L.meet a b) (L.meet a c)) (L.meet a (L.join b c)):=
  L.join_le _ _ _ (L.meet_mono (L.le_refl _) (L.join_l _ _)) (L.meet_mono (L.le_refl _) (L.join_r _ _))
 refine K.eq_of hle ?_
 rw [L.neg_join,L.neg_meet,L.neg_meet]
 have eb:=K.proj_of_C (C_neg hb)
 have ec:=K.proj_of_C (C_neg hc)
 apply L.le_bot
 have h1:L.le (L.meet (L.meet a (L.join b c)) (L.meet (L.join (L.neg a) (L.neg b)) (L.join (L.neg a) (L.neg c)))) (L.meet a (L.neg b)):=by
  rw [← eb]
  exact L.le_meet _ _ _ (L.meet_le_l (L.meet_l _ _)) (L.meet_le_r (L.meet_l _ _))
 have h2:L.le (L.meet (L.meet a (L.join b c)) (L.meet (L.join (L.neg a) (L.neg b)) (L.join (L.neg a) (L.neg c)))) (L.meet a (L.neg c)):=by
  rw [← ec]
  exact L.le_meet _ _ _ (L.meet_le_l (L.meet_l _ _)) (L.meet_le_r (L.meet_r _ _))
 have h3:L.le (L.meet (L.meet a (L.join b c)) (L.meet (L.join (L.neg a) (L.neg b)) (L.join (L.neg a) (L.neg c)))) (L.join b c):=L.meet_le_l (L.meet_r _ _)
 have h4:=L.le_meet _ _ _ (L.le_trans _ _ _ h1 (L.meet_r _ _)) (L.le_trans _ _ _ h2 (L.meet_r _ _))
 rw [← L.neg_join] at h4
 have h5:=L.le_meet _ _ _ h3 h4
 rwa [L.meet_neg] at h5
theorem Keeps.C_join (K : L.Keeps) {a b c : α} (hb : L.C a b) (hc : L.C a c) : L.C a (L.join b c) := by
 apply K.C_symm
 have e1:=K.fh1 hb hc
 have e2:=K.fh1 (K.C_neg_l hb) (K.C_neg_l hc)
 unfold Split at e1 e2
 unfold C
 rw [L.meet_comm (L.join b c) a,L.meet_comm (L.join b c) (L.neg a),e1,e2]
 have hb':L.join (L.meet a b) (L.meet (L.neg a) b)=b:=by
  have:=K.C_symm hb;unfold C at this;rwa [L.meet_comm b a,L.meet_comm b (L.neg a)] at this
 have hc':L.join (L.meet a c) (L.meet (L.neg a) c)=c:=by
  have:=K.C_symm hc;unfold C at this;rwa [L.meet_comm c a,L.meet_comm c (L.neg a)] at this
 have:L.join (L.join (L.meet a b) (L.meet a c)) (L.join (L.meet (L.neg a) b) (L.meet (L.neg a) c))=L.join (L.join (L.meet a b) (L.meet (L.neg a) b)) (L.join (L.meet a c) (L.meet (L.neg a) c)):=by
  rw [L.join_assoc,L.join_assoc];congr 1;rw [← L.join_assoc,← L.join_assoc,L.join_comm (L.meet a c)]
 rw [this,hb',hc']
theorem Keeps.C_meet (K : L.Keeps) {a b c : α} (hb : L.C a b) (hc : L.C a c) : L.C a (L.meet b c) := by
 have := C_neg (K.C_join (C_neg hb) (C_neg hc))
 rwa [L.neg_join, L.neg_neg, L.neg_neg] at this
theorem Boolean.C (B : L.Boolean) (a b : α) : L.C a b := by
 have := B a b (L.neg b)
 unfold Split at this
 rw [L.join_neg, L.meet_top] at this
 exact this.symm
def lt (L : OL α) (a b : α) : Prop := L.le a b ∧ a ≠ b
end OL
end
section
def at1 (N : List Int) (a : Nat) : Int := N.getD a 0
def at2 (U : List (List Int)) (a b : Nat) : Int := (U.getD a []).getD b 0
def leB (U : List (List Int)) (a b : Nat) : Bool := at2 U a b == 1
def allN (n : Nat) (p : Nat → Bool) : Bool := (List.range n).all p
def findN (n : Nat) (p : Nat → Bool) : Option Nat := (List.range n).find? p
theorem allN_iff {n : Nat} {p : Nat → Bool} : allN n p = true ↔ ∀ i, i < n → p i = true := by
 simp [allN, List.all_eq_true]
theorem allN_false {n : Nat} {p : Nat → Bool} : allN n p = false ↔ ∃ i, i < n ∧ p i = false := by
 rw [← Bool.not_eq_true,allN_iff]
 constructor
 ·intro h
  apply Classical.byContradiction
  intro k
  exact h fun i hi=>by
   cases e:p i
   ·exact absurd ⟨i,hi,e⟩ k
   ·rfl
 ·rintro ⟨i,hi,e⟩ h
  rw [h i hi] at e
  exact absurd e (by simp)
theorem findN_some {n : Nat} {p : Nat → Bool} {i : Nat} (h : findN n p = some i) : i < n ∧ p i = true := by
 have h1:=List.find?_some h
 have h2:=List.mem_of_find?_eq_some h
 exact⟨by simpa using h2,h1⟩
theorem findN_none {n : Nat} {p : Nat → Bool} : findN n p = none ↔ ∀ i, i < n → p i = false := by
 unfold findN
 rw [List.find?_eq_none]
 constructor
 ·intro h i hi
  have:=h i (by simpa using hi)
  simpa using this
 ·intro h i hi
  have:=h i (by simpa using hi)
  simp [this]
theorem findN_first {n : Nat} {p : Nat → Bool} {i : Nat} (h : findN n p = some i) : ∀ j, j < i → p j = false := by
 unfold findN at h
 rw [List.find?_range_eq_some] at h
 intro j hj
 have:=h.2.2 j hj
 simpa using this
theorem findN_of {n : Nat} {p : Nat → Bool} {i : Nat} (hi : i < n) (h : p i = true) (hf : ∀ j, j < i → p j = false) : findN n p = some i := by
 unfold findN
 rw [List.find?_range_eq_some]
 exact⟨h,by simpa using hi,fun j hj=>by simp [hf j hj]⟩
theorem findN_uniq {n : Nat} {p : Nat → Bool} {i : Nat} (hi : i < n) (h : p i = true) (hu : ∀ j, j < n → p j = true → j = i) : findN n p = some i := by
 refine findN_of hi h fun j hj=>?_
 cases e:p j
 ·rfl
 ·have:=hu j (by omega) e;omega
structure Order (U : List (List Int)) : Prop where
 pos:1≤U.length
 small:U.length≤12
 row: ∀a,a<U.length→(U.getD a []).length=U.length
 bit: ∀a b,a<U.length→b<U.length→at2 U a b=0∨at2 U a b=1
 refl: ∀a,a<U.length→leB U a a=true
 anti: ∀a b,a<U.length→b<U.length→leB U a b=true→leB U b a=true→a=b
 trans: ∀a b c,a<U.length→b<U.length→c<U.length→leB U a b=true→leB U b c=true→leB U a c=true
def orderB (U : List (List Int)) : Bool :=
 decide (1≤U.length) && (decide (U.length≤12) && (allN U.length (fun a=>(U.getD a []).length==U.length && allN U.length fun b=>at2 U a b==0||at2 U a b==1) &&
  allN U.length fun a=>leB U a a && allN U.length fun b=>((a==b)||!(leB U a b && leB U b a)) && allN U.length fun c=>!(leB U a b && leB U b c)||leB U a c))
theorem orderB_iff {U : List (List Int)} : orderB U = true ↔ Order U := by
 unfold orderB
 simp only [Bool.and_eq_true,decide_eq_true_eq,allN_iff,Bool.or_eq_true,beq_iff_eq,Bool.not_eq_true']
 constructor
 ·rintro ⟨h1,h2,h3,h4⟩
  refine⟨h1,h2,fun a ha=>(h3 a ha).1,fun a b ha hb=>(h3 a ha).2 b hb,fun a ha=>(h4 a ha).1,fun a b ha hb k1 k2=>?_,fun a b c ha hb hc k1 k2=>?_⟩
  ·rcases ((h4 a ha).2 b hb).1 with e|e
   ·exact e
   ·rw [k1,k2] at e;exact absurd e (by simp)
  ·rcases ((h4 a ha).2 b hb).2 c hc with e|e
   ·rw [k1,k2] at e;exact absurd e (by simp)
   ·exact e
 ·intro O
  refine⟨O.pos,O.small,fun a ha=>⟨O.row a ha,fun b hb=>O.bit a b ha hb⟩,fun a ha=>⟨O.refl a ha,fun b hb=>⟨?_,fun c hc=>?_⟩⟩⟩
  ·by_cases e:a=b
   ·exact .inl e
   ·right
    cases k1:leB U a b <;> cases k2:leB U b a <;> simp
    exact e (O.anti a b ha hb k1 k2)
  ·cases k1:leB U a b <;> cases k2:leB U b c <;> simp
   exact O.trans a b c ha hb hc k1 k2
theorem Order.val {U : List (List Int)} (O : Order U) {a b : Nat} (ha : a < U.length) (hb : b < U.length) : at2 U a b = if leB U a b = true then 1 else 0 := by
 unfold leB
 rcases O.bit a b ha hb with e|e <;> simp [e]
def meetP (U : List (List Int)) (a b c : Nat) : Bool := leB U c a && (leB U c b && allN U.length fun d => !(leB U d a && leB U d b) || leB U d c)
def joinP (U : List (List Int)) (a b c : Nat) : Bool := leB U a c && (leB U b c && allN U.length fun d => !(leB U a d && leB U b d) || leB U c d)
def meetO (U : List (List Int)) (a b : Nat) : Option Nat := findN U.length (meetP U a b)
def joinO (U : List (List Int)) (a b : Nat) : Option Nat := findN U.length (joinP U a b)
def leastO (U : List (List Int)) : Option Nat := findN U.length fun a => allN U.length fun b => leB U a b
def optI (o : Option Nat) : Int := match o with | some m => (m : Int) | none => -1
theorem meetP_iff {U : List (List Int)} {a b c : Nat} : meetP U a b c = true ↔ leB U c a = true ∧ leB U c b = true ∧ ∀ d, d < U.length → leB U d a = true → leB U d b = true → leB U d c = true := by
 unfold meetP
 simp only [Bool.and_eq_true,allN_iff,Bool.or_eq_true,Bool.not_eq_true',Bool.and_eq_false_iff]
 constructor
 ·rintro ⟨h1,h2,h3⟩
  exact⟨h1,h2,fun d hd k1 k2=>by rcases h3 d hd with (e|e)|e <;> simp_all⟩
 ·rintro ⟨h1,h2,h3⟩
  refine⟨h1,h2,fun d hd=>?_⟩
  cases k1:leB U d a
  ·exact .inl (.inl rfl)
  ·cases k2:leB U d b
   ·exact .inl (.inr rfl)
   ·exact .inr (h3 d hd k1 k2)
theorem joinP_iff {U : List (List Int)} {a b c : Nat} : joinP U a b c = true ↔ leB U a c = true ∧ leB U b c = true ∧ ∀ d, d < U.length → leB U a d = true → leB U b d = true → leB U c d = true := by
 unfold joinP
 simp only [Bool.and_eq_true,allN_iff,Bool.or_eq_true,Bool.not_eq_true',Bool.and_eq_false_iff]
 constructor
 ·rintro ⟨h1,h2,h3⟩
  exact⟨h1,h2,fun d hd k1 k2=>by rcases h3 d hd with (e|e)|e <;> simp_all⟩
 ·rintro ⟨h1,h2,h3⟩
  refine⟨h1,h2,fun d hd=>?_⟩
  cases k1:leB U a d
  ·exact .inl (.inl rfl)
  ·cases k2:leB U b d
   ·exact .inl (.inr rfl)
   ·exact .inr (h3 d hd k1 k2)
theorem Order.meet_eq {U : List (List Int)} (O : Order U) {a b c : Nat} (hc : c < U.length) (h : meetP U a b c = true) : meetO U a b = some c := by
 refine findN_uniq hc h fun j hj e=>?_
 obtain⟨h1,h2,h3⟩:=meetP_iff.1 h
 obtain⟨k1,k2,k3⟩:=meetP_iff.1 e
 exact O.anti j c hj hc (h3 j hj k1 k2) (k3 c hc h1 h2)
theorem Order.join_eq {U : List (List Int)} (O : Order U) {a b c : Nat} (hc : c < U.length) (h : joinP U a b c = true) : joinO U a b = some c := by
 refine findN_uniq hc h fun j hj e=>?_
 obtain⟨h1,h2,h3⟩:=joinP_iff.1 h
 obtain⟨k1,k2,k3⟩:=joinP_iff.1 e
 exact O.anti j c hj hc (k3 c hc h1 h2) (h3 j hj k1 k2)
theorem Order.least_eq {U : List (List Int)} (O : Order U) {c : Nat} (hc : c < U.length) (h : ∀ b, b < U.length → leB U c b = true) : leastO U = some c := by
 refine findN_uniq hc (allN_iff.2 h) fun j hj e=>?_
 exact O.anti j c hj hc (allN_iff.1 e c hc) (h j hj)
structure Logic (U : List (List Int)) (N : List Int) : Prop extends Order U where
 meets: ∀a b,a<U.length→b<U.length→(meetO U a b).isSome=true
 joins: ∀a b,a<U.length→b<U.length→(joinO U a b).isSome=true
 len:N.length=U.length
 ran: ∀a,a<U.length→0≤at1 N a∧at1 N a<U.length
 inv: ∀a,a<U.length→at1 N (at1 N a).toNat=a
 comp: ∀a,a<U.length→meetO U a (at1 N a).toNat=leastO U
 turn: ∀a b,a<U.length→b<U.length→leB U a b=true→leB U (at1 N b).toNat (at1 N a).toNat=true
def latticeB (U : List (List Int)) : Bool := orderB U && allN U.length fun a => allN U.length fun b => (meetO U a b).isSome && (joinO U a b).isSome
def logicB (U : List (List Int)) (N : List Int) : Bool :=
 latticeB U && (N.length==U.length && (allN U.length (fun a=>decide (0≤at1 N a) && decide (at1 N a<U.length)) &&
  allN U.length fun a=>at1 N (at1 N a).toNat==(a:Int) && (meetO U a (at1 N a).toNat==leastO U && allN U.length fun b=>!leB U a b||leB U (at1 N b).toNat (at1 N a).toNat)))
theorem latticeB_order {U : List (List Int)} (h : latticeB U = true) : Order U := by
 unfold latticeB at h
 exact orderB_iff.1 (Bool.and_eq_true_iff.1 h).1
theorem logicB_iff {U : List (List Int)} {N : List Int} : logicB U N = true ↔ Logic U N := by
 unfold logicB latticeB
 simp only [Bool.and_eq_true,decide_eq_true_eq,allN_iff,beq_iff_eq,Bool.or_eq_true,Bool.not_eq_true',orderB_iff]
 constructor
 ·rintro ⟨⟨h0,h1⟩,h2,h3,h4⟩
  refine { toOrder:=h0,meets:=fun a b ha hb=>(h1 a ha b hb).1,joins:=fun a b ha hb=>(h1 a ha b hb).2,len:=h2,ran:=h3,inv:=fun a ha=>(h4 a ha).1,comp:=fun a ha=>(h4 a ha).2.1,turn:=fun a b ha hb k=>?_ }
  rcases (h4 a ha).2.2 b hb with e|e
  ·rw [k] at e;exact absurd e (by simp)
  ·exact e
 ·intro L
  refine⟨⟨L.toOrder,fun a ha b hb=>⟨L.meets a b ha hb,L.joins a b ha hb⟩⟩,L.len,L.ran,fun a ha=>⟨L.inv a ha,L.comp a ha,fun b hb=>?_⟩⟩
  cases k:leB U a b
  ·exact .inl rfl
  ·exact .inr (L.turn a b ha hb k)
section
variable {U : List (List Int)} {N : List Int} (L : Logic U N)
def Logic.mt (a b : Fin U.length) : Fin U.length := ⟨(meetO U a b).get (L.meets a b a.2 b.2), (findN_some (Option.some_get _).symm).1⟩
def Logic.jn (a b : Fin U.length) : Fin U.length := ⟨(joinO U a b).get (L.joins a b a.2 b.2), (findN_some (Option.some_get _).symm).1⟩
def Logic.ng (a : Fin U.length) : Fin U.length := ⟨(at1 N a).toNat, by have := L.ran a a.2; omega⟩
theorem Logic.mt_eq (a b : Fin U.length) : meetO U a b = some (L.mt a b).1 := (Option.some_get _).symm
theorem Logic.jn_eq (a b : Fin U.length) : joinO U a b = some (L.jn a b).1 := (Option.some_get _).symm
theorem Logic.ng_eq (a : Fin U.length) : at1 N a = ((L.ng a).1 : Int) := by
 have := L.ran a a.2
 show at1 N a = (((at1 N a).toNat : Nat) : Int)
 omega
theorem Logic.mt_spec (a b : Fin U.length) : meetP U a b (L.mt a b) = true := (findN_some (L.mt_eq a b)).2
theorem Logic.jn_spec (a b : Fin U.length) : joinP U a b (L.jn a b) = true := (findN_some (L.jn_eq a b)).2
theorem Logic.ng_ng (a : Fin U.length) : L.ng (L.ng a) = a := by
 apply Fin.ext
 show (at1 N (at1 N a).toNat).toNat = a
 rw [L.inv a a.2]
 simp
include L in
theorem Logic.least_some : ∃ m, leastO U = some m := by
 have h0:0<U.length:=L.pos
 have:=L.comp 0 h0
 obtain⟨m,hm⟩:=Option.isSome_iff_exists.1 (L.meets 0 (at1 N 0).toNat h0 (by have:=L.ran 0 h0;omega))
 exact⟨m,by rw [← this,hm]⟩
def Logic.no : Fin U.length := ⟨(leastO U).get (by obtain ⟨m, h⟩ := L.least_some; rw [h]; rfl), (findN_some (Option.some_get _).symm).1⟩
theorem Logic.no_eq : leastO U = some L.no.1 := (Option.some_get _).symm
theorem Logic.no_le (b : Fin U.length) : leB U L.no b = true := allN_iff.1 (findN_some L.no_eq).2 b b.2
def Logic.ol : OL (Fin U.length) where
 le a b:=leB U a b=true
 meet:=L.mt
 join:=L.jn
 neg:=L.ng
 bot:=L.no
 le_refl a:=L.refl a a.2
 le_antisymm a b h k:=Fin.ext (L.anti a b a.2 b.2 h k)
 le_trans a b c h k:=L.trans a b c a.2 b.2 c.2 h k
 meet_l a b:=(meetP_iff.1 (L.mt_spec a b)).1
 meet_r a b:=(meetP_iff.1 (L.mt_spec a b)).2.1
 le_meet a b c h k:=(meetP_iff.1 (L.mt_spec a b)).2.2 c c.2 h k
 join_l a b:=(joinP_iff.1 (L.jn_spec a b)).1
 join_r a b:=(joinP_iff.1 (L.jn_spec a b)).2.1
 join_le a b c h k:=(joinP_iff.1 (L.jn_spec a b)).2.2 c c.2 h k
 neg_neg a:=L.ng_ng a
 neg_anti a b h:=L.turn a b a.2 b.2 h
 meet_neg a:=by
  apply Fin.ext
  have h:=L.comp a a.2
  have e1:=L.mt_eq a (L.ng a)
  rw [L.no_eq] at h
  have:some (L.mt a (L.ng a)).1=some L.no.1:=e1.symm.trans h
  exact Option.some.inj this
 bot_le a:=L.no_le a
end
end
end Oml
end
section
namespace Go.Proofs.Ytmbapglhkbpokaa.Print
open Oml
def turnL (U : List (List Int)) : List (List Int) := (List.range U.length).map fun a => (List.range U.length).map fun b => at2 U b a
end Go.Proofs.Ytmbapglhkbpokaa.Print
end
section
namespace Go.Proofs.Ytmbapglhkbpokaa.Print
open Go.RowKit Go.Proofs.YtmbapglhkbpokaaW.PrintWords Go.Proofs.YtmbapglhkbpokaaW.PrintLast Go.Proofs.YtmbapglhkbpokaaW.PrintMore
open Oml
def tabI (n : Nat) (f : Nat → Nat → Int) : List (List Int) := (List.range n).map fun a => (List.range n).map fun b => f a b
def mI (U : List (List Int)) (a b : Nat) : Int := optI (meetO U a b)
def jI (U : List (List Int)) (a b : Nat) : Int := optI (joinO U a b)
def rowT (f : Nat → Nat → Int) (a b : Nat) : List Int := (List.range b).map fun b => f a b
def tabT (n : Nat) (f : Nat → Nat → Int) (a : Nat) : List (List Int) := (List.range a).map fun a => rowT f a n
theorem rowT_succ (f : Nat → Nat → Int) (a b : Nat) : rowT f a (b + 1) = rowT f a b ++ [f a b] := by simp [rowT, List.range_succ]
theorem tabT_succ (n : Nat) (f : Nat → Nat → Int) (a : Nat) : tabT n f (a + 1) = tabT n f a ++ [rowT f a n] := by simp [tabT, List.range_succ]
theorem rowT_length (f : Nat → Nat → Int) (a b : Nat) : (rowT f a b).length = b := by simp [rowT]
theorem tabT_length (n : Nat) (f : Nat → Nat → Int) (a : Nat) : (tabT n f a).length = a := by simp [tabT]
theorem tabI_length (n : Nat) (f : Nat → Nat → Int) : (tabI n f).length = n := by simp [tabI]
theorem wrap_small {x : Int} (h0 : 0 ≤ x) (h : x < 1000000) : wrap64 x = x := by unfold wrap64; omega
theorem reads_one {W : World} {p : Addr} {v : Value} {row : List Int} (h : W.cell? p = some v) : ReadsRow (fun x cs => x = row ∧ cs = [v]) 1 W (some p) 1 [row] := by
 refine⟨rfl,by omega,fun _=>⟨p,rfl,fun j q hq=>?_⟩⟩
 have hj:j=0:=by
  rcases j with _|j
  ·rfl
  ·simp at hq
 subst hj
 have hq':row=q:=by simpa using hq
 refine⟨[v],rfl,⟨hq'.symm,rfl⟩,fun i u hu=>?_⟩
 rcases i with _|i
 ·have:v=u:=by simpa using hu
  subst this
  simpa [Addr.add] using h
 ·simp at hu
theorem grown_cell {W w1 : World} {row : Option Nat} (hg : W.grownBy w1 row) {p : Addr} {v : Value} (h : W.cell? p = some v) (hne : some p.block ≠ row) : w1.cell? p = some v := by
 have:=hg.block p.block (World.block_lt_of_cell? W p h) hne
 unfold World.cell? at*
 rw [this];exact h
theorem infoInt : (Try.prog.info? 3).map (fun i => (i.zero, i.size, i.bytes)) = some (some (.int .i64 0), 1, 8) := by kernel_rfl
theorem infoRow : (Try.prog.info? 24).map (fun i => (i.zero, i.size, i.bytes)) = some (some (.slice none 0 0), 1, 24) := by kernel_rfl
def AlgAt (W : World) (g : Nat) (U A O : List (List Int)) (N : List Int) (no yes : Int) : Prop :=
 ∃A0 c0 A1 c1 A2 c2 A3 c3,W.heap[g]? =some (.cells #[.slice A0 U.length c0,.slice A1 A.length c1,.slice A2 O.length c2,.slice A3 N.length c3,.int .i64 no,.int .i64 yes] 43 (0,0))∧
  (U.length≤c0∧A.length≤c1∧O.length≤c2∧N.length≤c3)∧Kd.C (Kd.slice 3 (Kd.int .i64)) W A0 U.length U∧Kd.C (Kd.slice 3 (Kd.int .i64)) W A1 A.length A∧Kd.C (Kd.slice 3 (Kd.int .i64)) W A2 O.length O∧Kd.C (Kd.int .i64) W A3 N.length N
def AlgOf (W : World) (g : Nat) (U : List (List Int)) (N : List Int) : Prop :=
 AlgAt W g U (tabI U.length (mI U)) (tabI U.length (jI U)) N (optI (leastO U)) (at1 N (optI (leastO U)).toNat)
theorem AlgAt.below {W W1 : World} {g : Nat} {U A O : List (List Int)} {N : List Int} {no yes : Int} (h : AlgAt W g U A O N no yes) (hb : Below W.heap.size W W1) : AlgAt W1 g U A O N no yes := by
 obtain⟨A0,c0,A1,c1,A2,c2,A3,c3,h1,hc,k0,k1,k2,k3⟩:=h
 exact⟨A0,c0,A1,c1,A2,c2,A3,c3,blk_below h1 hb,hc,Kd.C_below k0 hb,Kd.C_below k1 hb,Kd.C_below k2 hb,Kd.C_below k3 hb⟩
theorem ints_cell {W : World} {A : Option Addr} {n : Nat} {xs : List Int} (h : Kd.C (Kd.int .i64) W A n xs) (i : Int) (h0 : 0 ≤ i) (h1 : i < n) : ∃ ad, A = some ad ∧ W.cell? (ad.add i.toNat) = some (.int .i64 (at1 xs i.toNat)) := Kd.at_int h i h0 h1
theorem rows_cell {W : World} {A : Option Addr} {n : Nat} {xs : List (List Int)} (h : Kd.C (Kd.slice 3 (Kd.int .i64)) W A n xs) (i : Int) (h0 : 0 ≤ i) (h1 : i < n) :
 ∃ad Ar cr,A=some ad∧W.cell? (ad.add i.toNat)=some (.slice Ar (xs.getD i.toNat []).length cr)∧(xs.getD i.toNat []).length≤cr∧Kd.C (Kd.int .i64) W Ar (xs.getD i.toNat []).length (xs.getD i.toNat []):=by
 obtain⟨ad,c,e,_,hK,hc0⟩:=Kd.C_get h ([]:List Int) i h0 h1
 have hc: ∀j u,c[j]? =some u→W.cell? (ad.add (i.toNat*1+j))=some u:=hc0
 obtain⟨Ar,cr,rfl,l0,g0⟩:=hK
 exact⟨ad,Ar,cr,e,by have hq:=hc 0 _ rfl;rwa [Nat.mul_one,Nat.add_zero] at hq,l0,g0⟩
theorem mat_cell {W : World} {A : Option Addr} {n : Nat} {xs : List (List Int)} (h : Kd.C (Kd.slice 3 (Kd.int .i64)) W A n xs) (hr : ∀ a, a < n → (xs.getD a []).length = n) (a b : Int) (ha : 0 ≤ a) (ha' : a < n) (hb : 0 ≤ b) (hb' : b < n) :
 ∃ad ad' cr,A=some ad∧W.cell? (ad.add a.toNat)=some (.slice (some ad') n cr)∧W.cell? (ad'.add b.toNat)=some (.int .i64 (at2 xs a.toNat b.toNat))∧n≤cr:=by
 obtain⟨ad,Ar,cr,e,hc,hl,hk⟩:=rows_cell h a ha ha'
 have hn:=hr a.toNat (by omega)
 rw [hn] at hc hl hk
 obtain⟨ad',e',hc'⟩:=ints_cell hk b hb hb'
 subst e'
 exact⟨ad,ad',cr,e,hc,hc',hl⟩
theorem tabI_row (n : Nat) (f : Nat → Nat → Int) : ∀ a, a < n → ((tabI n f).getD a []).length = n := by
 intro a ha
 simp [tabI, List.getD_eq_getElem?_getD, ha]
theorem tabI_at (n : Nat) (f : Nat → Nat → Int) (a b : Nat) (ha : a < n) (hb : b < n) : at2 (tabI n f) a b = f a b := by
 simp [at2, tabI, List.getD_eq_getElem?_getD, ha, hb]
theorem tab_cell {W : World} {A : Option Addr} {n m : Nat} {f : Nat → Nat → Int} (h : Kd.C (Kd.slice 3 (Kd.int .i64)) W A m (tabI n f)) (a b : Int) (ha : 0 ≤ a) (ha' : a < n) (hb : 0 ≤ b) (hb' : b < n) :
 ∃ad ad' cr,A=some ad∧W.cell? (ad.add a.toNat)=some (.slice (some ad') n cr)∧W.cell? (ad'.add b.toNat)=some (.int .i64 (f a.toNat b.toNat))∧n≤cr:=by
 have hm:(tabI n f).length=m:=Kd.C_len h
 rw [tabI_length] at hm
 subst hm
 obtain⟨ad,ad',cr,h1,h2,h3,h4⟩:=mat_cell h (tabI_row n f) a b ha ha' hb hb'
 rw [tabI_at n f _ _ (by omega) (by omega)] at h3
 exact⟨ad,ad',cr,h1,h2,h3,h4⟩
theorem cell_up {w W : World} {B : Nat} {a : Addr} {v : Value} (h : w.cell? a = some v) (hb : Below B w W) (hB : B = w.heap.size) : W.cell? a = some v := by
 subst hB
 exact(hb.cell (World.block_lt_of_cell? w a h)).trans h
def ToldPost (U : List (List Int)) (N : List Int) (w : World) (e : Ending) (w' : World) : Prop :=
 Below w.heap.size w w'∧((logicB U N=true∧ ∃g,e= .returned (.pointer (some ⟨g,0,none⟩))∧w.heap.size≤g∧AlgOf w' g U N)∨(logicB U N=false∧e= .returned (.pointer none)))
end Go.Proofs.Ytmbapglhkbpokaa.Print
end
section
namespace Go.Proofs.Ytmbapglhkbpokaa.Print
open Go.RowKit Go.Proofs.YtmbapglhkbpokaaW.PrintWords Go.Proofs.YtmbapglhkbpokaaW.PrintLast Go.Proofs.YtmbapglhkbpokaaW.PrintMore
section
attribute [local go_sem] max2_int min2_int max_two min_two max_three min_three max_four min_four
mutual
def impl_turned.l0 : Nat → List (List Int) → List (List Int) → Int → Int → Option ((List (List Int)))
 | 0, _, _, _, _ => none
 | k + 1, x0, x3, x10, x11 => if x11 < x10 then (if 0 ≤ (x0.length : Int) then (if ((x0.length : Int) : Int).toNat ≤ 35184372088832 then (if 0 ≤ x11 then (if x11 < (x3.length : Int) then (impl_turned.l1 k x0 (x3.set (x11 : Int).toNat (List.replicate ((x0.length : Int) : Int).toNat 0)) x11 x10 x11 (x0.length : Int) 0) else (none)) else (none)) else (none)) else (none)) else (some x3)
def impl_turned.l1 : Nat → List (List Int) → List (List Int) → Int → Int → Int → Int → Int → Option ((List (List Int)))
 | 0, _, _, _, _, _, _, _ => none
 | k + 1, x0, x3, x4, x10, x11, x21, x22 => if x22 < x21 then (if 0 ≤ x4 then (if x4 < (x3.length : Int) then (if 0 ≤ x22 then (if x22 < (x0.length : Int) then (if x4 < ((rd_L2 x0 x22).length : Int) then (if x22 < ((rd_L2 x3 x4).length : Int) then (impl_turned.l1 k x0 (x3.set (x4 : Int).toNat ((rd_L2 x3 x4).set (x22 : Int).toNat (rd (rd_L2 x0 x22) x4))) x4 x10 x11 x21 (wrap64 (x22 + 1))) else (none)) else (none)) else (none)) else (none)) else (none)) else (none)) else (impl_turned.l0 k x0 x3 x10 (wrap64 (x11 + 1)))
end
def impl_turned.f (k : Nat) (l0 : List (List Int)) : Option ((List (List Int))) := if 0 ≤ (l0.length : Int) then (if ((l0.length : Int) : Int).toNat ≤ 11728124029610 then (impl_turned.l0 k l0 (List.replicate ((l0.length : Int) : Int).toNat []) (l0.length : Int) 0) else (none)) else (none)
def impl_turned.T9 : Bool × List (List Nat × List Nat) := (true, [([], []), ([], []), ([0, 1], [0, 1]), ([2], [2]), ([], []), ([], []), ([], []), ([5, 6], [5, 6]), ([7], [7]), ([], []), ([8, 9], [8, 9]), ([10], [10]), ([3, 4, 0, 1, 2, 3, 4, 5, 6, 7, 8, 9, 10, 11], [3, 4]), ([12, 11, 0, 1, 2, 3, 4, 5, 6, 7, 8, 9, 10, 11], [11, 12])])
def impl_turned.B9 : List Nat := [0, 0, 3, 7, 0, 0, 0, 96, 224, 0, 992, 2016, 4095, 8191]
theorem impl_turned.tab9 : rtab .any (opsOf Try.f47 9) = impl_turned.T9 := by kernel_rfl
theorem impl_turned.bits9 : waitsOk impl_turned.T9.2 impl_turned.B9 = true := by kernel_rfl
set_option maxHeartbeats 8000000 in
set_option maxRecDepth 100000 in
theorem impl_turned.calls (k : Nat) (A0 : Option Addr) (c0 : Nat) (l0 : List (List Int)) (r : List (List Int)) (w : World) (hr0 : Kd.C (Kd.slice 3 (Kd.int .i64)) w A0 l0.length l0) (hc0 : l0.length ≤ c0) (h : impl_turned.f k l0 = some r) :
  Calls Try.prog 47 #[.slice A0 l0.length c0] w fun e w' => ∃ v0_ : Value, e = .returned (v0_) ∧ Kd.S (Kd.slice 3 (Kd.int .i64)) 24 w' w.heap.size (fun _ => True) v0_ r ∧ Below w.heap.size w w' := by
 have l2:=zqm hr0;have o3:=zqm hc0;clear hr0 hc0;have HB:=zqm (Below.refl w.heap.size w);have H:(if 0≤(l0.length:Int) then(if((l0.length:Int):Int).toNat≤11728124029610 then(impl_turned.l0 k l0 (List.replicate ((l0.length:Int):Int).toNat []) (l0.length:Int) 0) else(none)) else(none))=some r:=h;clear h
 by_cases c2:0≤(l0.length:Int)
 ·rw [if_pos c2] at H;have m8:=eq_true c2;have m9:decide (0≤(l0.length:Int))=true:=decide_eq_true c2;clear c2
  by_cases c3:((l0.length:Int):Int).toNat≤11728124029610
  ·rw [if_pos c3] at H;have n0:=eq_true c3;have n1:decide (((l0.length:Int):Int).toNat≤11728124029610)=true:=decide_eq_true c3;clear c3;obtain⟨i6,d0⟩: ∃y_:List (List Int),y_=(List.replicate ((l0.length:Int):Int).toNat []):=⟨_,rfl⟩;replace H:(impl_turned.l0 k l0 i6 (l0.length:Int) 0)=some r:=zqy d0 H;have f0:=zqm d0;clear d0;have H':=zqm H;clear H
   go_enter Try.func47,Try.ntmps47
   go_wp2_with (first|((with_reducible refine gate_dst (N:=8) rfl ?_);refine Kd.S_make (Kd.slice 3 (Kd.int .i64)) _ 24 rfl (N:=8) rfl 23 _ _ rfl (l0.length:Int) rfl rfl Try.underlying23 (.slice none 0 0) 24 info24 rfl (by decide) (by omega) [] (ok:=fun _=>True) (okp:=fun _=>True) ⟨_,rfl,Kd.R_nil _ _ _ _ _⟩ (fun _ hk=>hk) trivial (zqo) (Nat.le_trans (Nat.mul_le_mul_right _ (zqo:(l0.length:Int).toNat≤11728124029610)) (by omega)) (Below.refl _ _) (Nat.le_refl _) ?_;intro k4 w4 d8 hb hg_ hnew_;clear hg_ hnew_;(first|rw [← f0.out] at d8|(simp only [Int.reduceToNat] at d8;rw [← f0.out] at d8));have i8:=zqm (Kd.S_lower d8 (below_size zq2));replace HB:=zqm (below_step zq2 hb);clear hb d8))
   go_loopg [11] k (fun kq l5 w'=> ∃(a3:List (List Int)) (a0:Int),l5= .int .i64 a0∧Aside0 (impl_turned.l0 kq l0 a3 (l0.length:Int) a0=some r)∧Aside0 (kq≤k)∧Aside0 (Kd.S (Kd.slice 3 (Kd.int .i64)) 24 w' w.heap.size (fun _=>True) k4 a3)∧Aside0 (Below w.heap.size w w'))
   case atStart=>exact⟨(i6),(0),zq6,H',⟨Nat.le_refl _⟩,⟨zqfS i8.out⟩,⟨zq2⟩⟩
   case round=>
    clear H';obtain⟨a3,a0,rfl,HA,e8,HO_3,HB⟩:=hrel
    cases gk with
    |zero=>exact absurd HA.out (by simp [impl_turned.l0])
    |succ k1=>
     have H:=HA.out;clear HA;simp only [impl_turned.l0] at H
     by_cases c6:a0<(l0.length:Int)
     ·rw [if_pos c6] at H;have j5:decide (a0<(l0.length:Int))=true:=decide_eq_true c6;clear c6
      by_cases c7:0≤(l0.length:Int)
      ·rw [if_pos c7] at H;have n2:=eq_true c7;have n3:decide (0≤(l0.length:Int))=true:=decide_eq_true c7;clear c7
       by_cases c8:((l0.length:Int):Int).toNat≤35184372088832
       ·rw [if_pos c8] at H;have n4:=eq_true c8;have n5:decide (((l0.length:Int):Int).toNat≤35184372088832)=true:=decide_eq_true c8;clear c8;obtain⟨e5,d1⟩: ∃y_:List Int,y_=(List.replicate ((l0.length:Int):Int).toNat 0):=⟨_,rfl⟩;replace H:(if 0≤a0 then(if a0<(a3.length:Int) then(impl_turned.l1 k1 l0 (a3.set (a0:Int).toNat e5) a0 (l0.length:Int) a0 (l0.length:Int) 0) else(none)) else(none))=some r:=zqy d1 H;have f1:=zqm d1;clear d1
        by_cases c9:0≤a0
        ·rw [if_pos c9] at H;have n6:decide (0≤a0)=true:=decide_eq_true c9;clear c9
         by_cases f3:a0<(a3.length:Int)
         ·rw [if_pos f3] at H;have m0:decide (a0<(a3.length:Int))=true:=decide_eq_true f3;clear f3;obtain⟨e6,d2⟩: ∃y_:List (List Int),y_=(a3.set (a0:Int).toNat e5):=⟨_,rfl⟩;replace H:(impl_turned.l1 k1 l0 e6 a0 (l0.length:Int) a0 (l0.length:Int) 0)=some r:=zqy d2 H;have i9:=zqm d2;clear d2;have H':=zqm H;clear H
          go_wp2_with (first|((with_reducible refine gate_dst (N:=18) rfl ?_);refine Kd.R_make (Kd.int .i64) _ 3 rfl (N:=18) rfl 24 _ _ rfl (l0.length:Int) rfl rfl Try.underlying24 (.int .i64 0) 8 info3 rfl (by decide) (by omega) 0 (ok:=fun _=>True) (okp:=fun _=>True) rfl (fun _ hk=>hk) trivial (zqo) (Nat.le_trans (Nat.mul_le_mul_right _ (zqo:(l0.length:Int).toNat≤35184372088832)) (by omega)) (Below.refl _ _) (Nat.le_refl _) ?_;intro b4 i4 b3 hb hg_ hnew_;clear hg_ hnew_;(first|rw [← f1.out] at b3|(simp only [Int.reduceToNat] at b3;rw [← f1.out] at b3));replace HO_3:=zqm (Kd.S_elder' (zqfS HO_3.out) (Kd.R_base b3) hb);have c4:=zqm (Kd.R_lower b3 (below_size zq2));replace HB:=zqm (below_step zq2 hb);clear hb b3;have i0:0≤(a0:Int):=zqo;have i2:(a0:Int)<((a3.length:Int):Int):=zqo;obtain⟨a8,e0,g8,h0,j9,o0,g4⟩:=Kd.S_form HO_3.out (by omega);(first|cases g8|(injection g8 with ea_ en_ ec_;(first|subst ea_|(injection ea_ with ea_;subst ea_));subst ec_;clear en_));have GB11:=zqm h0;have GG11:=zqm g4;clear h0 j9 g4;obtain⟨_,n7,hcl11,hM11,g0,hfr11,_,_⟩:=Kd.S_elem HO_3.out [] (a0:Int) i0 i2;obtain⟨l7,rfl,l3⟩:=hM11;have h7:=g0 0 _ rfl;have h4:=hfr11 0;(try simp only [show ((Kd.slice 3 (Kd.int .i64))).sz=1 from rfl,Nat.mul_one,Nat.add_zero] at h7);(try simp only [show ((Kd.slice 3 (Kd.int .i64))).sz=1 from rfl,Nat.mul_one,Nat.add_zero] at h4);clear hcl11 g0 hfr11;replace i0:=eq_true i0;replace i2:=eq_true i2;have n_:=zqm (Kd.S_mono (ok':=(fun k_=>some k_≠(b4:Value).ownBlock)) HO_3.out (fun k_ hk=>hk.2));clear HO_3;have HO_3:=n_;clear n_;have HX14:=zqm (show Kd.S (Kd.slice 3 (Kd.int .i64)) 24 i4 w.heap.size (fun k_=>((fun _=>True)) k_∧ ¬((fun k_=>some k_=(b4:Value).ownBlock)) k_) (.slice (some ⟨a8,0,none⟩) a3.length e0) a3 from zq159);obtain⟨oki14,n8,hcl14,hM14,g1,hfr14,hoki14,hH14⟩:=Kd.S_elem HX14.out [] (a0:Int) (zqo) (by have h_:(a0:Int)<((a3.length:Int):Int):=zqo;first|exact h_|(have e_:=(Kd.S_reads' HO_3.out).1;omega)|simpa using h_);obtain⟨l8,rfl,l4⟩:=hM14;have HP14:=Kd.S_seg hH14 (zqo) (by have h_:(a0:Int)<((a3.length:Int):Int):=zqo;first|exact h_|(have e_:=(Kd.S_reads' HO_3.out).1;omega)|simpa using h_) (seg:= [b4]) (j:=0) (show 1≤1 from by decide) (x':=e5) (Kd.M_row (Kd.R_mono (Kd.R_tight rfl (Kd.R_mono (ok':=fun k_=>((fun _=>True)) k_∧k_≠a8) (Kd.R_apart' (c4.out) (Kd.S_typed HO_3.out) (by decide)) (fun k_ hk=>⟨trivial,fun e_=>(hk.2) (by rw [e_];rfl)⟩))) (fun _ h_=>Or.inr (h_)))) (fun _ hk=>hk) (fun k_ hk_=>((Kd.R_mono (ok':=fun k_=>((fun _=>True)) k_∧k_≠a8) (Kd.R_apart' (c4.out) (Kd.S_typed HO_3.out) (by decide)) (fun k_ hk=>⟨trivial,fun e_=>(hk.2) (by rw [e_];rfl)⟩))).1 k_ hk_.symm);have h8:=g1 0 _ rfl;(try simp only [show ((Kd.slice 3 (Kd.int .i64))).sz=1 from rfl,Nat.mul_one,Nat.add_zero] at h8);have h5:=hfr14 0;(try simp only [show ((Kd.slice 3 (Kd.int .i64))).sz=1 from rfl,Nat.mul_one,Nat.add_zero] at h5);clear hcl14 g1 hfr14 hoki14 hH14;(try simp only [show ((Kd.slice 3 (Kd.int .i64))).sz=1 from rfl,Nat.mul_one,Nat.add_zero] at HP14))|((with_reducible refine gate_store (t:=24) (p:=19) rfl ?_);refine store_event (t:=24) (p:=19) (v:=?vo_w15) (w1:=(i4.setCell ⟨a8,(a0:Int).toNat,none⟩ (b4))) ?hg ?ho ?hn ?hr ?_;(case ho=>rfl);(case hg=>rfl);(case hn=>rfl);(case hr=>first|(go_simp;done)|(go_simp;rfl)|(obtain⟨a_,c_,e_⟩:=Kd.R_slice (Aside0.out ‹Aside0 (Kd.R _ _ _ _ _ b4 _)›);rw [e_];first|(go_simp;done)|(go_simp;rfl)));intro i5 hw;have hg:i4.grownBy i5 (some a8):=(by rw [hw];exact HP14.2);have hp_:Kd.S (Kd.slice 3 (Kd.int .i64)) 24 i5 w.heap.size (fun _=>True) (.slice (some ⟨a8,0,none⟩) a3.length e0) e6:=(by rw [hw,i9.out];exact HP14.1);clear HP14;replace HO_3:=zqm (hp_);replace HB:=zqm ((by rw [hw];exact below_set (HB.out) GB11.out:Below w.heap.size w i5));clear c4;clear hg hw hp_))
          go_loopg [22] k1 (fun kq l6 w'=> ∃(a2:List (List Int)) (a1:Int),l6= .int .i64 a1∧Aside0 (impl_turned.l1 kq l0 a2 a0 (l0.length:Int) a0 (l0.length:Int) a1=some r)∧Aside0 (kq≤k1)∧Aside0 (Kd.S (Kd.slice 3 (Kd.int .i64)) 24 w' w.heap.size (fun _=>True) (.slice (some ⟨a8,0,none⟩) a3.length e0) a2)∧Aside0 (Below w.heap.size w w'))
          case atStart=>exact⟨(e6),(0),zq6,H',⟨Nat.le_refl _⟩,⟨zqfS HO_3.out⟩,⟨zq2⟩⟩
          case round=>
           clear H';obtain⟨a2,a1,rfl,HA,e9,HO_3,HB⟩:=hrel;have a9:=(Kd.S_reads' HO_3.out).1;rw [a9] at HO_3;(try simp only [a9])
           cases gk with
           |zero=>exact absurd HA.out (by simp [impl_turned.l1])
           |succ k2=>
            have H:=HA.out;clear HA;simp only [impl_turned.l1] at H
            by_cases b6:a1<(l0.length:Int)
            ·rw [if_pos b6] at H;have j4:decide (a1<(l0.length:Int))=true:=decide_eq_true b6;clear b6
             by_cases f4:0≤a0
             ·rw [if_pos f4] at H;have m1:decide (0≤a0)=true:=decide_eq_true f4;clear f4
              by_cases f5:a0<(a2.length:Int)
              ·rw [if_pos f5] at H;have m2:decide (a0<(a2.length:Int))=true:=decide_eq_true f5;clear f5
               by_cases f6:0≤a1
               ·rw [if_pos f6] at H;have m3:decide (0≤a1)=true:=decide_eq_true f6;clear f6
                by_cases f7:a1<(l0.length:Int)
                ·rw [if_pos f7] at H;have m4:decide (a1<(l0.length:Int))=true:=decide_eq_true f7;clear f7
                 by_cases f8:a0<((rd_L2 l0 a1).length:Int)
                 ·rw [if_pos f8] at H;have m5:decide (a0<((rd_L2 l0 a1).length:Int))=true:=decide_eq_true f8;clear f8
                  by_cases f9:a1<((rd_L2 a2 a0).length:Int)
                  ·rw [if_pos f9] at H;have m6:decide (a1<((rd_L2 a2 a0).length:Int))=true:=decide_eq_true f9;clear f9;obtain⟨e7,d3⟩: ∃y_:List Int,y_=((rd_L2 a2 a0).set (a1:Int).toNat (rd (rd_L2 l0 a1) a0)):=⟨_,rfl⟩;replace H:(impl_turned.l1 k2 l0 (a2.set (a0:Int).toNat e7) a0 (l0.length:Int) a0 (l0.length:Int) (wrap64 (a1+1)))=some r:=zqy d3 H;have j0:=zqm d3;clear d3;obtain⟨i7,d4⟩: ∃y_:List (List Int),y_=(a2.set (a0:Int).toNat e7):=⟨_,rfl⟩;replace H:(impl_turned.l1 k2 l0 i7 a0 (l0.length:Int) a0 (l0.length:Int) (wrap64 (a1+1)))=some r:=zqy d4 H;have j1:=zqm d4;clear d4;have H':=zqm H;clear H;(try go_wp2);replace HO_3:=zqm (Kd.S_drew HO_3.out);replace HB:=zqm (below_drew1 HB.out);have d5:0≤(a0:Int):=zqo;have d6:a0<(a2.length:Int):=zqo;obtain⟨j2,k8,g6,j6,a4,b9,b7⟩:=at_L2 (Kd.S_reads' HO_3.out).2.2 a0 d5 d6;obtain rfl:(⟨a8,0,none⟩:Addr)=j2:=(by injection j6);obtain⟨m7,h3,h2,d7⟩:=Kd.S_get HO_3.out [] a0 d5 (by first|exact d6|exact zqo|(have e_:=(Kd.S_reads' HO_3.out).1;omega));obtain⟨k7,rfl,b2⟩:=h2;have a5:=d7 0 _ rfl;rw [Nat.add_zero,show ((Kd.slice 3 (Kd.int .i64))).sz=1 from rfl,Nat.mul_one] at a5;replace a5:=Option.some.inj (a5.symm.trans a4);rw [a5] at b2;have b1:=zqm (show Kd.R (Kd.int .i64) 3 _ _ _ _ (rd_L2 a2 a0) from b2);clear a5 b2;have HX416_0:=zqm a4;clear d7 h3;(first|simp only [add_plain] at a4|simp only [add_at] at a4|simp only [Addr.add,Nat.zero_add] at a4|skip);have g3:=zqm b7;have k5:=zqm b9;clear b7 b9;replace d5:=eq_true d5;replace d6:=eq_true d6;have e1:0≤(a1:Int):=zqo;have e3:a1<(l0.length:Int):=zqo;obtain⟨j3,k9,g7,j7,a6,c1,b8⟩:=at_L2 l2.out a1 e1 e3;have hw417_0:=a6
                   cases j7
                   replace a6:=(HB.out.cell (World.block_lt_of_cell? w _ a6)).trans a6;have b5:=zqm b8;have k6:=zqm c1;clear b8 c1;replace e1:=eq_true e1;replace e3:=eq_true e3;have e2:0≤(a0:Int):=zqo;have e4:a0<((rd_L2 l0 a1).length:Int):=zqo;obtain⟨f2,j8,a7⟩:=Kd.at_int b5.out a0 e2 e4;have hw418_0:=a7
                   cases j8
                   replace a7:=(HB.out.cell (World.block_lt_of_cell? w _ a7)).trans a7;replace e2:=eq_true e2;replace e4:=eq_true e4;have i1:0≤(a1:Int):=zqo;have i3:(a1:Int)<(((rd_L2 a2 a0).length:Int):Int):=zqo;obtain⟨k3,o2,g9,h1,k0,o1,g5⟩:=Kd.R_form b1.out (by omega);(first|cases g9|(injection g9 with ea_ en_ ec_;(first|subst ea_|(injection ea_ with ea_;subst ea_));subst ec_;clear en_));have GB23:=zqm h1;have GG23:=zqm g5;clear h1 k0 g5;obtain⟨h9,h6⟩:=Kd.R_celln 0 b1.out (a1:Int) i1 i3;replace i1:=eq_true i1;replace i3:=eq_true i3;have hq25:(a0:Int)<(a2.length:Int):=(by have h_:(a0:Int)<((a2.length:Int):Int):=zqo;first|exact h_|(have e_:=(Kd.S_reads' HO_3.out).1;omega)|simpa only [List.length_set,List.length_set] using h_);obtain⟨oki25,n9,hcl25,hM25,g2,hok25,hbk25⟩:=Kd.S_borrow HO_3.out [] (a0:Int) (zqo) hq25;obtain⟨l9,rfl,b0⟩:=hM25;have c5:=g2 0 _ rfl;rw [Nat.add_zero,show ((Kd.slice 3 (Kd.int .i64))).sz=1 from rfl,Nat.mul_one] at c5;replace c5:=Option.some.inj (c5.symm.trans HX416_0.out);subst c5;clear g2 hcl25;replace b0:=(show Kd.R (Kd.int .i64) 3 _ _ _ _ (rd_L2 a2 a0) from b0);have HP25:=Kd.R_putg b0 (a1:Int) (rd (rd_L2 l0 a1) a0);rw [← j0.out] at HP25;have d9:=hbk25 HP25.2 (fun k_ e_=>by injection e_ with e_;subst e_;exact b0.1 _ rfl) (x':=e7) (Kd.M_row HP25.1);rw [← j1.out] at d9;have HQ25:=zqm d9;clear HP25 d9 hbk25 hok25;refine start_ (n:=14) (S:=fun w'=>w'.cell? ⟨a8,(a0).toNat,none⟩=some (.slice (some ⟨k3,0,none⟩) (rd_L2 a2 a0).length g6)∧w'.cell? (j3.add (a1).toNat)=some (.slice (some f2) (rd_L2 l0 a1).length g7)∧w'.cell? (f2.add (a0).toNat)=some (.int .i64 (rd (rd_L2 l0 a1) a0))) (ds:= [13]) (zqb 14 0) zqk rfl rfl ⟨a4,((HB.out.cell (World.block_lt_of_cell? w _ hw417_0)).trans hw417_0),((HB.out.cell (World.block_lt_of_cell? w _ hw418_0)).trans hw418_0)⟩ (fun hHeld=>?_);refine with_tabW impl_turned.tab9 impl_turned.bits9 (fun HT_ HW_=>?_);generalize wr.drew=o4 at HO_3 HB GG23 b1 HQ25 g3 b5 HX416_0 h6 h9 a4 a6 a7 hHeld ⊢;refine zqp 0 25 (zqb 14 1) HT_ ?_;refine zqp 1 26 (zqb 14 3) HT_ ?_;refine zqp 2 27 (zqb 14 7) HT_ ?_;refine zqp 4 29 (zqb 14 23) HT_ ?_;refine zqp 5 30 (zqb 14 55) HT_ ?_;refine zqp 6 31 (zqb 14 119) HT_ ?_;refine zqp 7 32 (zqb 14 247) HT_ ?_;refine zqp 9 34 (zqb 14 759) HT_ ?_;refine zqw 3 28 (zqb 14 767) HT_ HW_ hHeld ?_;refine zqw 8 33 (zqb 14 1023) HT_ HW_ hHeld ?_;refine zqp 10 35 (zqb 14 2047) HT_ ?_;refine zqw 11 36 (zqb 14 4095) HT_ HW_ hHeld ?_;refine zqp 12 37 (zqb 14 8191) HT_ ?_;refine last_ (i:=13) (N:=none) (zqb 14 16383) rfl rfl (one_of HT_.out zqk) (by decide) (fun K hK=>?_);refine skip_ (w1:=?_) (by rfl) rfl ?_ ?_;rotate_left
                   ·go_simp;rfl
                   refine hK.out _ _ ?_;clear hK K;refine done_ (done_of HT_.out zqk) ?_;(try go_wp2);(try simp only [← a9])
                   go_roundg k2
                   (case measure=> exact zq176);case rel=>exact⟨(i7),(wrap64 (a1+1)),zq6,H',⟨zq176⟩,⟨by(try simp only [a9]);refine zqfS ?_;exact HQ25.out⟩,⟨by repeat(first|(with_reducible first|exact HB.out|apply below_alloc|apply pw_below_drewN|apply below_drew1|refine below_set ?_ GB23.out)|exact HB.out)⟩⟩
                  ·rw [if_neg f9] at H;exact absurd H (by simp)
                 ·rw [if_neg f8] at H;exact absurd H (by simp)
                ·rw [if_neg f7] at H;exact absurd H (by simp)
               ·rw [if_neg f6] at H;exact absurd H (by simp)
              ·rw [if_neg f5] at H;exact absurd H (by simp)
             ·rw [if_neg f4] at H;exact absurd H (by simp)
            ·rw [if_neg b6] at H;have j4:decide (a1<(l0.length:Int))=false:=decide_eq_false b6;clear b6;have H':=zqm H;clear H
             go_wp2
             (try simp only [← a9])
             go_roundg k2
             (case measure=> exact zq176);case rel=>exact⟨(a2),(wrap64 (a0+1)),zq6,H',⟨zq176⟩,⟨by(try simp only [a9]);refine zqfS ?_;exact HO_3.out⟩,⟨zq2⟩⟩
         ·rw [if_neg f3] at H;exact absurd H (by simp)
        ·rw [if_neg c9] at H;exact absurd H (by simp)
       ·rw [if_neg c8] at H;exact absurd H (by simp)
      ·rw [if_neg c7] at H;exact absurd H (by simp)
     ·rw [if_neg c6] at H;have j5:decide (a0<(l0.length:Int))=false:=decide_eq_false c6;clear c6;obtain rfl:=Option.some.inj H
      go_wp2
      go_ret
      exact⟨_,zq17,zqfS HO_3.out,zq2⟩
  ·rw [if_neg c3] at H;exact absurd H (by simp)
 ·rw [if_neg c2] at H;exact absurd H (by simp)
end
section
attribute [local go_sem] max2_int min2_int max_two min_two max_three min_three max_four min_four
mutual
def impl_meet.l0 : Nat → List (List Int) → Int → Int → Int → Int → Option (Int)
 | 0, _, _, _, _, _ => none
 | k + 1, x0, x1, x2, x11, x12 => if x12 < x11 then (if 0 ≤ x12 then (if x12 < (x0.length : Int) then (if 0 ≤ x1 then (if x1 < ((rd_L2 x0 x12).length : Int) then (if (rd (rd_L2 x0 x12) x1) = 0 then (impl_meet.j1 k x0 x1 x2 x12 x11 x12 true) else (if 0 ≤ x2 then (if x2 < ((rd_L2 x0 x12).length : Int) then (impl_meet.j1 k x0 x1 x2 x12 x11 x12 ((rd (rd_L2 x0 x12) x2) == 0)) else (none)) else (none))) else (none)) else (none)) else (none)) else (none)) else (some (-1))
def impl_meet.j1 : Nat → List (List Int) → Int → Int → Int → Int → Int → Bool → Option (Int)
 | 0, _, _, _, _, _, _, _ => none
 | k + 1, x0, x1, x2, x7, x11, x12, x32 => if x32 = true then (impl_meet.l0 k x0 x1 x2 x11 (wrap64 (x12 + 1))) else (impl_meet.l1 k x0 x1 x2 x7 true x11 x12 (x0.length : Int) 0)
def impl_meet.l1 : Nat → List (List Int) → Int → Int → Int → Bool → Int → Int → Int → Int → Option (Int)
 | 0, _, _, _, _, _, _, _, _, _ => none
 | k + 1, x0, x1, x2, x7, x8, x11, x12, x34, x35 => if x35 < x34 then (if x8 = true then (if 0 ≤ x35 then (if x35 < (x0.length : Int) then (if 0 ≤ x1 then (if x1 < ((rd_L2 x0 x35).length : Int) then (if (rd (rd_L2 x0 x35) x1) = 0 then (impl_meet.l1 k x0 x1 x2 x7 true x11 x12 x34 (wrap64 (x35 + 1))) else (if 0 ≤ x2 then (if x2 < ((rd_L2 x0 x35).length : Int) then (if (rd (rd_L2 x0 x35) x2) = 0 then (impl_meet.l1 k x0 x1 x2 x7 true x11 x12 x34 (wrap64 (x35 + 1))) else (if 0 ≤ x7 then (if x7 < ((rd_L2 x0 x35).length : Int) then (impl_meet.l1 k x0 x1 x2 x7 ((rd (rd_L2 x0 x35) x7) == 1) x11 x12 x34 (wrap64 (x35 + 1))) else (none)) else (none))) else (none)) else (none))) else (none)) else (none)) else (none)) else (none)) else (impl_meet.l1 k x0 x1 x2 x7 false x11 x12 x34 (wrap64 (x35 + 1)))) else (if x8 = true then (some x7) else (impl_meet.l0 k x0 x1 x2 x11 (wrap64 (x12 + 1))))
end
def impl_meet.f (k : Nat) (l0 : List (List Int)) (a1 : Int) (a2 : Int) : Option (Int) := impl_meet.l0 k l0 a1 a2 (l0.length : Int) 0
set_option maxHeartbeats 8000000 in
set_option maxRecDepth 100000 in
theorem impl_meet.calls (k : Nat) (A0 : Option Addr) (c0 : Nat) (l0 : List (List Int)) (a1 : Int) (a2 : Int) (r : Int) (w : World) (hr0 : Kd.C (Kd.slice 3 (Kd.int .i64)) w A0 l0.length l0) (hc0 : l0.length ≤ c0) (h : impl_meet.f k l0 a1 a2 = some r) :
  Calls Try.prog 48 #[.slice A0 l0.length c0, .int .i64 a1, .int .i64 a2] w fun e w' => e = .returned (.int .i64 r) ∧ Drawn0 w w' := by
 have d3:=zqm hr0;have o7:=zqm hc0;clear hr0 hc0;have H:(impl_meet.l0 k l0 a1 a2 (l0.length:Int) 0)=some r:=h;clear h;have H':=zqm H;clear H
 go_enter Try.func48,Try.ntmps48
 go_wp2
 go_loopg [12] k (fun kq m9 w'=> ∃(a3:Int),m9= .int .i64 a3∧Aside0 (impl_meet.l0 kq l0 a1 a2 (l0.length:Int) a3=some r)∧Aside0 (kq≤k)∧Drawn0 w w')
 case atStart=>exact⟨(0),zq6,H',⟨Nat.le_refl _⟩,zq8⟩
 case round=>
  clear H';obtain⟨a3,rfl,HA,b0,⟨m1,rfl⟩⟩:=hrel
  cases gk with
  |zero=>exact absurd HA.out (by simp [impl_meet.l0])
  |succ k1=>
   have H:=HA.out;clear HA;simp only [impl_meet.l0] at H
   by_cases c4:a3<(l0.length:Int)
   ·rw [if_pos c4] at H;have l4:decide (a3<(l0.length:Int))=true:=decide_eq_true c4;clear c4;have j4:=zqm H;clear H
    go_upto_region 4 with (fail)
    go_cut [32] (fun n0 wc=> ∃(kq:Nat) (d8:Bool),n0= .bool d8∧Aside0 (impl_meet.j1 kq l0 a1 a2 a3 (l0.length:Int) a3 d8=some r)∧Aside0 (kq≤k1)∧Drawn0 w wc)
    case first=>
     have H:=j4.out;clear j4
     by_cases c6:0≤a3
     ·rw [if_pos c6] at H;have j7:decide (0≤a3)=true:=decide_eq_true c6;clear c6;(first|rw [j7]|(simp only [i64_w,i32_w];rw [j7])|skip)
      by_cases c7:a3<(l0.length:Int)
      ·rw [if_pos c7] at H;have o4:decide (a3<(l0.length:Int))=true:=decide_eq_true c7;clear c7
       by_cases c8:0≤a1
       ·rw [if_pos c8] at H;have o5:decide (0≤a1)=true:=decide_eq_true c8;clear c8
        by_cases c9:a1<((rd_L2 l0 a3).length:Int)
        ·rw [if_pos c9] at H;have o6:decide (a1<((rd_L2 l0 a3).length:Int))=true:=decide_eq_true c9;clear c9
         by_cases d9:(rd (rd_L2 l0 a3) a1)=0
         ·rw [if_pos d9] at H;have k5:((rd (rd_L2 l0 a3) a1)==0)=true:=beq_iff_eq.mpr d9;have k6:((rd (rd_L2 l0 a3) a1) !=0)=false:=bne_eq_false_iff_eq.mpr d9;clear d9;have H':=zqm H;clear H;have b9:0≤(a3:Int):=zqo;have c5:a3<(l0.length:Int):=zqo;obtain⟨g8,j2,j5,f6,f1,b4,b2⟩:=at_L2 d3.out a3 b9 c5
          cases f6
          have d5:=zqm b2;have i3:=zqm b4;clear b2 b4;replace b9:=eq_true b9;replace c5:=eq_true c5;have c1:0≤(a1:Int):=zqo;have d0:a1<((rd_L2 l0 a3).length:Int):=zqo;obtain⟨j9,f7,i7⟩:=Kd.at_int d5.out a1 c1 d0
          cases f7
          replace c1:=eq_true c1;replace d0:=eq_true d0
          go_wp2
          go_meet
          case rel=>exact⟨_,(true),zq6,H',⟨by have:=b0.out;first|omega|exact Nat.le_refl _⟩,zq8⟩
         ·rw [if_neg d9] at H;have k5:((rd (rd_L2 l0 a3) a1)==0)=false:=beq_eq_false_iff_ne.mpr d9;have k6:((rd (rd_L2 l0 a3) a1) !=0)=true:=bne_iff_ne.mpr d9
          by_cases h0:0≤a2
          ·rw [if_pos h0] at H;have n4:decide (0≤a2)=true:=decide_eq_true h0;clear h0
           by_cases h1:a2<((rd_L2 l0 a3).length:Int)
           ·rw [if_pos h1] at H;have n5:decide (a2<((rd_L2 l0 a3).length:Int))=true:=decide_eq_true h1;clear h1;have H':=zqm H;clear H;have b9:0≤(a3:Int):=zqo;have c5:a3<(l0.length:Int):=zqo;obtain⟨g8,j2,j5,f6,f1,b4,b2⟩:=at_L2 d3.out a3 b9 c5
            cases f6
            have d5:=zqm b2;have i3:=zqm b4;clear b2 b4;replace b9:=eq_true b9;replace c5:=eq_true c5;have c1:0≤(a1:Int):=zqo;have d0:a1<((rd_L2 l0 a3).length:Int):=zqo;obtain⟨j9,f7,i7⟩:=Kd.at_int d5.out a1 c1 d0
            cases f7
            replace c1:=eq_true c1;replace d0:=eq_true d0;have g0:0≤(a3:Int):=zqo;have g4:a3<(l0.length:Int):=zqo;obtain⟨k0,m5,m7,l5,i8,e9,e7⟩:=at_L2 d3.out a3 g0 g4;obtain rfl:g8=k0:=(by injection l5);have i5:=zqm e7;have l9:=zqm e9;clear e7 e9;replace g0:=eq_true g0;replace g4:=eq_true g4;have ea_:=Option.some.inj (f1.symm.trans i8);injection ea_ with ea_ en_ ec_;subst ea_;subst ec_;clear en_;have g1:0≤(a2:Int):=zqo;have g5:a2<((rd_L2 l0 a3).length:Int):=zqo;obtain⟨n2,l6,m2⟩:=Kd.at_int i5.out a2 g1 g5
            cases l6
            replace g1:=eq_true g1;replace g5:=eq_true g5
            go_wp2
            go_meet
            case rel=>exact⟨_,(((rd (rd_L2 l0 a3) a2)==0)),zq6,H',⟨by have:=b0.out;first|omega|exact Nat.le_refl _⟩,zq8⟩
           ·rw [if_neg h1] at H;exact absurd H (by simp)
          ·rw [if_neg h0] at H;exact absurd H (by simp)
        ·rw [if_neg c9] at H;exact absurd H (by simp)
       ·rw [if_neg c8] at H;exact absurd H (by simp)
      ·rw [if_neg c7] at H;exact absurd H (by simp)
     ·rw [if_neg c6] at H;exact absurd H (by simp)
    case rest=>
     clear j4;obtain⟨kq,d8,rfl,HA,b7,⟨mc4,rfl⟩⟩:=hcut
     cases kq with
     |zero=>exact absurd HA.out (by simp [impl_meet.j1])
     |succ j8=>
      have H:=HA.out;clear HA;simp only [impl_meet.j1] at H
      by_cases h2:d8=true
      ·subst h2;rw [if_pos rfl] at H;have H':=zqm H;clear H
       go_wp2
       go_roundg j8
       (case measure=>have:=b0.out;have:=b7.out;omega);case rel=>exact⟨(wrap64 (a3+1)),zq6,H',⟨by have:=b0.out;have:=b7.out;omega⟩,zq8⟩
      ·replace h2:=Bool.eq_false_iff.mpr h2;subst h2;rw [if_neg (show¬(false=true) by decide)] at H;have H':=zqm H;clear H
       go_wp2
       go_loopg [8,35] j8 (fun kq v8 n1 w'=> ∃(e4:Bool) (a0:Int),v8= .bool e4∧n1= .int .i64 a0∧Aside0 (impl_meet.l1 kq l0 a1 a2 a3 e4 (l0.length:Int) a3 (l0.length:Int) a0=some r)∧Aside0 (kq≤j8)∧Drawn0 w w')
       case atStart=>exact⟨(true),(0),zq6,zq6,H',⟨Nat.le_refl _⟩,zq8⟩
       case round=>
        clear H';obtain⟨e4,a0,rfl,rfl,HA,b8,⟨m3,rfl⟩⟩:=hrel
        cases gk with
        |zero=>exact absurd HA.out (by simp [impl_meet.l1])
        |succ k3=>
         have H:=HA.out;clear HA;simp only [impl_meet.l1] at H
         by_cases e6:a0<(l0.length:Int)
         ·rw [if_pos e6] at H;have k7:decide (a0<(l0.length:Int))=true:=decide_eq_true e6;clear e6
          by_cases h3:e4=true
          ·subst h3;rw [if_pos rfl] at H
           by_cases h4:0≤a0
           ·rw [if_pos h4] at H;have n6:decide (0≤a0)=true:=decide_eq_true h4;clear h4
            by_cases h5:a0<(l0.length:Int)
            ·rw [if_pos h5] at H;have n7:decide (a0<(l0.length:Int))=true:=decide_eq_true h5;clear h5
             by_cases h6:0≤a1
             ·rw [if_pos h6] at H;have n8:decide (0≤a1)=true:=decide_eq_true h6;clear h6
              by_cases h7:a1<((rd_L2 l0 a0).length:Int)
              ·rw [if_pos h7] at H;have n9:decide (a1<((rd_L2 l0 a0).length:Int))=true:=decide_eq_true h7;clear h7
               by_cases e0:(rd (rd_L2 l0 a0) a1)=0
               ·rw [if_pos e0] at H;have k8:((rd (rd_L2 l0 a0) a1)==0)=true:=beq_iff_eq.mpr e0;have k9:((rd (rd_L2 l0 a0) a1) !=0)=false:=bne_eq_false_iff_eq.mpr e0;clear e0;have H':=zqm H;clear H;have a6:0≤(a0:Int):=zqo;have a8:a0<(l0.length:Int):=zqo;obtain⟨d4,f4,f5,e2,b6,a5,a4⟩:=at_L2 d3.out a0 a6 a8
                cases e2
                have b1:=zqm a4;have e5:=zqm a5;clear a4 a5;replace a6:=eq_true a6;replace a8:=eq_true a8;have a7:0≤(a1:Int):=zqo;have a9:a1<((rd_L2 l0 a0).length:Int):=zqo;obtain⟨g9,e3,f2⟩:=Kd.at_int b1.out a1 a7 a9
                cases e3
                replace a7:=eq_true a7;replace a9:=eq_true a9
                go_wp2
                go_roundg k3
                (case measure=> exact zq79);case rel=>exact⟨(true),(wrap64 (a0+1)),zq6,zq6,H',⟨zq79⟩,zq8⟩
               ·rw [if_neg e0] at H;have k8:((rd (rd_L2 l0 a0) a1)==0)=false:=beq_eq_false_iff_ne.mpr e0;have k9:((rd (rd_L2 l0 a0) a1) !=0)=true:=bne_iff_ne.mpr e0
                by_cases h8:0≤a2
                ·rw [if_pos h8] at H;have o0:decide (0≤a2)=true:=decide_eq_true h8;clear h8
                 by_cases h9:a2<((rd_L2 l0 a0).length:Int)
                 ·rw [if_pos h9] at H;have o1:decide (a2<((rd_L2 l0 a0).length:Int))=true:=decide_eq_true h9;clear h9
                  by_cases e1:(rd (rd_L2 l0 a0) a2)=0
                  ·rw [if_pos e1] at H;have l2:((rd (rd_L2 l0 a0) a2)==0)=true:=beq_iff_eq.mpr e1;have l3:((rd (rd_L2 l0 a0) a2) !=0)=false:=bne_eq_false_iff_eq.mpr e1;clear e1;have H':=zqm H;clear H;have a6:0≤(a0:Int):=zqo;have a8:a0<(l0.length:Int):=zqo;obtain⟨d4,f4,f5,e2,b6,a5,a4⟩:=at_L2 d3.out a0 a6 a8
                   cases e2
                   have b1:=zqm a4;have e5:=zqm a5;clear a4 a5;replace a6:=eq_true a6;replace a8:=eq_true a8;have a7:0≤(a1:Int):=zqo;have a9:a1<((rd_L2 l0 a0).length:Int):=zqo;obtain⟨g9,e3,f2⟩:=Kd.at_int b1.out a1 a7 a9
                   cases e3
                   replace a7:=eq_true a7;replace a9:=eq_true a9;have c2:0≤(a0:Int):=zqo;have d1:a0<(l0.length:Int):=zqo;obtain⟨f3,j3,j6,f8,d7,b5,b3⟩:=at_L2 d3.out a0 c2 d1;obtain rfl:d4=f3:=(by injection f8);have d6:=zqm b3;have i4:=zqm b5;clear b3 b5;replace c2:=eq_true c2;replace d1:=eq_true d1;have ea_:=Option.some.inj (b6.symm.trans d7);injection ea_ with ea_ en_ ec_;subst ea_;subst ec_;clear en_;have c3:0≤(a2:Int):=zqo;have d2:a2<((rd_L2 l0 a0).length:Int):=zqo;obtain⟨k2,f9,i9⟩:=Kd.at_int d6.out a2 c3 d2
                   cases f9
                   replace c3:=eq_true c3;replace d2:=eq_true d2
                   go_wp2
                   go_roundg k3
                   (case measure=> exact zq79);case rel=>exact⟨(true),(wrap64 (a0+1)),zq6,zq6,H',⟨zq79⟩,zq8⟩
                  ·rw [if_neg e1] at H;have l2:((rd (rd_L2 l0 a0) a2)==0)=false:=beq_eq_false_iff_ne.mpr e1;have l3:((rd (rd_L2 l0 a0) a2) !=0)=true:=bne_iff_ne.mpr e1
                   by_cases i0:0≤a3
                   ·rw [if_pos i0] at H;have o2:decide (0≤a3)=true:=decide_eq_true i0;clear i0
                    by_cases i1:a3<((rd_L2 l0 a0).length:Int)
                    ·rw [if_pos i1] at H;have o3:decide (a3<((rd_L2 l0 a0).length:Int))=true:=decide_eq_true i1;clear i1;have H':=zqm H;clear H;have a6:0≤(a0:Int):=zqo;have a8:a0<(l0.length:Int):=zqo;obtain⟨d4,f4,f5,e2,b6,a5,a4⟩:=at_L2 d3.out a0 a6 a8
                     cases e2
                     have b1:=zqm a4;have e5:=zqm a5;clear a4 a5;replace a6:=eq_true a6;replace a8:=eq_true a8;have a7:0≤(a1:Int):=zqo;have a9:a1<((rd_L2 l0 a0).length:Int):=zqo;obtain⟨g9,e3,f2⟩:=Kd.at_int b1.out a1 a7 a9
                     cases e3
                     replace a7:=eq_true a7;replace a9:=eq_true a9;have c2:0≤(a0:Int):=zqo;have d1:a0<(l0.length:Int):=zqo;obtain⟨f3,j3,j6,f8,d7,b5,b3⟩:=at_L2 d3.out a0 c2 d1;obtain rfl:d4=f3:=(by injection f8);have d6:=zqm b3;have i4:=zqm b5;clear b3 b5;replace c2:=eq_true c2;replace d1:=eq_true d1;have ea_:=Option.some.inj (b6.symm.trans d7);injection ea_ with ea_ en_ ec_;subst ea_;subst ec_;clear en_;have c3:0≤(a2:Int):=zqo;have d2:a2<((rd_L2 l0 a0).length:Int):=zqo;obtain⟨k2,f9,i9⟩:=Kd.at_int d6.out a2 c3 d2
                     cases f9
                     replace c3:=eq_true c3;replace d2:=eq_true d2;have g2:0≤(a0:Int):=zqo;have g6:a0<(l0.length:Int):=zqo;obtain⟨k4,m6,m8,l7,j0,f0,e8⟩:=at_L2 d3.out a0 g2 g6;obtain rfl:d4=k4:=(by injection l7);have i6:=zqm e8;have m0:=zqm f0;clear e8 f0;replace g2:=eq_true g2;replace g6:=eq_true g6;have ea_:=Option.some.inj (b6.symm.trans j0);injection ea_ with ea_ en_ ec_;subst ea_;subst ec_;clear en_;have g3:0≤(a3:Int):=zqo;have g7:a3<((rd_L2 l0 a0).length:Int):=zqo;obtain⟨n3,l8,m4⟩:=Kd.at_int i6.out a3 g3 g7
                     cases l8
                     replace g3:=eq_true g3;replace g7:=eq_true g7
                     go_wp2
                     go_roundg k3
                     (case measure=> exact zq79);case rel=>exact⟨(((rd (rd_L2 l0 a0) a3)==1)),(wrap64 (a0+1)),zq6,zq6,H',⟨zq79⟩,zq8⟩
                    ·rw [if_neg i1] at H;exact absurd H (by simp)
                   ·rw [if_neg i0] at H;exact absurd H (by simp)
                 ·rw [if_neg h9] at H;exact absurd H (by simp)
                ·rw [if_neg h8] at H;exact absurd H (by simp)
              ·rw [if_neg h7] at H;exact absurd H (by simp)
             ·rw [if_neg h6] at H;exact absurd H (by simp)
            ·rw [if_neg h5] at H;exact absurd H (by simp)
           ·rw [if_neg h4] at H;exact absurd H (by simp)
          ·replace h3:=Bool.eq_false_iff.mpr h3;subst h3;rw [if_neg (show¬(false=true) by decide)] at H;have H':=zqm H;clear H
           go_wp2
           go_roundg k3
           (case measure=> exact zq79);case rel=>exact⟨(false),(wrap64 (a0+1)),zq6,zq6,H',⟨zq79⟩,zq8⟩
         ·rw [if_neg e6] at H;have k7:decide (a0<(l0.length:Int))=false:=decide_eq_false e6;clear e6
          by_cases i2:e4=true
          ·subst i2;rw [if_pos rfl] at H;obtain rfl:=Option.some.inj H
           go_wp2
           go_ret
           exact⟨zq6,zq8⟩
          ·replace i2:=Bool.eq_false_iff.mpr i2;subst i2;rw [if_neg (show¬(false=true) by decide)] at H;have H':=zqm H;clear H
           go_wp2
           go_roundg k3
           (case measure=> exact zq79);case rel=>exact⟨(wrap64 (a3+1)),zq6,H',⟨zq79⟩,zq8⟩
   ·rw [if_neg c4] at H;have l4:decide (a3<(l0.length:Int))=false:=decide_eq_false c4;clear c4;obtain rfl:=Option.some.inj H
    go_wp2
    go_ret
    exact⟨zq6,zq8⟩
end
section
attribute [local go_sem] max2_int min2_int max_two min_two max_three min_three max_four min_four
mutual
def impl_LatticeOk.l0 : Nat → List (List Int) → List (List Int) → Int → Int → Option (Bool)
 | 0, _, _, _, _ => none
 | k + 1, x0, x3, x12, x13 => if x13 < x12 then (impl_LatticeOk.l1 k x0 x3 x13 x12 x13 (x0.length : Int) 0) else (some true)
def impl_LatticeOk.l1 : Nat → List (List Int) → List (List Int) → Int → Int → Int → Int → Int → Option (Bool)
 | 0, _, _, _, _, _, _, _ => none
 | k + 1, x0, x3, x4, x12, x13, x17, x18 => if x18 < x17 then ((impl_meet.f k x0 x4 x18).bind fun t436 => (if t436 < 0 then (some false) else ((impl_meet.f k x3 x4 x18).bind fun t437 => (if t437 < 0 then (some false) else (impl_LatticeOk.l1 k x0 x3 x4 x12 x13 x17 (wrap64 (x18 + 1))))))) else (impl_LatticeOk.l0 k x0 x3 x12 (wrap64 (x13 + 1)))
end
def impl_LatticeOk.f (k : Nat) (l0 : List (List Int)) : Option (Bool) := (impl_OrderOk.f k l0).bind fun t432 => (if t432 = true then ((impl_turned.f k l0).bind fun t433 => (impl_LatticeOk.l0 k l0 t433 (l0.length : Int) 0)) else (some false))
set_option maxHeartbeats 8000000 in
set_option maxRecDepth 100000 in
theorem impl_LatticeOk.calls (k : Nat) (A0 : Option Addr) (c0 : Nat) (l0 : List (List Int)) (r : Bool) (w : World) (hr0 : Kd.C (Kd.slice 3 (Kd.int .i64)) w A0 l0.length l0) (hc0 : l0.length ≤ c0) (h : impl_LatticeOk.f k l0 = some r) :
  Calls Try.prog 46 #[.slice A0 l0.length c0] w fun e w' => e = .returned (.bool r) ∧ Below w.heap.size w w' := by
 have a6:=zqm hr0;have a5:=zqm hc0;clear hr0 hc0;have HB:=zqm (Below.refl w.heap.size w);have H:((impl_OrderOk.f k l0).bind fun a8=>(if a8=true then((impl_turned.f k l0).bind fun a2=>(impl_LatticeOk.l0 k l0 a2 (l0.length:Int) 0)) else(some false)))=some r:=h;clear h;replace H:=Option.bind_eq_some_iff.mp H;obtain⟨a8,b6,H⟩:=H;(try dsimp only at H);have A2:=zqm b6;clear b6
 by_cases c3:a8=true
 ·subst c3;rw [if_pos rfl] at H;replace H:=Option.bind_eq_some_iff.mp H;obtain⟨a2,b7,H⟩:=H;(try dsimp only at H);have A4:=zqm b7;clear b7;have H':=zqm H;clear H
  go_enter Try.func46,Try.ntmps46
  go_wp2_with (first|((with_reducible refine gate_callee (f:=23) rfl ?_);refine goesL_ (some 7) rfl rfl Try.func23 zqk rfl #[.slice A0 l0.length c0] rfl zq5 ?_;(with_reducible refine(impl_OrderOk.calls k _ _ l0 true _ ?side1 ?side2 A2.out).mono ?_);(case side1=> exact zq81);(case side2=>exact a5.out);rintro e w' ⟨rfl,⟨nd,rfl⟩⟩;refine⟨_,rfl,?_⟩)|((with_reducible refine gate_callee (f:=47) rfl ?_);refine goesL_ (some 10) rfl rfl Try.func47 zqk rfl #[.slice A0 l0.length c0] rfl zq5 ?_;(with_reducible refine(impl_turned.calls k _ _ l0 a2 _ ?side1 ?side2 A4.out).mono ?_);(case side1=> exact zq81);(case side2=>exact a5.out);rintro e w5 ⟨b2,rfl,b9,hb⟩;refine⟨_,rfl,?_⟩;have b3:=zqm (Kd.S_lower b9 (below_size zq2));replace HB:=zqm (below_step zq2 hb);clear hb b9))
  go_loopg [13] k (fun kq d0 w'=> ∃(a0:Int),d0= .int .i64 a0∧Aside0 (impl_LatticeOk.l0 kq l0 a2 (l0.length:Int) a0=some r)∧Aside0 (kq≤k)∧Aside0 (Kd.S (Kd.slice 3 (Kd.int .i64)) 24 w' w.heap.size (fun _=>True) b2 a2)∧Aside0 (Below w.heap.size w w'))
  case atStart=>exact⟨(0),zq6,H',⟨Nat.le_refl _⟩,⟨zqfS b3.out⟩,⟨zq2⟩⟩
  case round=>
   clear H';obtain⟨a0,rfl,HA,a9,HO_3,HB⟩:=hrel
   cases gk with
   |zero=>exact absurd HA.out (by simp [impl_LatticeOk.l0])
   |succ k1=>
    have H:=HA.out;clear HA;simp only [impl_LatticeOk.l0] at H
    by_cases c6:a0<(l0.length:Int)
    ·rw [if_pos c6] at H;have c1:decide (a0<(l0.length:Int))=true:=decide_eq_true c6;clear c6;have H':=zqm H;clear H
     go_wp2
     go_loopg [18] k1 (fun kq d1 w'=> ∃(a1:Int),d1= .int .i64 a1∧Aside0 (impl_LatticeOk.l1 kq l0 a2 a0 (l0.length:Int) a0 (l0.length:Int) a1=some r)∧Aside0 (kq≤k1)∧Aside0 (Kd.S (Kd.slice 3 (Kd.int .i64)) 24 w' w.heap.size (fun _=>True) b2 a2)∧Aside0 (Below w.heap.size w w'))
     case atStart=>exact⟨(0),zq6,H',⟨Nat.le_refl _⟩,⟨zqfS HO_3.out⟩,⟨zq2⟩⟩
     case round=>
      clear H';obtain⟨a1,rfl,HA,b0,HO_3,HB⟩:=hrel
      cases gk with
      |zero=>exact absurd HA.out (by simp [impl_LatticeOk.l1])
      |succ k2=>
       have H:=HA.out;clear HA;simp only [impl_LatticeOk.l1] at H
       by_cases c7:a1<(l0.length:Int)
       ·rw [if_pos c7] at H;have c2:decide (a1<(l0.length:Int))=true:=decide_eq_true c7;clear c7;replace H:=Option.bind_eq_some_iff.mp H;obtain⟨a3,b8,H⟩:=H;(try dsimp only at H);have A8:=zqm b8;clear b8
        by_cases c9:a3<0
        ·rw [if_pos c9] at H;have c4:decide (a3<0)=true:=decide_eq_true c9;clear c9;obtain rfl:=Option.some.inj H
         go_wp2_with (first|((with_reducible refine gate_callee (f:=48) rfl ?_);refine goesL_ (some 24) rfl rfl Try.func48 zqk rfl #[.slice A0 l0.length c0,.int .i64 a0,.int .i64 a1] rfl zq5 ?_;(with_reducible refine(impl_meet.calls k2 _ _ l0 a0 a1 a3 _ ?side1 ?side2 A8.out).mono ?_);(case side1=> exact zq21);(case side2=>exact a5.out);rintro e w' ⟨rfl,⟨nd,rfl⟩⟩;refine⟨_,rfl,?_⟩))
         go_ret
         exact⟨zq17,zq2⟩
        ·rw [if_neg c9] at H;have c4:decide (a3<0)=false:=decide_eq_false c9;clear c9;replace H:=Option.bind_eq_some_iff.mp H;obtain⟨a4,b1,H⟩:=H;(try dsimp only at H);have b5:=zqm b1;clear b1
         by_cases a7:a4<0
         ·rw [if_pos a7] at H;have b4:decide (a4<0)=true:=decide_eq_true a7;clear a7;obtain rfl:=Option.some.inj H
          go_wp2_with (first|((with_reducible refine gate_callee (f:=48) rfl ?_);refine goesL_ (some 24) rfl rfl Try.func48 zqk rfl #[.slice A0 l0.length c0,.int .i64 a0,.int .i64 a1] rfl zq5 ?_;(with_reducible refine(impl_meet.calls k2 _ _ l0 a0 a1 a3 _ ?side1 ?side2 A8.out).mono ?_);(case side1=> exact zq21);(case side2=>exact a5.out);rintro e w' ⟨rfl,⟨nd,rfl⟩⟩;refine⟨_,rfl,?_⟩;obtain⟨d2,d4,c5⟩:=Kd.S_slice HO_3.out;subst c5)|(go_at_call 48;(with_reducible refine(impl_meet.calls k2 _ _ a2 a0 a1 a4 _ ?side1 ?side2 b5.out).mono ?_);(case side1=> exact zq104);(case side2=>exact(Kd.S_reads' HO_3.out).2.1);rintro e w' ⟨rfl,⟨nd,rfl⟩⟩))
          go_ret
          exact⟨zq17,zq2⟩
         ·rw [if_neg a7] at H;have b4:decide (a4<0)=false:=decide_eq_false a7;clear a7;have H':=zqm H;clear H
          go_wp2_with (first|((with_reducible refine gate_callee (f:=48) rfl ?_);refine goesL_ (some 24) rfl rfl Try.func48 zqk rfl #[.slice A0 l0.length c0,.int .i64 a0,.int .i64 a1] rfl zq5 ?_;(with_reducible refine(impl_meet.calls k2 _ _ l0 a0 a1 a3 _ ?side1 ?side2 A8.out).mono ?_);(case side1=> exact zq21);(case side2=>exact a5.out);rintro e w' ⟨rfl,⟨nd,rfl⟩⟩;refine⟨_,rfl,?_⟩;obtain⟨d3,d5,c8⟩:=Kd.S_slice HO_3.out;subst c8)|(go_at_call 48;(with_reducible refine(impl_meet.calls k2 _ _ a2 a0 a1 a4 _ ?side1 ?side2 b5.out).mono ?_);(case side1=> exact zq104);(case side2=>exact(Kd.S_reads' HO_3.out).2.1);rintro e w' ⟨rfl,⟨nd,rfl⟩⟩))
          go_roundg k2
          (case measure=> exact zq175);case rel=>exact⟨(wrap64 (a1+1)),zq6,H',⟨zq175⟩,⟨zqfS HO_3.out⟩,⟨zq2⟩⟩
       ·rw [if_neg c7] at H;have c2:decide (a1<(l0.length:Int))=false:=decide_eq_false c7;clear c7;have H':=zqm H;clear H
        go_wp2
        go_roundg k2
        (case measure=> exact zq175);case rel=>exact⟨(wrap64 (a0+1)),zq6,H',⟨zq175⟩,⟨zqfS HO_3.out⟩,⟨zq2⟩⟩
    ·rw [if_neg c6] at H;have c1:decide (a0<(l0.length:Int))=false:=decide_eq_false c6;clear c6;obtain rfl:=Option.some.inj H
     go_wp2
     go_ret
     exact⟨zq17,zq2⟩
 ·replace c3:=Bool.eq_false_iff.mpr c3;subst c3;rw [if_neg (show¬(false=true) by decide)] at H;obtain rfl:=Option.some.inj H
  go_enter Try.func46,Try.ntmps46
  go_wp2_with (first|((with_reducible refine gate_callee (f:=23) rfl ?_);refine goesL_ (some 7) rfl rfl Try.func23 zqk rfl #[.slice A0 l0.length c0] rfl zq5 ?_;(with_reducible refine(impl_OrderOk.calls k _ _ l0 false _ ?side1 ?side2 A2.out).mono ?_);(case side1=> exact zq81);(case side2=>exact a5.out);rintro e w' ⟨rfl,⟨nd,rfl⟩⟩;refine⟨_,rfl,?_⟩))
  go_ret
  exact⟨zq17,zq2⟩
end
section
attribute [local go_sem] max2_int min2_int max_two min_two max_three min_three max_four min_four
mutual
def impl_LeastOf.l0 : Nat → List (List Int) → Int → Int → Option (Int × Bool)
 | 0, _, _, _ => none
 | k + 1, x12, x13, x14 => if x14 < x13 then (if 0 ≤ x14 then (if x14 < (x12.length : Int) then (impl_LeastOf.l1 k x14 true x12 x13 x14 (rd_L2 x12 x14) ((rd_L2 x12 x14).length : Int) 0) else (none)) else (none)) else (some ((-1), false))
def impl_LeastOf.l1 : Nat → Int → Bool → List (List Int) → Int → Int → List Int → Int → Int → Option (Int × Bool)
 | 0, _, _, _, _, _, _, _, _ => none
 | k + 1, x4, x6, x12, x13, x14, x19, x20, x21 => if x21 < x20 then (if 0 ≤ x21 then (if x21 < (x19.length : Int) then (if x6 = true then (impl_LeastOf.l1 k x4 ((rd x19 x21) == 1) x12 x13 x14 x19 x20 (wrap64 (x21 + 1))) else (impl_LeastOf.l1 k x4 false x12 x13 x14 x19 x20 (wrap64 (x21 + 1)))) else (none)) else (none)) else (if x6 = true then (some (x4, true)) else (impl_LeastOf.l0 k x12 x13 (wrap64 (x14 + 1))))
end
def impl_LeastOf.f (k : Nat) (l0 : List (List Int)) : Option (Int × Bool) := (impl_OrderOk.f k l0).bind fun t438 => (if t438 = true then (impl_LeastOf.l0 k l0 (l0.length : Int) 0) else (some ((-1), false)))
set_option maxHeartbeats 8000000 in
set_option maxRecDepth 100000 in
theorem impl_LeastOf.calls (k : Nat) (A0 : Option Addr) (c0 : Nat) (l0 : List (List Int)) (r1 : Int) (r2 : Bool) (w : World) (hr0 : Kd.C (Kd.slice 3 (Kd.int .i64)) w A0 l0.length l0) (hc0 : l0.length ≤ c0) (h : impl_LeastOf.f k l0 = some (r1, r2)) :
  Calls Try.prog 49 #[.slice A0 l0.length c0] w fun e w' => e = .returned (.tuple #[.int .i64 r1, .bool r2]) ∧ Drawn0 w w' := by
 have b7:=zqm hr0;have c1:=zqm hc0;clear hr0 hc0;have H:((impl_OrderOk.f k l0).bind fun b0=>(if b0=true then(impl_LeastOf.l0 k l0 (l0.length:Int) 0) else(some ((-1),false))))=some (r1,r2):=h;clear h;replace H:=Option.bind_eq_some_iff.mp H;obtain⟨b0,b9,H⟩:=H;replace H:(if b0=true then(impl_LeastOf.l0 k l0 (l0.length:Int) 0) else(some ((-1),false)))=some (r1,r2):=H;have A2:=zqm b9;clear b9
 by_cases c3:b0=true
 ·subst c3;(have H1:(impl_LeastOf.l0 k l0 (l0.length:Int) 0)=some (r1,r2):=by rw [if_pos rfl] at H;exact H);clear H;have H:=H1;clear H1;have H':=zqm H;clear H
  go_enter Try.func49,Try.ntmps49
  go_wp2_with (first|((with_reducible refine gate_callee (f:=23) rfl ?_);refine goesL_ (some 10) rfl rfl Try.func23 zqk rfl #[.slice A0 l0.length c0] rfl zq5 ?_;(with_reducible refine(impl_OrderOk.calls k _ _ l0 true _ ?side1 ?side2 A2.out).mono ?_);(case side1=> exact zq113);(case side2=>exact c1.out);rintro e w' ⟨rfl,⟨nd,rfl⟩⟩;refine⟨_,rfl,?_⟩))
  go_loopg [14] k (fun kq d6 w'=> ∃(a0:Int),d6= .int .i64 a0∧Aside0 (impl_LeastOf.l0 kq l0 (l0.length:Int) a0=some (r1,r2))∧Aside0 (kq≤k)∧Drawn0 w w')
  case atStart=>exact⟨(0),zq6,H',⟨Nat.le_refl _⟩,zq8⟩
  case round=>
   clear H';obtain⟨a0,rfl,HA,a5,⟨m1,rfl⟩⟩:=hrel
   cases gk with
   |zero=>exact absurd HA.out (by simp [impl_LeastOf.l0])
   |succ k1=>
    have H:=HA.out;clear HA;simp only [impl_LeastOf.l0] at H
    by_cases c4:a0<(l0.length:Int)
    ·rw [if_pos c4] at H;have c2:decide (a0<(l0.length:Int))=true:=decide_eq_true c4;clear c4
     by_cases c5:0≤a0
     ·rw [if_pos c5] at H;have d9:decide (0≤a0)=true:=decide_eq_true c5;clear c5
      by_cases c6:a0<(l0.length:Int)
      ·rw [if_pos c6] at H;have e0:decide (a0<(l0.length:Int))=true:=decide_eq_true c6;clear c6;have H':=zqm H;clear H;have b2:0≤(a0:Int):=zqo;have b3:a0<(l0.length:Int):=zqo;obtain⟨d8,d4,d5,d1,d3,a9,a8⟩:=at_L2 b7.out a0 b2 b3
       cases d1
       have a7:=zqm a8;have d2:=zqm a9;clear a8 a9;replace b2:=eq_true b2;replace b3:=eq_true b3
       go_wp2
       go_loopg [6,21] k1 (fun kq v6 d7 w'=> ∃(a4:Bool) (a1:Int),v6= .bool a4∧d7= .int .i64 a1∧Aside0 (impl_LeastOf.l1 kq a0 a4 l0 (l0.length:Int) a0 (rd_L2 l0 a0) ((rd_L2 l0 a0).length:Int) a1=some (r1,r2))∧Aside0 (kq≤k1)∧Drawn0 w w')
       case atStart=>exact⟨(true),(0),zq6,zq6,H',⟨Nat.le_refl _⟩,zq8⟩
       case round=>
        clear H';obtain⟨a4,a1,rfl,rfl,HA,a6,⟨m2,rfl⟩⟩:=hrel
        cases gk with
        |zero=>exact absurd HA.out (by simp [impl_LeastOf.l1])
        |succ k2=>
         have H:=HA.out;clear HA;simp only [impl_LeastOf.l1] at H
         by_cases c7:a1<((rd_L2 l0 a0).length:Int)
         ·rw [if_pos c7] at H;have d0:decide (a1<((rd_L2 l0 a0).length:Int))=true:=decide_eq_true c7;clear c7
          by_cases c8:0≤a1
          ·rw [if_pos c8] at H;have e1:decide (0≤a1)=true:=decide_eq_true c8;clear c8
           by_cases c9:a1<((rd_L2 l0 a0).length:Int)
           ·rw [if_pos c9] at H;have e2:decide (a1<((rd_L2 l0 a0).length:Int))=true:=decide_eq_true c9;clear c9
            by_cases b4:a4=true
            ·subst b4;(have H1:(impl_LeastOf.l1 k2 a0 ((rd (rd_L2 l0 a0) a1)==1) l0 (l0.length:Int) a0 (rd_L2 l0 a0) ((rd_L2 l0 a0).length:Int) (wrap64 (a1+1)))=some (r1,r2):=by rw [if_pos rfl] at H;exact H);clear H;have H:=H1;clear H1;have H':=zqm H;clear H;have a2:0≤(a1:Int):=zqo;have a3:a1<((rd_L2 l0 a0).length:Int):=zqo;obtain⟨b8,b1,b6⟩:=Kd.at_int a7.out a1 a2 a3
             cases b1
             replace a2:=eq_true a2;replace a3:=eq_true a3
             go_wp2
             go_roundg k2
             (case measure=> exact zq133);case rel=>exact⟨(((rd (rd_L2 l0 a0) a1)==1)),(wrap64 (a1+1)),zq6,zq6,H',⟨zq133⟩,zq8⟩
            ·replace b4:=Bool.eq_false_iff.mpr b4;subst b4;(have H1:(impl_LeastOf.l1 k2 a0 false l0 (l0.length:Int) a0 (rd_L2 l0 a0) ((rd_L2 l0 a0).length:Int) (wrap64 (a1+1)))=some (r1,r2):=by rw [if_neg (show¬(false=true) by decide)] at H;exact H);clear H;have H:=H1;clear H1;have H':=zqm H;clear H;have a2:0≤(a1:Int):=zqo;have a3:a1<((rd_L2 l0 a0).length:Int):=zqo;obtain⟨b8,b1,b6⟩:=Kd.at_int a7.out a1 a2 a3
             cases b1
             replace a2:=eq_true a2;replace a3:=eq_true a3
             go_wp2
             go_roundg k2
             (case measure=> exact zq133);case rel=>exact⟨(false),(wrap64 (a1+1)),zq6,zq6,H',⟨zq133⟩,zq8⟩
           ·rw [if_neg c9] at H;exact absurd H (by simp)
          ·rw [if_neg c8] at H;exact absurd H (by simp)
         ·rw [if_neg c7] at H;have d0:decide (a1<((rd_L2 l0 a0).length:Int))=false:=decide_eq_false c7;clear c7
          by_cases b5:a4=true
          ·subst b5;(have H1:(some (a0,true))=some (r1,r2):=by rw [if_pos rfl] at H;exact H);clear H;have H:=H1;clear H1;simp only [Option.some.injEq,Prod.mk.injEq] at H;obtain⟨rfl,rfl⟩:=H
           go_wp2
           go_ret2
           exact⟨zq6,zq8⟩
          ·replace b5:=Bool.eq_false_iff.mpr b5;subst b5;(have H1:(impl_LeastOf.l0 k2 l0 (l0.length:Int) (wrap64 (a0+1)))=some (r1,r2):=by rw [if_neg (show¬(false=true) by decide)] at H;exact H);clear H;have H:=H1;clear H1;have H':=zqm H;clear H
           go_wp2
           go_roundg k2
           (case measure=> exact zq133);case rel=>exact⟨(wrap64 (a0+1)),zq6,H',⟨zq133⟩,zq8⟩
      ·rw [if_neg c6] at H;exact absurd H (by simp)
     ·rw [if_neg c5] at H;exact absurd H (by simp)
    ·rw [if_neg c4] at H;have c2:decide (a0<(l0.length:Int))=false:=decide_eq_false c4;clear c4;simp only [Option.some.injEq,Prod.mk.injEq] at H;obtain⟨rfl,rfl⟩:=H
     go_wp2
     go_ret2
     exact⟨zq6,zq8⟩
 ·replace c3:=Bool.eq_false_iff.mpr c3;subst c3;(have H1:(some ((-1),false))=some (r1,r2):=by rw [if_neg (show¬(false=true) by decide)] at H;exact H);clear H;have H:=H1;clear H1;simp only [Option.some.injEq,Prod.mk.injEq] at H;obtain⟨rfl,rfl⟩:=H
  go_enter Try.func49,Try.ntmps49
  go_wp2_with (first|((with_reducible refine gate_callee (f:=23) rfl ?_);refine goesL_ (some 10) rfl rfl Try.func23 zqk rfl #[.slice A0 l0.length c0] rfl zq5 ?_;(with_reducible refine(impl_OrderOk.calls k _ _ l0 false _ ?side1 ?side2 A2.out).mono ?_);(case side1=> exact zq113);(case side2=>exact c1.out);rintro e w' ⟨rfl,⟨nd,rfl⟩⟩;refine⟨_,rfl,?_⟩))
  go_ret2
  exact⟨zq6,zq8⟩
end
section
attribute [local go_sem] max2_int min2_int max_two min_two max_three min_three max_four min_four
def impl_isAnswer.f (l0 : List (List Int)) (a1 : Int) : Option (Bool) := if a1 ≥ 0 then (some (decide (a1 < (l0.length : Int)))) else (some false)
set_option maxHeartbeats 8000000 in
set_option maxRecDepth 100000 in
theorem impl_isAnswer.calls (A0 : Option Addr) (c0 : Nat) (l0 : List (List Int)) (a1 : Int) (r : Bool) (w : World) (hr0 : Kd.C (Kd.slice 3 (Kd.int .i64)) w A0 l0.length l0) (hc0 : l0.length ≤ c0) (h : impl_isAnswer.f l0 a1 = some r) :
  Calls Try.prog 50 #[.slice A0 l0.length c0, .int .i64 a1] w fun e w' => e = .returned (.bool r) ∧ Drawn0 w w' := by
 have HR0 := Aside0.mk hr0
 have HC0 := Aside0.mk hc0
 clear hr0 hc0
 have H : (if a1 ≥ 0 then (some (decide (a1 < (l0.length : Int)))) else (some false)) = some r := h
 clear h
 by_cases c3 : a1 ≥ 0
 ·rw [if_pos c3] at H
  have c3b0 : decide (0 ≤ a1) = true := decide_eq_true c3
  clear c3
  obtain rfl := Option.some.inj H
  go_enter Try.func50, Try.ntmps50
  go_wp2
  go_ret
  exact ⟨zq87, by repeat (first | exact Drawn0.refl _ | apply Drawn0.step)⟩
 ·rw [if_neg c3] at H
  have c3b0 : decide (0 ≤ a1) = false := decide_eq_false c3
  clear c3
  obtain rfl := Option.some.inj H
  go_enter Try.func50, Try.ntmps50
  go_wp2
  go_ret
  exact ⟨zq87, by repeat (first | exact Drawn0.refl _ | apply Drawn0.step)⟩
end
end Go.Proofs.Ytmbapglhkbpokaa.Print
end
section
namespace Go.Proofs.Ytmbapglhkbpokaa.Print
open Go.RowKit Go.Proofs.YtmbapglhkbpokaaW.PrintWords Go.Proofs.YtmbapglhkbpokaaW.PrintLast Go.Proofs.YtmbapglhkbpokaaW.PrintMore
open Oml
structure ToldFacts (k : Nat) (U : List (List Int)) : Prop where
 lat:impl_LatticeOk.f k U=some (latticeB U)
 turn:latticeB U=true→impl_turned.f k U=some (turnL U)
 meet:latticeB U=true→ ∀a b:Nat,a<U.length→b<U.length→impl_meet.f k U a b=some (mI U a b)
 join:latticeB U=true→ ∀a b:Nat,a<U.length→b<U.length→impl_meet.f k (turnL U) a b=some (jI U a b)
 least:latticeB U=true→impl_LeastOf.f k U=some (optI (leastO U),(leastO U).isSome)
set_option maxHeartbeats 1000000 in
set_option maxRecDepth 100000 in
theorem told_flat (k : Nat) (A0 : Option Addr) (c0 : Nat) (U : List (List Int)) (A1 : Option Addr) (c1 : Nat) (N : List Int) (w : World)
 (hr0:Kd.C (Kd.slice 3 (Kd.int .i64)) w A0 U.length U) (hc0:U.length≤c0) (hr1:Kd.C (Kd.int .i64) w A1 N.length N) (hc1:N.length≤c1) (hLat:impl_LatticeOk.f k U=some false):
 Calls Try.prog 18 #[.agg #[.slice A0 U.length c0,.slice A1 N.length c1]] w fun e w'=>e= .returned (.pointer none)∧Below w.heap.size w w':=by
 have hu30:=Try.underlying26
 have HR0:=zqm hr0
 have HLat:=zqm hLat
 clear hr0 hLat hr1
 go_enter Try.func18,Try.ntmps18
 go_wp2_with (first|((with_reducible refine gate_dst (N:=1) rfl ?_);refine box_event ?hg (N:=1) ?hd (cs:= #[.slice A0 U.length c0,.slice A1 N.length c1]) (t:=26) ?hr ?_;(case hd=>rfl);(case hg=>rfl);(case hr=>first|(go_simp;done)|(go_simp;rfl));intro gb hg_gb w1 hbox_gb hb;have HB:=zqm hb;have hx0:w1.cell? ⟨gb,0,none⟩=some (.slice A0 U.length c0):=(blk_cell hbox_gb 0).trans rfl;have hx1:w1.cell? ⟨gb,1,none⟩=some (.slice A1 N.length c1):=(blk_cell hbox_gb 1).trans rfl;have HX:=zqm hbox_gb;clear hbox_gb hb hg_gb)|(go_at_call 46;(with_reducible refine(impl_LatticeOk.calls k _ _ U false _ ?s1 ?s2 HLat.out).mono ?_);(case s1=>exact Kd.C_below HR0.out HB.out);(case s2=>assumption);rintro e w2 ⟨rfl,hb⟩;have hbox:=blk_below HX.out hb;have hy0:w2.cell? ⟨gb,0,none⟩=some (.slice A0 U.length c0):=(blk_cell hbox 0).trans rfl;have hy1:w2.cell? ⟨gb,1,none⟩=some (.slice A1 N.length c1):=(blk_cell hbox 1).trans rfl;have HB2:=zqm (below_step HB.out hb);have HX2:=zqm hbox;clear hbox hb hx0 hx1 HX HB))
 go_ret
 exact⟨rfl,HB2.out⟩
set_option maxHeartbeats 1000000 in
set_option maxRecDepth 100000 in
theorem told_long (k : Nat) (A0 : Option Addr) (c0 : Nat) (U : List (List Int)) (A1 : Option Addr) (c1 : Nat) (N : List Int) (w : World)
 (hr0:Kd.C (Kd.slice 3 (Kd.int .i64)) w A0 U.length U) (hc0:U.length≤c0) (hr1:Kd.C (Kd.int .i64) w A1 N.length N) (hc1:N.length≤c1) (hLat:impl_LatticeOk.f k U=some true) (hl:N.length≠U.length):
 Calls Try.prog 18 #[.agg #[.slice A0 U.length c0,.slice A1 N.length c1]] w fun e w'=>e= .returned (.pointer none)∧Below w.heap.size w w':=by
 have hu30:=Try.underlying26
 have HR0:=zqm hr0
 have HLat:=zqm hLat
 have hne:((N.length:Int) !=(U.length:Int))=true:=by rw [bne_iff_ne];omega
 clear hr0 hLat hr1 hl
 go_enter Try.func18,Try.ntmps18
 go_wp2_with (first|((with_reducible refine gate_dst (N:=1) rfl ?_);refine box_event ?hg (N:=1) ?hd (cs:= #[.slice A0 U.length c0,.slice A1 N.length c1]) (t:=26) ?hr ?_;(case hd=>rfl);(case hg=>rfl);(case hr=>first|(go_simp;done)|(go_simp;rfl));intro gb hg_gb w1 hbox_gb hb;have HB:=zqm hb;have hx0:w1.cell? ⟨gb,0,none⟩=some (.slice A0 U.length c0):=(blk_cell hbox_gb 0).trans rfl;have hx1:w1.cell? ⟨gb,1,none⟩=some (.slice A1 N.length c1):=(blk_cell hbox_gb 1).trans rfl;have HX:=zqm hbox_gb;clear hbox_gb hb hg_gb)|(go_at_call 46;(with_reducible refine(impl_LatticeOk.calls k _ _ U true _ ?s1 ?s2 HLat.out).mono ?_);(case s1=>exact Kd.C_below HR0.out HB.out);(case s2=>assumption);rintro e w2 ⟨rfl,hb⟩;have hbox:=blk_below HX.out hb;have hy0:w2.cell? ⟨gb,0,none⟩=some (.slice A0 U.length c0):=(blk_cell hbox 0).trans rfl;have hy1:w2.cell? ⟨gb,1,none⟩=some (.slice A1 N.length c1):=(blk_cell hbox 1).trans rfl;have HB2:=zqm (below_step HB.out hb);have HX2:=zqm hbox;clear hbox hb hx0 hx1 HX HB))
 go_ret
 exact⟨rfl,HB2.out⟩
def impl_told.T15 : Bool × List (List Nat × List Nat) := (true, [([], []), ([], []), ([], []), ([2], [2]), ([3], [3]), ([4], [4]), ([], []), ([6], [6]), ([5, 7], [5, 7]), ([], []), ([9], [9]), ([10], [10]), ([11], [11]), ([], []), ([13], [13]), ([12, 14, 8], [12, 14]), ([0, 0, 2, 3, 4, 5, 6, 7, 8, 12, 15], [0]), ([16, 0, 2, 3, 4, 5, 6, 7, 8, 12, 15], [16]), ([17, 8, 15, 0, 2, 3, 4, 5, 6, 7, 8, 12, 15], [8, 17]), ([1, 0, 1, 2, 3, 4, 5, 6, 7, 8, 9, 10, 11, 12, 13, 14, 15, 16, 17, 18], [1]), ([19, 0, 1, 2, 3, 4, 5, 6, 7, 8, 9, 10, 11, 12, 13, 14, 15, 16, 17, 18], [19]), ([20, 15, 18, 0, 1, 2, 3, 4, 5, 6, 7, 8, 9, 10, 11, 12, 13, 14, 15, 16, 17, 18], [15, 20])])
def impl_told.B15 : List Nat := [0, 0, 0, 4, 12, 28, 0, 64, 252, 0, 512, 1536, 3584, 0, 8192, 32764, 65533, 131069, 262141, 524287, 1048575, 2097151]
theorem impl_told.tab15 : rtab .any (opsOf Try.f18 15) = impl_told.T15 := by kernel_rfl
theorem impl_told.bits15 : waitsOk impl_told.T15.2 impl_told.B15 = true := by kernel_rfl
def impl_told.T34 : Bool × List (List Nat × List Nat) := (true, [([], []), ([], []), ([1], [1]), ([], []), ([3], [3]), ([4], [4]), ([5], [5]), ([2, 6], [2, 6]), ([7], [7]), ([0, 0, 1, 2, 3, 4, 5, 6, 7, 8], [0]), ([9, 0, 1, 2, 3, 4, 5, 6, 7, 8], [9]), ([10, 8, 0, 1, 2, 3, 4, 5, 6, 7, 8], [8, 10])])
def impl_told.B34 : List Nat := [0, 0, 2, 0, 8, 24, 56, 126, 254, 511, 1023, 2047]
theorem impl_told.tab34 : rtab .any (opsOf Try.f18 34) = impl_told.T34 := by kernel_rfl
theorem impl_told.bits34 : waitsOk impl_told.T34.2 impl_told.B34 = true := by kernel_rfl
theorem optI_inj {a b : Option Nat} (h : optI a = optI b) : a = b := by
 cases a <;> cases b <;> simp [optI] at h ⊢ <;> omega
def Ok3 (U : List (List Int)) (N : List Int) (i : Nat) : Prop := 0 ≤ at1 N i ∧ at1 N i < U.length ∧ at1 N (at1 N i).toNat = i ∧ meetO U i (at1 N i).toNat = leastO U
def Ok5 (U : List (List Int)) (N : List Int) (i j : Nat) : Prop := leB U i j = true → leB U (at1 N j).toNat (at1 N i).toNat = true
theorem logicB_no3 {U : List (List Int)} {N : List Int} {a : Nat} (ha : a < U.length) (h : ¬ Ok3 U N a) : logicB U N = false := by
 rw [Bool.eq_false_iff]
 intro hl
 have L:=logicB_iff.1 hl
 exact h ⟨(L.ran a ha).1,(L.ran a ha).2,L.inv a ha,L.comp a ha⟩
theorem logicB_no5 {U : List (List Int)} {N : List Int} {a b : Nat} (ha : a < U.length) (hb : b < U.length) (h : ¬ Ok5 U N a b) : logicB U N = false := by
 rw [Bool.eq_false_iff]
 intro hl
 have L:=logicB_iff.1 hl
 exact h (L.turn a b ha hb)
theorem logicB_yes {U : List (List Int)} {N : List Int} (h1 : latticeB U = true) (h2 : N.length = U.length) (h3 : ∀ i, i < U.length → Ok3 U N i) (h5 : ∀ i, i < U.length → ∀ j, j < U.length → Ok5 U N i j) : logicB U N = true := by
 have O:=latticeB_order h1
 unfold latticeB at h1
 simp only [Bool.and_eq_true,allN_iff] at h1
 exact logicB_iff.2 { toOrder:=O,meets:=fun a b ha hb=>(h1.2 a ha b hb).1,joins:=fun a b ha hb=>(h1.2 a ha b hb).2,len:=h2,ran:=fun a ha=>⟨(h3 a ha).1,(h3 a ha).2.1⟩,inv:=fun a ha=>(h3 a ha).2.2.1,comp:=fun a ha=>(h3 a ha).2.2.2,turn:=fun a b ha hb=>h5 a ha b hb }
set_option maxHeartbeats 16000000 in
set_option maxRecDepth 100000 in
theorem told_walk (k : Nat) (A0 : Option Addr) (c0 : Nat) (U : List (List Int)) (A1 : Option Addr) (c1 : Nat) (N : List Int) (w : World)
 (hr0:Kd.C (Kd.slice 3 (Kd.int .i64)) w A0 U.length U) (hc0:U.length≤c0) (hr1:Kd.C (Kd.int .i64) w A1 N.length N) (hc1:N.length≤c1) (hF:ToldFacts k U) (hl:N.length=U.length) (hlat:latticeB U=true):
 Calls Try.prog 18 #[.agg #[.slice A0 U.length c0,.slice A1 N.length c1]] w (ToldPost U N w):=by
 have hu30:=Try.underlying26
 have hu70:=Try.underlying43
 have HR0:=zqm hr0
 have HR1:=zqm hr1
 have HL:=zqm hl
 have HLat:=zqm (hlat ▸ hF.lat)
 have HTurn:=zqm (hF.turn hlat)
 have HF:=zqm hF
 have HLB:=zqm hlat
 have HSM:=zqm (latticeB_order hlat).small
 have hne:((N.length:Int) !=(U.length:Int))=false:=by rw [hl];simp
 clear hr0 hr1 hl hF hlat
 go_enter Try.func18,Try.ntmps18
 go_wp2_with (first|((with_reducible refine gate_dst (N:=1) rfl ?_);refine box_event ?hg (N:=1) ?hd (cs:= #[.slice A0 U.length c0,.slice A1 N.length c1]) (t:=26) ?hr ?_;(case hd=>rfl);(case hg=>rfl);(case hr=> exact zq15);intro gb hg_gb w1 hbox_gb hb;have HB:=zqm hb;have hx0:w1.cell? ⟨gb,0,none⟩=some (.slice A0 U.length c0):=(blk_cell hbox_gb 0).trans rfl;have hx1:w1.cell? ⟨gb,1,none⟩=some (.slice A1 N.length c1):=(blk_cell hbox_gb 1).trans rfl;have HX:=zqm hbox_gb;clear hbox_gb hb hg_gb)|(go_at_call 46;(with_reducible refine(impl_LatticeOk.calls k _ _ U true _ ?s1 ?s2 HLat.out).mono ?_);(case s1=> exact zq127);(case s2=>assumption);rintro e w2 ⟨rfl,hb⟩;have hbox:=blk_below HX.out hb;have hy0:w2.cell? ⟨gb,0,none⟩=some (.slice A0 U.length c0):=(blk_cell hbox 0).trans rfl;have hy1:w2.cell? ⟨gb,1,none⟩=some (.slice A1 N.length c1):=(blk_cell hbox 1).trans rfl;have HB2:=zqm (below_step HB.out hb);have HX2:=zqm hbox;clear hbox hb hx0 hx1 HX HB)|((with_reducible refine gate_dst (N:=33) rfl ?_);refine box_event ?hg (N:=33) ?hd (cs:= #[.slice A0 U.length c0,.slice none 0 0,.slice none 0 0,.slice A1 N.length c1,.int .i64 0,.int .i64 0]) (t:=43) ?hr ?_;(case hd=>rfl);(case hg=>rfl);(case hr=> exact zq15);intro g hg_g w3 hbox_g hb;have HB3:=zqm (below_step HB2.out hb);have HG3:=zqm hbox_g;have HGE:=zqm ((by rw [hg_g];exact below_size HB2.out):w.heap.size≤g);have hbox:=blk_below HX2.out hb;have HNE:=zqm ((by rw [hg_g];exact Nat.ne_of_lt (blk_lt HX2.out)):gb≠g);have hz0:w3.cell? ⟨gb,0,none⟩=some (.slice A0 U.length c0):=(blk_cell hbox 0).trans rfl;have hz1:w3.cell? ⟨gb,1,none⟩=some (.slice A1 N.length c1):=(blk_cell hbox 1).trans rfl;have HX3:=zqm hbox;clear hbox hb hbox_g hg_g hy0 hy1 HX2 HB2)|(go_at_call 47;(with_reducible refine(impl_turned.calls k _ _ U (turnL U) _ ?s1 ?s2 HTurn.out).mono ?_);(case s1=>exact Kd.C_below HR0.out HB3.out);(case s2=>assumption);rintro e w4 ⟨vo,rfl,ho,hb⟩;have HB4:=zqm (below_step HB3.out hb);have HG4:=zqm (blk_below HG3.out hb);have hbox:=blk_below HX3.out hb;have hq0:w4.cell? ⟨gb,0,none⟩=some (.slice A0 U.length c0):=(blk_cell hbox 0).trans rfl;have hq1:w4.cell? ⟨gb,1,none⟩=some (.slice A1 N.length c1):=(blk_cell hbox 1).trans rfl;have HX4:=zqm hbox;obtain⟨Ao,co,rfl⟩:=Kd.S_slice ho;have HOv:=zqm ((Kd.S_reads' ho).2.1);have hlt_:=blk_lt HG3.out;have HOr:=zqm (show Kd.R (Kd.slice 3 (Kd.int .i64)) 24 w4 w.heap.size (fun k_=>(k_≠g∧some k_≠(Value.slice none 0 0).ownBlock)∧some k_≠(Value.slice none 0 0).ownBlock) (.slice Ao (turnL U).length co) (turnL U) from Kd.R_mono (Kd.R_lower (Kd.R_bound (Kd.S_R ho)) (below_size HB3.out)) (fun k_ hk=>⟨⟨by have:=hk.2.1;omega,by simp [Value.ownBlock]⟩,by simp [Value.ownBlock]⟩));clear hbox hb hz0 hz1 HX3 HB3 HG3 ho hlt_))
 go_loopg [40] (U.length+1) (fun kq v40 W=> ∃(a:Nat) (vA vO:Value),v40= .int .i64 a∧Aside0 (a+kq=U.length+1)∧Aside0 (a≤U.length)∧Aside0 (W.heap[g]? =some (.cells #[.slice A0 U.length c0,vA,vO,.slice A1 N.length c1,.int .i64 (0),.int .i64 (0)] 43 (0,0)))∧Aside0 (Kd.R (Kd.slice 3 (Kd.int .i64)) 24 W w.heap.size (fun k_=>True∧some k_≠vO.ownBlock) vA (tabT U.length (mI U) a))∧Aside0 (Kd.R (Kd.slice 3 (Kd.int .i64)) 24 W w.heap.size (fun k_=>True∧some k_≠vA.ownBlock) vO (tabT U.length (jI U) a))∧Aside0 (W.heap[gb]? =some (.cells #[.slice A0 U.length c0,.slice A1 N.length c1] 26 (0,0)))∧Aside0 (Kd.R (Kd.slice 3 (Kd.int .i64)) 24 W w.heap.size (fun k_=>(k_≠g∧some k_≠vO.ownBlock)∧some k_≠vA.ownBlock) (.slice Ao (turnL U).length co) (turnL U))∧Aside0 (Below w.heap.size w W))
 case atStart=>exact⟨0,.slice none 0 0,.slice none 0 0,rfl,⟨by omega⟩,⟨by omega⟩,⟨HG4.out⟩,⟨Kd.R_nil _ _ _ _ _⟩,⟨Kd.R_nil _ _ _ _ _⟩,⟨HX4.out⟩,⟨HOr.out⟩,⟨HB4.out⟩⟩
 case round=>
  clear HG4 HX4 HB4 HOr hq0 hq1
  obtain⟨a,vA,vO,rfl,HK,HK2,HG,HA,HO,HX,HOr,HB⟩:=hrel
  cases gk with
  |zero=>exact absurd HK.out (by have:=HK2.out;omega)
  |succ kn=>
  have hq0:wr.cell? ⟨gb,0,none⟩=some (.slice A0 U.length c0):=(blk_cell HX.out 0).trans rfl
  have hq1:wr.cell? ⟨gb,1,none⟩=some (.slice A1 N.length c1):=(blk_cell HX.out 1).trans rfl
  by_cases hlt:a<U.length
  ·have hlt':decide (a<U.length)=true:=decide_eq_true hlt
   have HLT:=zqm hlt
   clear hlt
   go_wp2_with (first|((with_reducible refine gate_dst (N:=43) rfl ?_);refine Kd.R_lit (Kd.int .i64) _ 3 ?hg (N:=43) ?hd (xs:=([]:List Int)) (inner:= []) (ok:=fun _=>True) (okp:=fun _=>True) ?hr ?hp (fun _ hk=>hk) trivial (Below.refl _ _) (Nat.le_refl _) (by simp) ?_;(case hd=>rfl);(case hg=>rfl);(case hr=> exact zq15);(case hp=>exact(Reps.none _ _));intro va wa ho hb hg_ hnew_;clear hg_;have HBa:=zqm hb;have HVa:=zqm ho;have hr0:wa.cell? ⟨gb,0,none⟩=some (.slice A0 U.length c0):=(blk_cell (blk_below HX.out hb) 0).trans rfl;clear ho hb hnew_)|((with_reducible refine gate_dst (N:=44) rfl ?_);refine Kd.R_lit (Kd.int .i64) _ 3 ?hg (N:=44) ?hd (xs:=([]:List Int)) (inner:= []) (ok:=fun _=>True) (okp:=fun _=>True) ?hr ?hp (fun _ hk=>hk) trivial (Below.refl _ _) (Nat.le_refl _) (by simp) ?_;(case hd=>rfl);(case hg=>rfl);(case hr=> exact zq15);(case hp=>exact(Reps.none _ _));intro vb wb ho hb hg_ hnew_;clear hg_;have HBi:=zqm (below_step HBa.out hb);have hr1:wb.cell? ⟨gb,0,none⟩=some (.slice A0 U.length c0):=(blk_cell (blk_below HX.out HBi.out) 0).trans rfl;have HVO:=zqm (Kd.R_mono (Kd.R_lower (Kd.R_newR ho HVa.out) (below_size HBa.out)) (fun k_ hk=>hk));have HVA:=zqm (Kd.R_mono (Kd.R_elder HVa.out ho hb) (fun k_ hk=>hk));clear ho hb hnew_ HVa HBa hr0))
   obtain⟨wo,rfl⟩: ∃wo:World,wo=wr:=⟨_,rfl⟩
   have HOC:=zqm (Kd.R_reads' HOr.out).2.2
   clear hr1 hq0 hq1
   go_loopg [6,7,48] (U.length+1) (fun kj v6 v7 v48 W=> ∃(b:Nat),v48= .int .i64 b∧Aside0 (b+kj=U.length+1)∧Aside0 (b≤U.length)∧Aside0 (Kd.R (Kd.int .i64) 3 W wo.heap.size (fun k_=>True∧some k_≠v7.ownBlock) v6 (rowT (mI U) a b))∧Aside0 (Kd.R (Kd.int .i64) 3 W wo.heap.size (fun k_=>True∧some k_≠v6.ownBlock) v7 (rowT (jI U) a b))∧Aside0 (Below wo.heap.size wo W))
   case atStart=>exact⟨0,rfl,⟨by omega⟩,⟨by omega⟩,⟨HVA.out⟩,⟨HVO.out⟩,⟨HBi.out⟩⟩
   case round=>
    clear HVA HVO HBi
    obtain⟨b,rfl,HKj,HKj2,HVA,HVO,HBi⟩:=hrel
    cases gk with
    |zero=>exact absurd HKj.out (by have:=HKj2.out;omega)
    |succ kj=>
    have hs0:wr.cell? ⟨gb,0,none⟩=some (.slice A0 U.length c0):=(blk_cell (blk_below HX.out HBi.out) 0).trans rfl
    by_cases hltb:b<U.length
    ·have hltb':decide (b<U.length)=true:=decide_eq_true hltb
     have HLTb:=zqm hltb
     clear hltb
     have HM1:=zqm (HF.out.meet HLB.out a b HLT.out HLTb.out)
     have HM2:=zqm (HF.out.join HLB.out a b HLT.out HLTb.out)
     go_wp2_with (first|(go_at_call 48;(first|(with_reducible refine(impl_meet.calls k _ _ U a b (mI U a b) _ ?s1 ?s2 HM1.out).mono ?_)|(with_reducible refine(impl_meet.calls k _ _ (turnL U) a b (jI U a b) _ ?s1 ?s2 HM2.out).mono ?_));(case s1=>(repeat(first|exact Kd.C_below HR0.out (below_step HB.out HBi.out)|exact Kd.C_below HOC.out HBi.out|exact Kd.C_below HR0.out (below_step HB.out HBj.out)|exact Kd.C_below HOC.out HBj.out|refine Kd.C_alloc ?_ _|refine Kd.C_drewN ?_ _)));(case s2=>first|assumption|exact HOv.out);rintro e w' ⟨rfl,⟨nd,rfl⟩⟩)|(at_builtin;refine Kd.R_append (Kd.int .i64) (w0:=wo) wo.heap.size rfl (.tmp 51) (.tmp 57) 24 3 (.int .i64 0) 8 rfl Try.underlying24 infoInt rfl (by decide) (by omega) u6 (rowT (mI U) a b) (mI U a b) [.int .i64 ((mI U a b))] (fun k_=>True∧some k_≠(u7:Value).ownBlock) (fun _=>False) rfl rfl ?aP (fun _ hk=>hk.elim) ?aF ?aO ?aB ?aS ?aL ?_;(case aP=>exact rfl);(case aF=>exact fun k_ hk=>⟨trivial,Kd.fresh_ok (Kd.R_drewN HVO.out _) k_ hk⟩);(case aO=>exact Kd.R_drewN HVA.out _);(case aB=>exact pw_below_drewN HBi.out _);(case aS=>exact below_size (pw_below_drewN HBi.out _));(case aL=>have:=HLTb.out;have:=HSM.out;rw [rowT_length];omega);intro va2 w5 ho hb hg hat;rw [← rowT_succ] at ho;have HBj:=zqm hb;have HVA2:=zqm ho;have HVO2:=zqm (Kd.R_after (Kd.R_drewN HVO.out _) hg hat);have hs1:w5.cell? ⟨gb,0,none⟩=some (.slice A0 U.length c0):=(blk_cell (blk_below HX.out HBj.out) 0).trans rfl;clear ho hb hg hat HVA HVO HBi hs0)|(at_builtin;refine Kd.R_append (Kd.int .i64) (w0:=wo) wo.heap.size rfl (.tmp 59) (.tmp 64) 24 3 (.int .i64 0) 8 rfl Try.underlying24 infoInt rfl (by decide) (by omega) u7 (rowT (jI U) a b) (jI U a b) [.int .i64 ((jI U a b))] (fun k_=>True∧some k_≠(va2:Value).ownBlock) (fun _=>False) rfl rfl ?aP (fun _ hk=>hk.elim) ?aF ?aO ?aB ?aS ?aL ?_;(case aP=>exact rfl);(case aF=>exact fun k_ hk=>⟨trivial,Kd.fresh_ok (Kd.R_drewN HVA2.out _) k_ hk⟩);(case aO=>exact Kd.R_drewN HVO2.out _);(case aB=>exact pw_below_drewN HBj.out _);(case aS=>exact below_size (pw_below_drewN HBj.out _));(case aL=>have:=HLTb.out;have:=HSM.out;rw [rowT_length];omega);intro vo2 w6 ho hb hg hat;rw [← rowT_succ] at ho;have HBk:=zqm hb;have HVO3:=zqm ho;have HVA3:=zqm (Kd.R_after (Kd.R_drewN HVA2.out _) hg hat);clear ho hb hg hat HVA2 HVO2 HBj hs1))
     go_roundg kj
     case measure=>omega
     case rel=>exact⟨b+1,by rw [wrap_small (by omega) (by have:=HLTb.out;have:=HSM.out;omega)];go_num,⟨by have:=HKj.out;omega⟩,⟨by have:=HLTb.out;omega⟩,⟨HVA3.out⟩,⟨HVO3.out⟩,⟨HBk.out⟩⟩
    ·have hltb':decide (b<U.length)=false:=decide_eq_false hltb
     obtain rfl:b=U.length:=by have:=HKj2.out;omega
     clear hltb
     obtain⟨AA,cA,rfl⟩:=Kd.R_slice HA.out
     obtain⟨AO,cO,rfl⟩:=Kd.R_slice HO.out
     obtain⟨Aa,ca,rfl⟩:=Kd.R_slice HVA.out
     obtain⟨Ab,cb,rfl⟩:=Kd.R_slice HVO.out
     have HrA:=zqm (show Kd.R (Kd.int .i64) 3 wr w.heap.size (fun k_=>some k_≠(Value.slice AO (tabT U.length (jI U) a).length cO).ownBlock∧some k_≠(Value.slice AA (tabT U.length (mI U) a).length cA).ownBlock) (.slice Aa (rowT (mI U) a U.length).length ca) (rowT (mI U) a U.length) from Kd.R_mono (Kd.R_lower (Kd.R_newR (Kd.R_newR HVA.out HA.out) HO.out) (below_size HB.out)) (fun k_ hk=>⟨hk.2,hk.1.2⟩))
     have HrO:=zqm (show Kd.R (Kd.int .i64) 3 wr w.heap.size (fun k_=>some k_≠(Value.slice AO (tabT U.length (jI U) a).length cO).ownBlock∧some k_≠(Value.slice AA (tabT U.length (mI U) a).length cA).ownBlock) (.slice Ab (rowT (jI U) a U.length).length cb) (rowT (jI U) a U.length) from Kd.R_mono (Kd.R_lower (Kd.R_newR (Kd.R_newR HVO.out HA.out) HO.out) (below_size HB.out)) (fun k_ hk=>⟨hk.2,hk.1.2⟩))
     have HAr:=zqm (Kd.R_below HA.out HBi.out)
     have HOr2:=zqm (Kd.R_below HO.out HBi.out)
     have HVr:=zqm (Kd.R_below HOr.out HBi.out)
     have HBr:=zqm (below_step HB.out HBi.out)
     have HXr:=zqm (blk_below HX.out HBi.out)
     have hG:=blk_below HG.out HBi.out
     have hg1:wr.cell? ⟨g,1,none⟩=some (.slice AA (tabT U.length (mI U) a).length cA):=(blk_cell hG 1).trans rfl
     have hg2:wr.cell? ⟨g,2,none⟩=some (.slice AO (tabT U.length (jI U) a).length cO):=(blk_cell hG 2).trans rfl
     have HGr:=zqm hG
     have ha11:a<12:=by have:=HLT.out;have:=HSM.out;omega
     clear hG HVA HVO hs0 HA HO HOr HB HX HG HOC
     go_wp2_with fail
     refine start_ (n:=22) (S:=(fun w'=>w'.cell? ⟨g,1,none⟩=some (.slice AA (tabT U.length (mI U) a).length cA)∧w'.cell? ⟨g,2,none⟩=some (.slice AO (tabT U.length (jI U) a).length cO))) (ds:= [18,21]) (zqb 22 0) zqk rfl rfl ⟨hg1,hg2⟩ (fun hHeld=>?_)
     refine with_tabW impl_told.tab15 impl_told.bits15 (fun HT_ HW_=>?_)
     generalize hwd:wr.drew=wd at hHeld ⊢
     have HWD:=zqm hwd;clear hwd
     replace HrA:=zqm (HWD.out ▸ (Kd.R_drew HrA.out))
     replace HrO:=zqm (HWD.out ▸ (Kd.R_drew HrO.out))
     replace HAr:=zqm (HWD.out ▸ (Kd.R_drew HAr.out))
     replace HOr2:=zqm (HWD.out ▸ (Kd.R_drew HOr2.out))
     replace HVr:=zqm (HWD.out ▸ (Kd.R_drew HVr.out))
     replace HBr:=zqm (HWD.out ▸ (below_drew HBr.out))
     replace HXr:=zqm (HWD.out ▸ (blk_drew HXr.out))
     replace HGr:=zqm (HWD.out ▸ (blk_drew HGr.out))
     refine zqp 0 67 (zqb 22 1) HT_ ?_
     refine zqp 1 68 (zqb 22 3) HT_ ?_
     refine zqp 2 69 (zqb 22 7) HT_ ?_
     refine zqp 3 70 (zqb 22 15) HT_ ?_
     refine zqp 4 71 (zqb 22 31) HT_ ?_
     refine zqp 6 73 (zqb 22 95) HT_ ?_
     refine zqp 9 76 (zqb 22 607) HT_ ?_
     refine zqp 10 77 (zqb 22 1631) HT_ ?_
     refine zqp 11 78 (zqb 22 3679) HT_ ?_
     refine zqp 13 80 (zqb 22 11871) HT_ ?_
     refine zqw 5 72 (zqb 22 11903) HT_ HW_ hHeld ?_
     refine zqw 12 79 (zqb 22 15999) HT_ HW_ hHeld ?_
     refine join_ (σ:=Nat × Nat × Option Addr × Nat × Option Addr × Nat) 6 (zqb 22 65535) (fun s=> [(74,.slice (some ⟨s.1,0,none⟩) 1 1),(75,.slice s.2.2.1 (tabT U.length (mI U) (a+1)).length s.2.2.2.1),(81,.slice (some ⟨s.2.1,0,none⟩) 1 1),(82,.slice s.2.2.2.2.1 (tabT U.length (jI U) (a+1)).length s.2.2.2.2.2)]) (fun s W=>W.heap[g]? =some (.cells #[.slice A0 U.length c0,.slice AA (tabT U.length (mI U) a).length cA,.slice AO (tabT U.length (jI U) a).length cO,.slice A1 N.length c1,.int .i64 (0),.int .i64 (0)] 43 (0,0))∧W.heap[gb]? =some (.cells #[.slice A0 U.length c0,.slice A1 N.length c1] 26 (0,0))∧Kd.R (Kd.slice 3 (Kd.int .i64)) 24 W w.heap.size (fun k_=>True∧some k_≠(Value.slice s.2.2.2.2.1 (tabT U.length (jI U) (a+1)).length s.2.2.2.2.2).ownBlock) (.slice s.2.2.1 (tabT U.length (mI U) (a+1)).length s.2.2.2.1) (tabT U.length (mI U) (a+1))∧Kd.R (Kd.slice 3 (Kd.int .i64)) 24 W w.heap.size (fun k_=>True∧some k_≠(Value.slice s.2.2.1 (tabT U.length (mI U) (a+1)).length s.2.2.2.1).ownBlock) (.slice s.2.2.2.2.1 (tabT U.length (jI U) (a+1)).length s.2.2.2.2.2) (tabT U.length (jI U) (a+1))∧Kd.R (Kd.slice 3 (Kd.int .i64)) 24 W w.heap.size (fun k_=>(k_≠g∧some k_≠(Value.slice s.2.2.1 (tabT U.length (mI U) (a+1)).length s.2.2.2.1).ownBlock)∧some k_≠(Value.slice s.2.2.2.2.1 (tabT U.length (jI U) (a+1)).length s.2.2.2.2.2).ownBlock) (.slice Ao (turnL U).length co) (turnL U)∧Below w.heap.size w W) ?cont (fun hC=>?_)
     rotate_left
     refine two_ (i:=7) (j:=14) (Ni:=some 74) (Nj:=some 81) (zqb 22 16127) (zqb 22 32383) rfl rfl rfl rfl zqk (by decide) (by decide) (fun K hK=>?_) (fun K hK=>?_)
     ·skip
      refine event_step (w1:=World.alloc (wd) (.cells #[.slice Aa (rowT (mI U) a U.length).length ca] 24)) (v:= .slice (some ⟨wd.heap.size,0,none⟩) 1 1) (by rfl) ?hr1 ?_
      case hr1=>first|(go_simp;done)|(go_simp;rfl)
      refine hK.out _ _ ⟨(blk_cell (blk_alloc HGr.out _) 1).trans rfl,(blk_cell (blk_alloc HGr.out _) 2).trans rfl⟩ (fun hHeld1=>?_)
      clear hK K
      (try simp only [Act.put,List.setIfInBounds_toArray,List.set_cons_zero,List.set_cons_succ])
      refine two_ (i:=8) (j:=14) (Ni:=some 75) (Nj:=some 81) (zqb 22 16383) (zqb 22 32511) rfl rfl rfl rfl zqk (by decide) (by decide) (fun K hK=>?_) (fun K hK=>?_)
      ·skip
       refine Kd.R_append_rows_step (Kd.slice 3 (Kd.int .i64)) (Rr:=fun x_ cs_=>x_=rowT (mI U) a U.length∧cs_= [.slice Aa (rowT (mI U) a U.length).length ca]) (w0:=w) w.heap.size (by rfl) (.tmp 72) (.tmp 74) 23 24 (.slice none 0 0) 24 rfl Try.underlying23 infoRow rfl (by decide) (by omega) (.slice AA (tabT U.length (mI U) a).length cA) (tabT U.length (mI U) a) [rowT (mI U) a U.length] _ 1 1 (fun k_=>True∧some k_≠(.slice AO (tabT U.length (jI U) a).length cO:Value).ownBlock) (fun k_=>some k_≠(.slice AO (tabT U.length (jI U) a).length cO:Value).ownBlock∧some k_≠(.slice AA (tabT U.length (mI U) a).length cA:Value).ownBlock) rfl rfl zq165 (reads_one zq92) ?aK2 (fun k_ hk=>⟨⟨trivial,hk.1⟩,hk.2⟩) ?aF2 zq42 (below_size zq42) (by rw [tabT_length];omega) ?_
       case aK2=>rintro x_ cs_ ⟨rfl,rfl⟩;exact⟨_,rfl,zq169⟩
       case aF2=>exact fun k_ hk=>⟨trivial,Kd.fresh_ok zq115 k_ hk⟩
       intro v7 w7 ho hb hg hat
       rw [← tabT_succ] at ho
       obtain⟨A7,c7,rfl⟩:=Kd.R_slice ho
       have HB7:=zqm hb
       have HA7:=zqm ho
       have HO7:=zqm (Kd.R_after zq115 hg hat)
       have HrO7:=zqm (Kd.R_after zq170 hg hat)
       have HV7:=zqm (Kd.R_after zq168 hg hat)
       have hg0:=Kd.R_lt HAr.out
       have HG7:=zqm (blk_grown (g:=g) (o:= .cells #[.slice A0 U.length c0,.slice AA (tabT U.length (mI U) a).length cA,.slice AO (tabT U.length (jI U) a).length cO,.slice A1 N.length c1,.int .i64 (0),.int .i64 (0)] 43 (0,0)) zq156 hg (Kd.R_ne HAr.out HGr.out (by decide)))
       have HX7:=zqm (blk_grown (g:=gb) (o:= .cells #[.slice A0 U.length c0,.slice A1 N.length c1] 26 (0,0)) zq158 hg (Kd.R_ne HAr.out HXr.out (by decide)))
       clear ho hb hg hat hg0
       refine hK.out _ _ ⟨(blk_cell HG7.out 1).trans rfl,(blk_cell HG7.out 2).trans rfl⟩ (fun hHeld7=>?_)
       clear hK K
       (try simp only [Act.put,List.setIfInBounds_toArray,List.set_cons_zero,List.set_cons_succ])
       refine one_ (i:=14) (N:=some 81) (zqb 22 32767) rfl rfl (one_of HT_.out zqk) (by decide) (fun K hK=>?_)
       refine event_step (w1:=World.alloc (w7) (.cells #[.slice Ab (rowT (jI U) a U.length).length cb] 24)) (v:= .slice (some ⟨w7.heap.size,0,none⟩) 1 1) (by rfl) ?hr3 ?_
       case hr3=>first|(go_simp;done)|(go_simp;rfl)
       refine hK.out _ _ ⟨(blk_cell (blk_alloc HG7.out _) 1).trans rfl,(blk_cell (blk_alloc HG7.out _) 2).trans rfl⟩ (fun hHeld3=>?_)
       clear hK K
       (try simp only [Act.put,List.setIfInBounds_toArray,List.set_cons_zero,List.set_cons_succ])
       refine one_ (i:=15) (N:=some 82) (zqb 22 65535) rfl rfl (one_of HT_.out zqk) (by decide) (fun K hK=>?_)
       refine Kd.R_append_rows_step (Kd.slice 3 (Kd.int .i64)) (Rr:=fun x_ cs_=>x_=rowT (jI U) a U.length∧cs_= [.slice Ab (rowT (jI U) a U.length).length cb]) (w0:=w) w.heap.size (by rfl) (.tmp 79) (.tmp 81) 23 24 (.slice none 0 0) 24 rfl Try.underlying23 infoRow rfl (by decide) (by omega) (.slice AO (tabT U.length (jI U) a).length cO) (tabT U.length (jI U) a) [rowT (jI U) a U.length] _ 1 1 (fun k_=>True∧some k_≠(.slice A7 (tabT U.length (mI U) (a+1)).length c7:Value).ownBlock) (fun k_=>some k_≠(.slice AO (tabT U.length (jI U) a).length cO:Value).ownBlock∧some k_≠(.slice A7 (tabT U.length (mI U) (a+1)).length c7:Value).ownBlock) rfl rfl zq166 (reads_one zq92) ?aK4 (fun k_ hk=>⟨⟨trivial,hk.2⟩,hk.1⟩) ?aF4 zq42 (below_size zq42) (by rw [tabT_length];omega) ?_
       case aK4=>rintro x_ cs_ ⟨rfl,rfl⟩;exact⟨_,rfl,zq162⟩
       case aF4=>exact fun k_ hk=>⟨trivial,Kd.fresh_ok zq119 k_ hk⟩
       intro v8 w8 ho hb hg hat
       rw [← tabT_succ] at ho
       obtain⟨A8,c8,rfl⟩:=Kd.R_slice ho
       have HB8:=zqm hb
       have HO8:=zqm ho
       have HA8:=zqm (Kd.R_after zq119 hg hat)
       have HV8:=zqm (Kd.R_after (Kd.R_mono (ok':=fun k_=>(k_≠g∧some k_≠(Value.slice A7 (tabT U.length (mI U) (a+1)).length c7).ownBlock)∧some k_≠(Value.slice AO (tabT U.length (jI U) a).length cO).ownBlock) zq167 (fun k_ (hk:(k_≠g∧some k_≠(Value.slice AO (tabT U.length (jI U) a).length cO).ownBlock)∧some k_≠(Value.slice A7 (tabT U.length (mI U) (a+1)).length c7).ownBlock)=>⟨⟨hk.1.1,hk.2⟩,hk.1.2⟩)) hg hat)
       have HG8:=zqm (blk_grown (g:=g) (o:= .cells #[.slice A0 U.length c0,.slice AA (tabT U.length (mI U) a).length cA,.slice AO (tabT U.length (jI U) a).length cO,.slice A1 N.length c1,.int .i64 (0),.int .i64 (0)] 43 (0,0)) zq155 hg (Kd.R_ne HO7.out HG7.out (by decide)))
       have HX8:=zqm (blk_grown (g:=gb) (o:= .cells #[.slice A0 U.length c0,.slice A1 N.length c1] 26 (0,0)) zq157 hg (Kd.R_ne HO7.out HX7.out (by decide)))
       clear ho hb hg hat
       refine hK.out _ _ ⟨(blk_cell HG8.out 1).trans rfl,(blk_cell HG8.out 2).trans rfl⟩ (fun hHeld8=>?_)
       clear hK K
       (try simp only [Act.put,List.setIfInBounds_toArray,List.set_cons_zero,List.set_cons_succ])
       exact hC ⟨wd.heap.size,w7.heap.size,A7,c7,A8,c8⟩ w8 ⟨HG8.out,HX8.out,HA8.out,HO8.out,HV8.out,HB8.out⟩
      ·skip
       refine event_step (w1:=World.alloc (World.alloc wd (.cells #[.slice Aa (rowT (mI U) a U.length).length ca] 24)) (.cells #[.slice Ab (rowT (jI U) a U.length).length cb] 24)) (v:= .slice (some ⟨wd.heap.size+1,0,none⟩) 1 1) (by rfl) ?hr5 ?_
       case hr5=>first|(go_simp;done)|(go_simp;rfl)
       refine hK.out _ _ ⟨(blk_cell (blk_alloc (blk_alloc HGr.out _) _) 1).trans rfl,(blk_cell (blk_alloc (blk_alloc HGr.out _) _) 2).trans rfl⟩ (fun hHeld2=>?_)
       clear hK K
       (try simp only [Act.put,List.setIfInBounds_toArray,List.set_cons_zero,List.set_cons_succ])
       refine one_ (i:=8) (N:=some 75) (zqb 22 32767) rfl rfl (one_of HT_.out zqk) (by decide) (fun K hK=>?_)
       refine Kd.R_append_rows_step (Kd.slice 3 (Kd.int .i64)) (Rr:=fun x_ cs_=>x_=rowT (mI U) a U.length∧cs_= [.slice Aa (rowT (mI U) a U.length).length ca]) (w0:=w) w.heap.size (by rfl) (.tmp 72) (.tmp 74) 23 24 (.slice none 0 0) 24 rfl Try.underlying23 infoRow rfl (by decide) (by omega) (.slice AA (tabT U.length (mI U) a).length cA) (tabT U.length (mI U) a) [rowT (mI U) a U.length] _ 1 1 (fun k_=>True∧some k_≠(.slice AO (tabT U.length (jI U) a).length cO:Value).ownBlock) (fun k_=>some k_≠(.slice AO (tabT U.length (jI U) a).length cO:Value).ownBlock∧some k_≠(.slice AA (tabT U.length (mI U) a).length cA:Value).ownBlock) rfl rfl zq165 (reads_one zq92) ?aK6 (fun k_ hk=>⟨⟨trivial,hk.1⟩,hk.2⟩) ?aF6 zq42 (below_size zq42) (by rw [tabT_length];omega) ?_
       case aK6=>rintro x_ cs_ ⟨rfl,rfl⟩;exact⟨_,rfl,zq169⟩
       case aF6=>exact fun k_ hk=>⟨trivial,Kd.fresh_ok zq115 k_ hk⟩
       intro v7 w7 ho hb hg hat
       rw [← tabT_succ] at ho
       obtain⟨A7,c7,rfl⟩:=Kd.R_slice ho
       have HB7:=zqm hb
       have HA7:=zqm ho
       have HO7:=zqm (Kd.R_after zq115 hg hat)
       have HrO7:=zqm (Kd.R_after zq170 hg hat)
       have HV7:=zqm (Kd.R_after zq168 hg hat)
       have hg0:=Kd.R_lt HAr.out
       have HG7:=zqm (blk_grown (g:=g) (o:= .cells #[.slice A0 U.length c0,.slice AA (tabT U.length (mI U) a).length cA,.slice AO (tabT U.length (jI U) a).length cO,.slice A1 N.length c1,.int .i64 (0),.int .i64 (0)] 43 (0,0)) zq156 hg (Kd.R_ne HAr.out HGr.out (by decide)))
       have HX7:=zqm (blk_grown (g:=gb) (o:= .cells #[.slice A0 U.length c0,.slice A1 N.length c1] 26 (0,0)) zq158 hg (Kd.R_ne HAr.out HXr.out (by decide)))
       have hcy:w7.cell? ⟨wd.heap.size+1,0,none⟩=some (.slice Ab (rowT (jI U) a U.length).length cb):=grown_cell hg (by first|(go_simp;done)|(simp;done)) (by intro e_;have:=hg0 _ e_.symm;simp at this;omega)
       clear ho hb hg hat hg0
       refine hK.out _ _ ⟨(blk_cell HG7.out 1).trans rfl,(blk_cell HG7.out 2).trans rfl⟩ (fun hHeld7=>?_)
       clear hK K
       (try simp only [Act.put,List.setIfInBounds_toArray,List.set_cons_zero,List.set_cons_succ])
       refine one_ (i:=15) (N:=some 82) (zqb 22 65535) rfl rfl (one_of HT_.out zqk) (by decide) (fun K hK=>?_)
       refine Kd.R_append_rows_step (Kd.slice 3 (Kd.int .i64)) (Rr:=fun x_ cs_=>x_=rowT (jI U) a U.length∧cs_= [.slice Ab (rowT (jI U) a U.length).length cb]) (w0:=w) w.heap.size (by rfl) (.tmp 79) (.tmp 81) 23 24 (.slice none 0 0) 24 rfl Try.underlying23 infoRow rfl (by decide) (by omega) (.slice AO (tabT U.length (jI U) a).length cO) (tabT U.length (jI U) a) [rowT (jI U) a U.length] _ 1 1 (fun k_=>True∧some k_≠(.slice A7 (tabT U.length (mI U) (a+1)).length c7:Value).ownBlock) (fun k_=>some k_≠(.slice AO (tabT U.length (jI U) a).length cO:Value).ownBlock∧some k_≠(.slice A7 (tabT U.length (mI U) (a+1)).length c7:Value).ownBlock) rfl rfl zq166 (reads_one zq92) ?aK7 (fun k_ hk=>⟨⟨trivial,hk.2⟩,hk.1⟩) ?aF7 zq42 (below_size zq42) (by rw [tabT_length];omega) ?_
       case aK7=>rintro x_ cs_ ⟨rfl,rfl⟩;exact⟨_,rfl,zq162⟩
       case aF7=>exact fun k_ hk=>⟨trivial,Kd.fresh_ok zq119 k_ hk⟩
       intro v8 w8 ho hb hg hat
       rw [← tabT_succ] at ho
       obtain⟨A8,c8,rfl⟩:=Kd.R_slice ho
       have HB8:=zqm hb
       have HO8:=zqm ho
       have HA8:=zqm (Kd.R_after zq119 hg hat)
       have HV8:=zqm (Kd.R_after (Kd.R_mono (ok':=fun k_=>(k_≠g∧some k_≠(Value.slice A7 (tabT U.length (mI U) (a+1)).length c7).ownBlock)∧some k_≠(Value.slice AO (tabT U.length (jI U) a).length cO).ownBlock) zq167 (fun k_ (hk:(k_≠g∧some k_≠(Value.slice AO (tabT U.length (jI U) a).length cO).ownBlock)∧some k_≠(Value.slice A7 (tabT U.length (mI U) (a+1)).length c7).ownBlock)=>⟨⟨hk.1.1,hk.2⟩,hk.1.2⟩)) hg hat)
       have HG8:=zqm (blk_grown (g:=g) (o:= .cells #[.slice A0 U.length c0,.slice AA (tabT U.length (mI U) a).length cA,.slice AO (tabT U.length (jI U) a).length cO,.slice A1 N.length c1,.int .i64 (0),.int .i64 (0)] 43 (0,0)) zq155 hg (Kd.R_ne HO7.out HG7.out (by decide)))
       have HX8:=zqm (blk_grown (g:=gb) (o:= .cells #[.slice A0 U.length c0,.slice A1 N.length c1] 26 (0,0)) zq157 hg (Kd.R_ne HO7.out HX7.out (by decide)))
       clear ho hb hg hat
       refine hK.out _ _ ⟨(blk_cell HG8.out 1).trans rfl,(blk_cell HG8.out 2).trans rfl⟩ (fun hHeld8=>?_)
       clear hK K
       (try simp only [Act.put,List.setIfInBounds_toArray,List.set_cons_zero,List.set_cons_succ])
       exact hC ⟨wd.heap.size,wd.heap.size+1,A7,c7,A8,c8⟩ w8 ⟨HG8.out,HX8.out,HA8.out,HO8.out,HV8.out,HB8.out⟩
     ·skip
      refine event_step (w1:=World.alloc (wd) (.cells #[.slice Ab (rowT (jI U) a U.length).length cb] 24)) (v:= .slice (some ⟨wd.heap.size,0,none⟩) 1 1) (by rfl) ?hr8 ?_
      case hr8=>first|(go_simp;done)|(go_simp;rfl)
      refine hK.out _ _ ⟨(blk_cell (blk_alloc HGr.out _) 1).trans rfl,(blk_cell (blk_alloc HGr.out _) 2).trans rfl⟩ (fun hHeld1=>?_)
      clear hK K
      (try simp only [Act.put,List.setIfInBounds_toArray,List.set_cons_zero,List.set_cons_succ])
      refine one_ (i:=7) (N:=some 74) (zqb 22 32511) rfl rfl (one_of HT_.out zqk) (by decide) (fun K hK=>?_)
      refine event_step (w1:=World.alloc (World.alloc wd (.cells #[.slice Ab (rowT (jI U) a U.length).length cb] 24)) (.cells #[.slice Aa (rowT (mI U) a U.length).length ca] 24)) (v:= .slice (some ⟨wd.heap.size+1,0,none⟩) 1 1) (by rfl) ?hr9 ?_
      case hr9=>first|(go_simp;done)|(go_simp;rfl)
      refine hK.out _ _ ⟨(blk_cell (blk_alloc (blk_alloc HGr.out _) _) 1).trans rfl,(blk_cell (blk_alloc (blk_alloc HGr.out _) _) 2).trans rfl⟩ (fun hHeld2=>?_)
      clear hK K
      (try simp only [Act.put,List.setIfInBounds_toArray,List.set_cons_zero,List.set_cons_succ])
      refine one_ (i:=8) (N:=some 75) (zqb 22 32767) rfl rfl (one_of HT_.out zqk) (by decide) (fun K hK=>?_)
      refine Kd.R_append_rows_step (Kd.slice 3 (Kd.int .i64)) (Rr:=fun x_ cs_=>x_=rowT (mI U) a U.length∧cs_= [.slice Aa (rowT (mI U) a U.length).length ca]) (w0:=w) w.heap.size (by rfl) (.tmp 72) (.tmp 74) 23 24 (.slice none 0 0) 24 rfl Try.underlying23 infoRow rfl (by decide) (by omega) (.slice AA (tabT U.length (mI U) a).length cA) (tabT U.length (mI U) a) [rowT (mI U) a U.length] _ 1 1 (fun k_=>True∧some k_≠(.slice AO (tabT U.length (jI U) a).length cO:Value).ownBlock) (fun k_=>some k_≠(.slice AO (tabT U.length (jI U) a).length cO:Value).ownBlock∧some k_≠(.slice AA (tabT U.length (mI U) a).length cA:Value).ownBlock) rfl rfl zq165 (reads_one zq92) ?aK10 (fun k_ hk=>⟨⟨trivial,hk.1⟩,hk.2⟩) ?aF10 zq42 (below_size zq42) (by rw [tabT_length];omega) ?_
      case aK10=>rintro x_ cs_ ⟨rfl,rfl⟩;exact⟨_,rfl,zq169⟩
      case aF10=>exact fun k_ hk=>⟨trivial,Kd.fresh_ok zq115 k_ hk⟩
      intro v7 w7 ho hb hg hat
      rw [← tabT_succ] at ho
      obtain⟨A7,c7,rfl⟩:=Kd.R_slice ho
      have HB7:=zqm hb
      have HA7:=zqm ho
      have HO7:=zqm (Kd.R_after zq115 hg hat)
      have HrO7:=zqm (Kd.R_after zq170 hg hat)
      have HV7:=zqm (Kd.R_after zq168 hg hat)
      have hg0:=Kd.R_lt HAr.out
      have HG7:=zqm (blk_grown (g:=g) (o:= .cells #[.slice A0 U.length c0,.slice AA (tabT U.length (mI U) a).length cA,.slice AO (tabT U.length (jI U) a).length cO,.slice A1 N.length c1,.int .i64 (0),.int .i64 (0)] 43 (0,0)) zq156 hg (Kd.R_ne HAr.out HGr.out (by decide)))
      have HX7:=zqm (blk_grown (g:=gb) (o:= .cells #[.slice A0 U.length c0,.slice A1 N.length c1] 26 (0,0)) zq158 hg (Kd.R_ne HAr.out HXr.out (by decide)))
      have hcy:w7.cell? ⟨wd.heap.size,0,none⟩=some (.slice Ab (rowT (jI U) a U.length).length cb):=grown_cell hg (by first|(go_simp;done)|(simp;done)) (by intro e_;have:=hg0 _ e_.symm;simp at this)
      clear ho hb hg hat hg0
      refine hK.out _ _ ⟨(blk_cell HG7.out 1).trans rfl,(blk_cell HG7.out 2).trans rfl⟩ (fun hHeld7=>?_)
      clear hK K
      (try simp only [Act.put,List.setIfInBounds_toArray,List.set_cons_zero,List.set_cons_succ])
      refine one_ (i:=15) (N:=some 82) (zqb 22 65535) rfl rfl (one_of HT_.out zqk) (by decide) (fun K hK=>?_)
      refine Kd.R_append_rows_step (Kd.slice 3 (Kd.int .i64)) (Rr:=fun x_ cs_=>x_=rowT (jI U) a U.length∧cs_= [.slice Ab (rowT (jI U) a U.length).length cb]) (w0:=w) w.heap.size (by rfl) (.tmp 79) (.tmp 81) 23 24 (.slice none 0 0) 24 rfl Try.underlying23 infoRow rfl (by decide) (by omega) (.slice AO (tabT U.length (jI U) a).length cO) (tabT U.length (jI U) a) [rowT (jI U) a U.length] _ 1 1 (fun k_=>True∧some k_≠(.slice A7 (tabT U.length (mI U) (a+1)).length c7:Value).ownBlock) (fun k_=>some k_≠(.slice AO (tabT U.length (jI U) a).length cO:Value).ownBlock∧some k_≠(.slice A7 (tabT U.length (mI U) (a+1)).length c7:Value).ownBlock) rfl rfl zq166 (reads_one zq92) ?aK11 (fun k_ hk=>⟨⟨trivial,hk.2⟩,hk.1⟩) ?aF11 zq42 (below_size zq42) (by rw [tabT_length];omega) ?_
      case aK11=>rintro x_ cs_ ⟨rfl,rfl⟩;exact⟨_,rfl,zq162⟩
      case aF11=>exact fun k_ hk=>⟨trivial,Kd.fresh_ok zq119 k_ hk⟩
      intro v8 w8 ho hb hg hat
      rw [← tabT_succ] at ho
      obtain⟨A8,c8,rfl⟩:=Kd.R_slice ho
      have HB8:=zqm hb
      have HO8:=zqm ho
      have HA8:=zqm (Kd.R_after zq119 hg hat)
      have HV8:=zqm (Kd.R_after (Kd.R_mono (ok':=fun k_=>(k_≠g∧some k_≠(Value.slice A7 (tabT U.length (mI U) (a+1)).length c7).ownBlock)∧some k_≠(Value.slice AO (tabT U.length (jI U) a).length cO).ownBlock) zq167 (fun k_ (hk:(k_≠g∧some k_≠(Value.slice AO (tabT U.length (jI U) a).length cO).ownBlock)∧some k_≠(Value.slice A7 (tabT U.length (mI U) (a+1)).length c7).ownBlock)=>⟨⟨hk.1.1,hk.2⟩,hk.1.2⟩)) hg hat)
      have HG8:=zqm (blk_grown (g:=g) (o:= .cells #[.slice A0 U.length c0,.slice AA (tabT U.length (mI U) a).length cA,.slice AO (tabT U.length (jI U) a).length cO,.slice A1 N.length c1,.int .i64 (0),.int .i64 (0)] 43 (0,0)) zq155 hg (Kd.R_ne HO7.out HG7.out (by decide)))
      have HX8:=zqm (blk_grown (g:=gb) (o:= .cells #[.slice A0 U.length c0,.slice A1 N.length c1] 26 (0,0)) zq157 hg (Kd.R_ne HO7.out HX7.out (by decide)))
      clear ho hb hg hat
      refine hK.out _ _ ⟨(blk_cell HG8.out 1).trans rfl,(blk_cell HG8.out 2).trans rfl⟩ (fun hHeld8=>?_)
      clear hK K
      (try simp only [Act.put,List.setIfInBounds_toArray,List.set_cons_zero,List.set_cons_succ])
      exact hC ⟨wd.heap.size+1,wd.heap.size,A7,c7,A8,c8⟩ w8 ⟨HG8.out,HX8.out,HA8.out,HO8.out,HV8.out,HB8.out⟩
     case cont=>
      rintro ⟨x74,x81,A7,c7,A8,c8⟩ w8 ⟨hG8,hX8,hA8,hO8,hV8,hB8⟩
      refine norm_ (by simp only [putAll,Act.put,List.setIfInBounds_toArray,List.set_cons_zero,List.set_cons_succ];rfl) ?_
      have HG8:=zqm hG8;clear hG8
      have HX8:=zqm hX8;clear hX8
      have HA8:=zqm hA8;clear hA8
      have HO8:=zqm hO8;clear hO8
      have HV8:=zqm hV8;clear hV8
      have HB8:=zqm hB8;clear hB8
      clear HGr HXr HAr HOr2 HVr HBr HrA HrO hHeld hg1 hg2
      refine zqp 16 83 (zqb 22 131071) HT_ ?_
      refine zqp 17 84 (zqb 22 262143) HT_ ?_
      have hs81:w8.cell? ⟨g,1,none⟩=some (.slice AA (tabT U.length (mI U) a).length cA):=(blk_cell HG8.out 1).trans rfl
      have hf81:=blk_frozen HG8.out 1
      refine last_ (i:=18) (N:=none) (zqb 22 524287) rfl rfl (one_of HT_.out zqk) (by decide) (fun K hK=>?_)
      refine skip_ (w1:=w8.setCell ⟨g,1,none⟩ (.slice A7 (tabT U.length (mI U) (a+1)).length c7)) (by rfl) rfl ?_ ?_
      ·go_simp
      refine hK.out _ _ ?_
      clear hK K
      have HG9:=zqm (show (w8.setCell ⟨g,1,none⟩ (.slice A7 (tabT U.length (mI U) (a+1)).length c7)).heap[g]? =some (.cells #[.slice A0 U.length c0,.slice A7 (tabT U.length (mI U) (a+1)).length c7,.slice AO (tabT U.length (jI U) a).length cO,.slice A1 N.length c1,.int .i64 (0),.int .i64 (0)] 43 (0,0)) from blk_put HG8.out 1 _ rfl)
      have HA9:=zqm (Kd.R_set HA8.out HG8.out (by decide) 1 (.slice A7 (tabT U.length (mI U) (a+1)).length c7))
      have HO9:=zqm (Kd.R_set HO8.out HG8.out (by decide) 1 (.slice A7 (tabT U.length (mI U) (a+1)).length c7))
      have HV9:=zqm (Kd.R_far (p:=⟨g,1,none⟩) HV8.out (fun k_ hk=>hk.1.1) (.slice A7 (tabT U.length (mI U) (a+1)).length c7))
      have HX9:=zqm (blk_far HX8.out (p:=⟨g,1,none⟩) HNE.out (.slice A7 (tabT U.length (mI U) (a+1)).length c7))
      have HB9:=zqm (below_set (j:=1) (v:= .slice A7 (tabT U.length (mI U) (a+1)).length c7) HB8.out HGE.out)
      generalize w8.setCell ⟨g,1,none⟩ (.slice A7 (tabT U.length (mI U) (a+1)).length c7)=w9 at HG9 HA9 HO9 HV9 HX9 HB9 ⊢
      clear hs81 hf81 HG8 HA8 HO8 HV8 HX8 HB8
      have hs92:w9.cell? ⟨g,2,none⟩=some (.slice AO (tabT U.length (jI U) a).length cO):=(blk_cell HG9.out 2).trans rfl
      have hf92:=blk_frozen HG9.out 2
      refine zqp 19 85 (zqb 22 1048575) HT_ ?_
      refine zqp 20 86 (zqb 22 2097151) HT_ ?_
      refine last_ (i:=21) (N:=none) (zqb 22 4194303) rfl rfl (one_of HT_.out zqk) (by decide) (fun K hK=>?_)
      refine skip_ (w1:=w9.setCell ⟨g,2,none⟩ (.slice A8 (tabT U.length (jI U) (a+1)).length c8)) (by rfl) rfl ?_ ?_
      ·go_simp
      refine hK.out _ _ ?_
      clear hK K
      have HG10:=zqm (show (w9.setCell ⟨g,2,none⟩ (.slice A8 (tabT U.length (jI U) (a+1)).length c8)).heap[g]? =some (.cells #[.slice A0 U.length c0,.slice A7 (tabT U.length (mI U) (a+1)).length c7,.slice A8 (tabT U.length (jI U) (a+1)).length c8,.slice A1 N.length c1,.int .i64 (0),.int .i64 (0)] 43 (0,0)) from blk_put HG9.out 2 _ rfl)
      have HA10:=zqm (Kd.R_set HA9.out HG9.out (by decide) 2 (.slice A8 (tabT U.length (jI U) (a+1)).length c8))
      have HO10:=zqm (Kd.R_set HO9.out HG9.out (by decide) 2 (.slice A8 (tabT U.length (jI U) (a+1)).length c8))
      have HV10:=zqm (Kd.R_far (p:=⟨g,2,none⟩) HV9.out (fun k_ hk=>hk.1.1) (.slice A8 (tabT U.length (jI U) (a+1)).length c8))
      have HX10:=zqm (blk_far HX9.out (p:=⟨g,2,none⟩) HNE.out (.slice A8 (tabT U.length (jI U) (a+1)).length c8))
      have HB10:=zqm (below_set (j:=2) (v:= .slice A8 (tabT U.length (jI U) (a+1)).length c8) HB9.out HGE.out)
      generalize w9.setCell ⟨g,2,none⟩ (.slice A8 (tabT U.length (jI U) (a+1)).length c8)=w10 at HG10 HA10 HO10 HV10 HX10 HB10 ⊢
      clear hs92 hf92 HG9 HA9 HO9 HV9 HX9 HB9
      refine done_ (done_of HT_.out zqk) ?_
      go_wp2
      go_roundg kn
      case measure=>omega
      case rel=>exact⟨a+1,_,_,by first|go_num|(rw [wrap_small (by omega) (by omega)];go_num),⟨by have:=HK.out;omega⟩,⟨by have:=HLT.out;omega⟩,HG10,HA10,HO10,HX10,⟨Kd.R_mono HV10.out (fun k_ hk=>⟨⟨hk.1.1,hk.2⟩,hk.1.2⟩)⟩,HB10⟩
  ·obtain rfl:a=U.length:=by have:=HK2.out;omega
   clear hlt
   obtain⟨AA,cA,eA⟩:=Kd.R_slice HA.out
   obtain⟨AO,cO,eO⟩:=Kd.R_slice HO.out
   rw [tabT_length] at eA eO
   subst eA eO
   have hlt':decide (U.length<U.length)=false:=by simp
   have hg4:wr.cell? ⟨g,4,none⟩=some (.int .i64 0):=(blk_cell HG.out 4).trans rfl
   have hf4:=blk_frozen HG.out 4
   have hnb:gb≠g:=HNE.out
   have hnc:g≠gb:=Ne.symm HNE.out
   have HLE:=zqm (HF.out.least HLB.out)
   go_wp2_with ((go_at_call 49;(with_reducible refine(impl_LeastOf.calls k _ _ U (optI (leastO U)) (leastO U).isSome _ ?s1 ?s2 HLE.out).mono ?_);(case s1=> exact zq127);(case s2=>assumption);rintro e w' ⟨rfl,⟨nd,rfl⟩⟩))
   go_loopg [100] (N.length+1) (fun kq v100 W=> ∃(a:Nat),v100= .int .i64 a∧Aside0 (a+kq=N.length+1)∧Aside0 (a≤N.length)∧Aside0 (W.heap[g]? =some (.cells #[.slice A0 U.length c0,.slice AA U.length cA,.slice AO U.length cO,.slice A1 N.length c1,.int .i64 (optI (leastO U)),.int .i64 (0)] 43 (0,0)))∧Aside0 (Kd.R (Kd.slice 3 (Kd.int .i64)) 24 W w.heap.size (fun _=>True) (.slice AA U.length cA) (tabI U.length (mI U)))∧Aside0 (Kd.R (Kd.slice 3 (Kd.int .i64)) 24 W w.heap.size (fun _=>True) (.slice AO U.length cO) (tabI U.length (jI U)))∧Aside0 (U.length≤cA∧U.length≤cO)∧Aside0 (W.heap[gb]? =some (.cells #[.slice A0 U.length c0,.slice A1 N.length c1] 26 (0,0)))∧Aside0 (Below w.heap.size w W)∧Aside0 (∀i,i<a→Ok3 U N i))
   case atStart=>
    refine⟨0,rfl,⟨by omega⟩,⟨by omega⟩,⟨blk_put (blk_drewN HG.out nd) 4 _ rfl⟩,⟨Kd.R_mono (Kd.R_set (Kd.R_drewN HA.out nd) (blk_drewN HG.out nd) (by decide) 4 (.int .i64 (optI (leastO U)))) (fun _ _=>trivial)⟩,⟨Kd.R_mono (Kd.R_set (Kd.R_drewN HO.out nd) (blk_drewN HG.out nd) (by decide) 4 (.int .i64 (optI (leastO U)))) (fun _ _=>trivial)⟩,⟨?_⟩,⟨blk_far (blk_drewN HX.out nd) HNE.out _⟩,⟨below_set (pw_below_drewN HB.out nd) HGE.out⟩,⟨fun i hi=>absurd hi (by omega)⟩⟩
    ·exact⟨by have h_:=(Kd.R_reads HA.out);obtain⟨A_,c_,e_,l_,k_⟩:=h_;rw [tabT_length] at e_ l_;injection e_ with e1 e2 e3;subst e3;exact l_,by have h_:=(Kd.R_reads HO.out);obtain⟨A_,c_,e_,l_,k_⟩:=h_;rw [tabT_length] at e_ l_;injection e_ with e1 e2 e3;subst e3;exact l_⟩
   case round=>
    clear hg4 hf4 hq0 hq1 HA HO HOr HB HX HG
    obtain⟨a,rfl,HK3,HK4,HG,HCA,HCO,HCC,HX,HB,HS⟩:=hrel
    cases gk with
    |zero=>exact absurd HK3.out (by have:=HK4.out;omega)
    |succ kn3=>
    have hq0:wr.cell? ⟨gb,0,none⟩=some (.slice A0 U.length c0):=(blk_cell HX.out 0).trans rfl
    have hq1:wr.cell? ⟨gb,1,none⟩=some (.slice A1 N.length c1):=(blk_cell HX.out 1).trans rfl
    by_cases hlta:a<N.length
    ·have hlta':decide (a<N.length)=true:=decide_eq_true hlta
     have HLT:=zqm hlta
     obtain⟨adN,eN,hNa⟩:=ints_cell HR1.out a (by omega) (by omega)
     subst eN
     replace hNa:=cell_up hNa HB.out rfl
     simp only [Int.toNat_natCast] at hNa
     by_cases c1:0≤at1 N a∧at1 N a<(U.length:Int)
     ·have hA1:=zqm (show impl_isAnswer.f U (at1 N a)=some true by unfold impl_isAnswer.f;rw [if_pos c1.1];simp [c1.2])
      obtain⟨adN',eN',hNb⟩:=ints_cell HR1.out (at1 N a) c1.1 (by have:=HL.out;omega)
      cases eN'
      replace hNb:=cell_up hNb HB.out rfl
      by_cases c2:at1 N (at1 N a).toNat=(a:Int)
      ·have hc2:(at1 N (at1 N a).toNat !=(a:Int))=false:=by rw [c2];simp
       obtain⟨adA,adR,cR,eA,hRa,hRb,hRl⟩:=tab_cell (Kd.R_reads' HCA.out).2.2 (a:Int) (at1 N a) (by omega) (by have:=HL.out;omega) c1.1 c1.2
       subst eA
       simp only [Int.toNat_natCast] at hRa hRb
       have hg1:wr.cell? ⟨g,1,none⟩=some (.slice (some adA) U.length cA):=(blk_cell HG.out 1).trans rfl
       have hg4:wr.cell? ⟨g,4,none⟩=some (.int .i64 (optI (leastO U))):=(blk_cell HG.out 4).trans rfl
       have p1:(0≤at1 N a)=True:=eq_true c1.1
       have p2:(at1 N a<(U.length:Int))=True:=eq_true c1.2
       have p3:(at1 N a<(N.length:Int))=True:=eq_true (by have:=HL.out;omega)
       have p4:(a<N.length)=True:=eq_true hlta
       have p5:(a<U.length)=True:=eq_true (by have:=HL.out;omega)
       have C1:=zqm c1
       have C2:=zqm c2
       clear c1 c2 hlta
       by_cases c3:meetO U a (at1 N a).toNat=leastO U
       ·have hc3:(mI U a (at1 N a).toNat !=optI (leastO U))=false:=by unfold mI;rw [c3];simp
        have C3:=zqm c3
        clear c3
        go_wp2_with fail
        go_quiet ((go_at_call 50;(with_reducible refine(impl_isAnswer.calls _ _ U (at1 N a) true _ ?s1 ?s2 hA1.out).mono ?_);(case s1=> exact zq96);(case s2=>assumption);rintro e w' ⟨rfl,⟨nd,rfl⟩⟩;(try first|exact⟨rfl,_,World.drewN_drewN _ _ _⟩|exact⟨rfl,_,Eq.trans (World.drewN_drewN _ _ _) (congrArg (World.drewN _) (Nat.add_assoc _ _ _))⟩)))
        go_wp2
        go_roundg kn3
        case measure=>omega
        case rel=>exact⟨a+1,by first|go_num|(rw [wrap_small (by omega) (by have:=HLT.out;have:=HSM.out;have:=HL.out;omega)];go_num),⟨by have:=HK3.out;omega⟩,⟨by have:=HLT.out;omega⟩,⟨blk_drewN HG.out _⟩,⟨Kd.R_drewN HCA.out _⟩,⟨Kd.R_drewN HCO.out _⟩,HCC,⟨blk_drewN HX.out _⟩,⟨pw_below_drewN HB.out _⟩,⟨fun i hi=>by
         rcases Nat.lt_or_ge i a with h|h
         ·exact HS.out i h
         ·obtain rfl:i=a:=by omega
          exact⟨C1.out.1,C1.out.2,C2.out,C3.out⟩⟩⟩
       ·have hc3:(mI U a (at1 N a).toNat !=optI (leastO U))=true:=by rw [bne_iff_ne];intro h;exact c3 (optI_inj h)
        have HNO:=zqm (logicB_no3 (U:=U) (N:=N) (a:=a) zq131 (fun h=>c3 h.2.2.2))
        clear c3
        go_wp2_with fail
        go_quiet ((go_at_call 50;(with_reducible refine(impl_isAnswer.calls _ _ U (at1 N a) true _ ?s1 ?s2 hA1.out).mono ?_);(case s1=> exact zq96);(case s2=>assumption);rintro e w' ⟨rfl,⟨nd,rfl⟩⟩;(try first|exact⟨rfl,_,World.drewN_drewN _ _ _⟩|exact⟨rfl,_,Eq.trans (World.drewN_drewN _ _ _) (congrArg (World.drewN _) (Nat.add_assoc _ _ _))⟩)))
        go_wp2
        go_ret
        exact⟨pw_below_drewN HB.out _,.inr ⟨HNO.out,rfl⟩⟩
      ·have hc2:(at1 N (at1 N a).toNat !=(a:Int))=true:=by rw [bne_iff_ne];exact c2
       have p1:(0≤at1 N a)=True:=eq_true c1.1
       have p2:(at1 N a<(U.length:Int))=True:=eq_true c1.2
       have p3:(at1 N a<(N.length:Int))=True:=eq_true (by have:=HL.out;omega)
       have p4:(a<N.length)=True:=eq_true hlta
       have HNO:=zqm (logicB_no3 (U:=U) (N:=N) (a:=a) zq131 (fun h=>c2 h.2.2.1))
       clear c1 c2 hlta
       go_wp2_with fail
       go_quiet ((go_at_call 50;(with_reducible refine(impl_isAnswer.calls _ _ U (at1 N a) true _ ?s1 ?s2 hA1.out).mono ?_);(case s1=> exact zq96);(case s2=>assumption);rintro e w' ⟨rfl,⟨nd,rfl⟩⟩;(try first|exact⟨rfl,_,World.drewN_drewN _ _ _⟩|exact⟨rfl,_,Eq.trans (World.drewN_drewN _ _ _) (congrArg (World.drewN _) (Nat.add_assoc _ _ _))⟩)))
       go_wp2
       go_ret
       exact⟨pw_below_drewN HB.out _,.inr ⟨HNO.out,rfl⟩⟩
     ·have hA1:=zqm (show impl_isAnswer.f U (at1 N a)=some false by
       unfold impl_isAnswer.f
       by_cases h:at1 N a≥0
       ·rw [if_pos h];simp;exact Int.not_lt.1 fun h2=>c1 ⟨h,h2⟩
       ·rw [if_neg h])
      have p4:(a<N.length)=True:=eq_true hlta
      have HNO:=zqm (logicB_no3 (U:=U) (N:=N) (a:=a) zq131 (fun h=>c1 ⟨h.1,h.2.1⟩))
      clear c1 hlta
      go_wp2_with fail
      go_quiet ((go_at_call 50;(with_reducible refine(impl_isAnswer.calls _ _ U (at1 N a) false _ ?s1 ?s2 hA1.out).mono ?_);(case s1=> exact zq96);(case s2=>assumption);rintro e w' ⟨rfl,⟨nd,rfl⟩⟩;(try first|exact⟨rfl,_,World.drewN_drewN _ _ _⟩|exact⟨rfl,_,Eq.trans (World.drewN_drewN _ _ _) (congrArg (World.drewN _) (Nat.add_assoc _ _ _))⟩)))
      go_wp2
      go_ret
      exact⟨pw_below_drewN HB.out _,.inr ⟨HNO.out,rfl⟩⟩
    ·have hlta':decide (a<N.length)=false:=decide_eq_false hlta
     obtain rfl:a=N.length:=by have:=HK4.out;omega
     clear hlta
     have HOrd:=zqm (latticeB_order HLB.out)
     go_wp2_with fail
     go_loopg [140] (U.length+1) (fun kq v140 W=> ∃(a:Nat),v140= .int .i64 a∧Aside0 (a+kq=U.length+1)∧Aside0 (a≤U.length)∧Aside0 (W.heap[g]? =some (.cells #[.slice A0 U.length c0,.slice AA U.length cA,.slice AO U.length cO,.slice A1 N.length c1,.int .i64 (optI (leastO U)),.int .i64 (0)] 43 (0,0)))∧Aside0 (Kd.R (Kd.slice 3 (Kd.int .i64)) 24 W w.heap.size (fun _=>True) (.slice AA U.length cA) (tabI U.length (mI U)))∧Aside0 (Kd.R (Kd.slice 3 (Kd.int .i64)) 24 W w.heap.size (fun _=>True) (.slice AO U.length cO) (tabI U.length (jI U)))∧Aside0 (U.length≤cA∧U.length≤cO)∧Aside0 (W.heap[gb]? =some (.cells #[.slice A0 U.length c0,.slice A1 N.length c1] 26 (0,0)))∧Aside0 (Below w.heap.size w W)∧Aside0 (∀i,i<a→ ∀j,j<U.length→Ok5 U N i j))
     case atStart=>exact⟨0,rfl,⟨by omega⟩,⟨by omega⟩,HG,HCA,HCO,HCC,HX,HB,⟨fun i hi=>absurd hi (by omega)⟩⟩
     case round=>
      clear hq0 hq1 HG HCA HCO HCC HX HB
      obtain⟨a,rfl,HK5,HK6,HG,HCA,HCO,HCC,HX,HB,HT⟩:=hrel
      cases gk with
      |zero=>exact absurd HK5.out (by have:=HK6.out;omega)
      |succ kn4=>
      have hq0:wr.cell? ⟨gb,0,none⟩=some (.slice A0 U.length c0):=(blk_cell HX.out 0).trans rfl
      have hq1:wr.cell? ⟨gb,1,none⟩=some (.slice A1 N.length c1):=(blk_cell HX.out 1).trans rfl
      by_cases hlta:a<U.length
      ·have hlta':decide (a<U.length)=true:=decide_eq_true hlta
       have HLT:=zqm hlta
       have hrow:=HOrd.out.row a hlta
       obtain⟨adU,Ar,cr,eU,hUa,hUl,hUr⟩:=rows_cell HR0.out a (by omega) (by omega)
       subst eU
       simp only [Int.toNat_natCast] at hUa hUl hUr
       rw [hrow] at hUa hUl hUr
       replace hUa:=cell_up hUa HB.out rfl
       have HUr:=zqm (Kd.C_below hUr HB.out)
       have p1:(a<U.length)=True:=eq_true hlta
       clear hlta hrow hUr
       go_wp2_with fail
       obtain⟨wo,rfl⟩: ∃wo:World,wo=wr:=⟨_,rfl⟩
       go_loopg [147] (U.length+1) (fun kj v147 W=> ∃(b m:Nat),v147= .int .i64 b∧Aside0 (b+kj=U.length+1)∧Aside0 (b≤U.length)∧Aside0 (∀j,j<b→Ok5 U N a j)∧W=wo.drewN m)
       case atStart=>exact⟨0,0,rfl,⟨by omega⟩,⟨by omega⟩,⟨fun i hi=>absurd hi (by omega)⟩,rfl⟩
       case round=>
        obtain⟨b,m,rfl,HKj,HKj2,HU5,rfl⟩:=hrel
        cases gk with
        |zero=>exact absurd HKj.out (by have:=HKj2.out;omega)
        |succ kj=>
        by_cases hltb:b<U.length
        ·have hltb':decide (b<U.length)=true:=decide_eq_true hltb
         have HLTb:=zqm hltb
         have p2:(b<U.length)=True:=eq_true hltb
         obtain⟨adR,eR,hRb⟩:=ints_cell HUr.out b (by omega) (by omega)
         subst eR
         simp only [Int.toNat_natCast] at hRb
         have hRb':wo.cell? (adR.add b)=some (.int .i64 (at2 U a b)):=hRb
         clear hRb
         by_cases d1:leB U a b=true
         ·have hd1:(at2 U a b==1)=true:=d1
          obtain⟨q1,q2,_,_⟩:=HS.out a zq131
          obtain⟨q3,q4,_,_⟩:=HS.out b (by have:=HL.out;omega)
          obtain⟨adN,eN,hNa⟩:=ints_cell HR1.out a (by omega) zq131
          subst eN
          obtain⟨adN',eN',hNb⟩:=ints_cell HR1.out b (by omega) (by have:=HL.out;omega)
          cases eN'
          obtain⟨ad1,ad2,cr2,e1,hM1,hM2,hMl⟩:=mat_cell HR0.out HOrd.out.row (at1 N b) (at1 N a) q3 q4 q1 q2
          cases e1
          replace hNa:=cell_up hNa HB.out rfl
          replace hNb:=cell_up hNb HB.out rfl
          replace hM1:=cell_up hM1 HB.out rfl
          replace hM2:=cell_up hM2 HB.out rfl
          simp only [Int.toNat_natCast] at hNa hNb
          have p3:(0≤at1 N a)=True:=eq_true q1
          have p4:(at1 N a<(U.length:Int))=True:=eq_true q2
          have p5:(0≤at1 N b)=True:=eq_true q3
          have p6:(at1 N b<(U.length:Int))=True:=eq_true q4
          have p7:(a<N.length)=True:=eq_true zq131
          have p8:(b<N.length)=True:=eq_true (by have:=HL.out;omega)
          have D1:=zqm d1
          clear q1 q2 q3 q4 hltb d1
          by_cases d2:leB U (at1 N b).toNat (at1 N a).toNat=true
          ·have hd2:(at2 U (at1 N b).toNat (at1 N a).toNat !=1)=false:=by have h_:(at2 U (at1 N b).toNat (at1 N a).toNat==1)=true:=d2;simpa [bne] using h_
           have D2:=zqm d2
           clear d2
           go_wp2_with fail
           go_quiet (fail)
           go_wp2
           go_roundg kj
           case measure=>omega
           case rel=>exact⟨b+1,_,zq141,⟨by have:=HKj.out;omega⟩,⟨by have:=HLTb.out;omega⟩,⟨fun i hi=>by
            rcases Nat.lt_or_ge i b with h|h
            ·exact HU5.out i h
            ·obtain rfl:i=b:=by omega
             exact fun _=>D2.out⟩,rfl⟩
          ·have hd2:(at2 U (at1 N b).toNat (at1 N a).toNat !=1)=true:=by rw [bne_iff_ne];intro h_;exact d2 (by unfold leB;rw [h_];rfl)
           have HNO:=zqm (logicB_no5 (U:=U) (N:=N) (a:=a) (b:=b) HLT.out HLTb.out (fun h=>d2 (h D1.out)))
           clear d2
           go_wp2_with fail
           go_quiet (fail)
           go_wp2
           go_ret
           exact⟨by repeat(first|exact HB.out|apply pw_below_drewN|apply below_drew1),.inr ⟨HNO.out,rfl⟩⟩
         ·have hd1:(at2 U a b==1)=false:=by simpa [leB] using d1
          have D1:=zqm d1
          clear d1 hltb
          go_wp2_with fail
          go_quiet (fail)
          go_wp2
          go_roundg kj
          case measure=>omega
          case rel=>exact⟨b+1,_,zq141,⟨by have:=HKj.out;omega⟩,⟨by have:=HLTb.out;omega⟩,⟨fun i hi=>by
           rcases Nat.lt_or_ge i b with h|h
           ·exact HU5.out i h
           ·obtain rfl:i=b:=by omega
            exact fun h=>absurd h D1.out⟩,rfl⟩
        ·have hltb':decide (b<U.length)=false:=decide_eq_false hltb
         obtain rfl:b=U.length:=by have:=HKj2.out;omega
         clear hltb
         go_wp2_with fail
         go_roundg kn4
         case measure=>omega
         case rel=>exact⟨a+1,by first|go_num|(rw [wrap_small (by omega) (by have:=HLT.out;have:=HSM.out;omega)];go_num),⟨by have:=HK5.out;omega⟩,⟨by have:=HLT.out;omega⟩,⟨blk_drewN HG.out _⟩,⟨Kd.R_drewN HCA.out _⟩,⟨Kd.R_drewN HCO.out _⟩,HCC,⟨blk_drewN HX.out _⟩,⟨pw_below_drewN HB.out _⟩,⟨fun i hi=>by
          rcases Nat.lt_or_ge i a with h|h
          ·exact HT.out i h
          ·obtain rfl:i=a:=by omega
           exact HU5.out⟩⟩
      ·have hlta':decide (a<U.length)=false:=decide_eq_false hlta
       obtain rfl:a=U.length:=by have:=HK6.out;omega
       clear hlta
       have HYES:=zqm (logicB_yes (U:=U) (N:=N) HLB.out HL.out (fun i hi=>HS.out i (by have:=HL.out;omega)) HT.out)
       have HLg:=zqm (logicB_iff.1 HYES.out)
       obtain⟨mno,hmno⟩:=HLg.out.least_some
       have hno:optI (leastO U)=(mno:Int):=by rw [hmno];rfl
       have hmn:mno<U.length:=(findN_some hmno).1
       obtain⟨adN,eN,hNa⟩:=ints_cell HR1.out mno (by omega) (by have:=HL.out;omega)
       subst eN
       replace hNa:=cell_up hNa HB.out rfl
       simp only [Int.toNat_natCast] at hNa
       rw [hno] at HG
       have hg4:wr.cell? ⟨g,4,none⟩=some (.int .i64 (mno:Int)):=(blk_cell HG.out 4).trans rfl
       have hg5:wr.cell? ⟨g,5,none⟩=some (.int .i64 0):=(blk_cell HG.out 5).trans rfl
       have hf5:=blk_frozen HG.out 5
       have p1:(mno<N.length)=True:=eq_true (by have:=HL.out;omega)
       have HNO:=zqm hno
       clear hno hmno hmn
       go_wp2_with fail
       refine start_ (n:=12) (S:=(fun w'=>w'.cell? ⟨gb,1,none⟩=some (.slice (some adN) N.length c1)∧w'.cell? ⟨g,4,none⟩=some (.int .i64 (mno:Int))∧w'.cell? (adN.add mno)=some (.int .i64 (at1 N mno)))) (ds:= [11]) (zqb 12 0) zqk rfl rfl ⟨hq1,hg4,hNa⟩ (fun hHeld=>?_)
       refine with_tabW impl_told.tab34 impl_told.bits34 (fun HT_ HW_=>?_)
       refine zqp 0 175 (zqb 12 1) HT_ ?_
       refine zqp 1 176 (zqb 12 3) HT_ ?_
       refine zqp 3 178 (zqb 12 11) HT_ ?_
       refine zqp 4 179 (zqb 12 27) HT_ ?_
       refine zqp 5 180 (zqb 12 59) HT_ ?_
       refine zqw 2 177 (zqb 12 63) HT_ HW_ hHeld ?_
       refine zqw 6 181 (zqb 12 127) HT_ HW_ hHeld ?_
       refine zqp 7 182 (zqb 12 255) HT_ ?_
       refine zqw 8 183 (zqb 12 511) HT_ HW_ hHeld ?_
       refine zqp 9 184 (zqb 12 1023) HT_ ?_
       refine zqp 10 185 (zqb 12 2047) HT_ ?_
       refine last_ (i:=11) (N:=none) (zqb 12 4095) rfl rfl (one_of HT_.out zqk) (by decide) (fun K hK=>?_)
       refine skip_ (w1:=World.setCell wr.drew ⟨g,5,none⟩ (.int .i64 (at1 N mno))) (by rfl) rfl ?_ ?_
       ·go_simp
       refine hK.out _ _ ?_
       clear hK K
       refine done_ (done_of HT_.out zqk) ?_
       go_wp2
       go_ret
       refine⟨below_set (below_drew1 HB.out) HGE.out,.inl ⟨HYES.out,g,rfl,HGE.out,?_⟩⟩
       unfold AlgOf;rw [HNO.out,Int.toNat_natCast]
       have hb5:Below w.heap.size w (World.setCell wr.drew ⟨g,5,none⟩ (.int .i64 (at1 N mno))):=below_set (below_drew1 HB.out) HGE.out
       have hA5:=(Kd.R_reads' (Kd.R_set (Kd.R_drew HCA.out) (blk_drew HG.out) (by decide) 5 (.int .i64 (at1 N mno)))).2.2
       have hO5:=(Kd.R_reads' (Kd.R_set (Kd.R_drew HCO.out) (blk_drew HG.out) (by decide) 5 (.int .i64 (at1 N mno)))).2.2
       refine⟨_,c0,AA,cA,AO,cO,_,c1,?_,⟨hc0,by rw [tabI_length];exact HCC.out.1,by rw [tabI_length];exact HCC.out.2,hc1⟩,Kd.C_below HR0.out hb5,hA5,hO5,Kd.C_below HR1.out hb5⟩
       rw [tabI_length,tabI_length];exact blk_put (blk_drew HG.out) 5 _ rfl
theorem told_calls (k : Nat) (A0 : Option Addr) (c0 : Nat) (U : List (List Int)) (A1 : Option Addr) (c1 : Nat) (N : List Int) (w : World)
 (hr0:Kd.C (Kd.slice 3 (Kd.int .i64)) w A0 U.length U) (hc0:U.length≤c0) (hr1:Kd.C (Kd.int .i64) w A1 N.length N) (hc1:N.length≤c1) (hF:ToldFacts k U):Calls Try.prog 18 #[.agg #[.slice A0 U.length c0,.slice A1 N.length c1]] w (ToldPost U N w):=by
 cases hlat:latticeB U with
 |false=>
  refine(told_flat k A0 c0 U A1 c1 N w hr0 hc0 hr1 hc1 (hlat ▸ hF.lat)).mono fun e w' h=>⟨h.2,.inr ⟨?_,h.1⟩⟩
  unfold logicB;rw [hlat];rfl
 |true=>
  by_cases hl:N.length=U.length
  ·exact told_walk k A0 c0 U A1 c1 N w hr0 hc0 hr1 hc1 hF hl hlat
  ·refine(told_long k A0 c0 U A1 c1 N w hr0 hc0 hr1 hc1 (hlat ▸ hF.lat) hl).mono fun e w' h=>⟨h.2,.inr ⟨?_,h.1⟩⟩
   rw [Bool.eq_false_iff]
   intro h2
   exact hl (logicB_iff.1 h2).len
section
def In (U : List (List Int)) (a : Int) : Prop := 0 ≤ a ∧ a < (U.length : Int)
def andI (U : List (List Int)) (a b : Int) : Int := mI U a.toNat b.toNat
def orI (U : List (List Int)) (a b : Int) : Int := jI U a.toNat b.toNat
def notI (N : List Int) (a : Int) : Int := at1 N a.toNat
def noI (U : List (List Int)) : Int := optI (leastO U)
def yesI (U : List (List Int)) (N : List Int) : Int := notI N (noI U)
section
variable {U : List (List Int)} {N : List Int} (L : Logic U N)
include L
theorem _root_.Oml.Logic.in_and {a b : Int} (ha : In U a) (hb : In U b) : In U (andI U a b) := by
 obtain⟨m,hm⟩:=Option.isSome_iff_exists.1 (L.meets a.toNat b.toNat (by have:=ha.1;have:=ha.2;omega) (by have:=hb.1;have:=hb.2;omega))
 have:=(findN_some hm).1
 unfold In andI mI;rw [hm];simp only [optI];omega
theorem _root_.Oml.Logic.in_or {a b : Int} (ha : In U a) (hb : In U b) : In U (orI U a b) := by
 obtain⟨m,hm⟩:=Option.isSome_iff_exists.1 (L.joins a.toNat b.toNat (by have:=ha.1;have:=ha.2;omega) (by have:=hb.1;have:=hb.2;omega))
 have:=(findN_some hm).1
 unfold In orI jI;rw [hm];simp only [optI];omega
theorem _root_.Oml.Logic.in_not {a : Int} (ha : In U a) : In U (notI N a) := L.ran a.toNat (by have := ha.1; have := ha.2; omega)
end
structure Adr where
 aU:Addr
 aA:Addr
 aO:Addr
 aN:Addr
 cU:Nat
 cA:Nat
 cO:Nat
 cN:Nat
 rU:Nat→Addr
 rA:Nat→Addr
 rO:Nat→Addr
 qU:Nat→Nat
 qA:Nat→Nat
 qO:Nat→Nat
structure View (W : World) (g : Nat) (U : List (List Int)) (N : List Int) (v : Adr) : Prop where
 blk:W.heap[g]? =some (.cells #[.slice (some v.aU) U.length v.cU,.slice (some v.aA) U.length v.cA,.slice (some v.aO) U.length v.cO,.slice (some v.aN) U.length v.cN,.int .i64 (noI U),.int .i64 (yesI U N)] 43 (0,0))
 len:N.length=U.length
 u: ∀a,In U a→W.cell? (v.aU.add a.toNat)=some (.slice (some (v.rU a.toNat)) U.length (v.qU a.toNat))
 u2: ∀a b,In U a→In U b→W.cell? ((v.rU a.toNat).add b.toNat)=some (.int .i64 (at2 U a.toNat b.toNat))
 m: ∀a,In U a→W.cell? (v.aA.add a.toNat)=some (.slice (some (v.rA a.toNat)) U.length (v.qA a.toNat))
 m2: ∀a b,In U a→In U b→W.cell? ((v.rA a.toNat).add b.toNat)=some (.int .i64 (andI U a b))
 j: ∀a,In U a→W.cell? (v.aO.add a.toNat)=some (.slice (some (v.rO a.toNat)) U.length (v.qO a.toNat))
 j2: ∀a b,In U a→In U b→W.cell? ((v.rO a.toNat).add b.toNat)=some (.int .i64 (orI U a b))
 n: ∀a,In U a→W.cell? (v.aN.add a.toNat)=some (.int .i64 (notI N a))
 capU:U.length≤v.cU
 capR: ∀a,In U a→U.length≤v.qU a.toNat
namespace View
section
variable {W W1 : World} {g : Nat} {U : List (List Int)} {N : List Int} {v : Adr} (h : View W g U N v)
include h
theorem below (hb : Below W.heap.size W W1) : View W1 g U N v where
 blk:=blk_below h.blk hb
 len:=h.len
 u:=fun a ha=>cell_up (h.u a ha) hb rfl
 u2:=fun a b ha hb'=>cell_up (h.u2 a b ha hb') hb rfl
 m:=fun a ha=>cell_up (h.m a ha) hb rfl
 m2:=fun a b ha hb'=>cell_up (h.m2 a b ha hb') hb rfl
 j:=fun a ha=>cell_up (h.j a ha) hb rfl
 j2:=fun a b ha hb'=>cell_up (h.j2 a b ha hb') hb rfl
 n:=fun a ha=>cell_up (h.n a ha) hb rfl
 capU:=h.capU
 capR:=h.capR
theorem f0 : W.cell? ⟨g, 0, none⟩ = some (.slice (some v.aU) U.length v.cU) := (blk_cell h.blk 0).trans rfl
theorem f1 : W.cell? ⟨g, 1, none⟩ = some (.slice (some v.aA) U.length v.cA) := (blk_cell h.blk 1).trans rfl
theorem f2 : W.cell? ⟨g, 2, none⟩ = some (.slice (some v.aO) U.length v.cO) := (blk_cell h.blk 2).trans rfl
theorem f3 : W.cell? ⟨g, 3, none⟩ = some (.slice (some v.aN) U.length v.cN) := (blk_cell h.blk 3).trans rfl
theorem drewN (n : Nat) : View (W.drewN n) g U N v := h.below (pw_below_drewN (Below.refl _ _) n)
theorem alloc (o : Obj) : View (W.alloc o) g U N v := h.below (below_alloc (Below.refl _ _) o)
end
end View
theorem rows_adr {W : World} {A : Option Addr} {n m : Nat} {xs : List (List Int)} (h : Kd.C (Kd.slice 3 (Kd.int .i64)) W A m xs) (hm : m = n) (hn : 0 < n) (hr : ∀ a, a < n → (xs.getD a []).length = n) :
 ∃(ad:Addr) (r:Nat→Addr) (q:Nat→Nat),A=some ad∧(∀a,a<n→W.cell? (ad.add a)=some (.slice (some (r a)) n (q a)))∧(∀a b,a<n→b<n→W.cell? ((r a).add b)=some (.int .i64 (at2 xs a b)))∧ ∀a,a<n→n≤q a:=by
 subst hm
 obtain⟨ad,_,_,e,_⟩:=mat_cell h hr 0 0 (by omega) (by omega) (by omega) (by omega)
 have key: ∀a:Nat,∃(r:Addr) (q:Nat),a<m→W.cell? (ad.add a)=some (.slice (some r) m q)∧(∀b,b<m→W.cell? (r.add b)=some (.int .i64 (at2 xs a b)))∧m≤q:=by
  intro a
  by_cases ha:a<m
  ·obtain⟨ad1,Ar,cr,e1,hc,hl,hk⟩:=rows_cell h a (by omega) (by omega)
   rw [e] at e1
   injection e1 with e1
   subst e1
   simp only [Int.toNat_natCast] at hc hl hk
   rw [hr a ha] at hc hl hk
   obtain⟨r,e2,_⟩:=ints_cell hk 0 (by omega) (by omega)
   subst e2
   refine⟨r,cr,fun _=>⟨hc,fun b hb=>?_,hl⟩⟩
   obtain⟨r',e3,hc3⟩:=ints_cell hk b (by omega) (by omega)
   cases e3
   simpa [at2,at1] using hc3
  ·exact⟨ad,0,fun h=>absurd h ha⟩
 refine⟨ad,fun a=>Classical.choose (key a),fun a=>Classical.choose (Classical.choose_spec (key a)),e,fun a ha=>?_,fun a b ha hb=>?_,fun a ha=>?_⟩
 ·exact(Classical.choose_spec (Classical.choose_spec (key a)) ha).1
 ·exact(Classical.choose_spec (Classical.choose_spec (key a)) ha).2.1 b hb
 ·exact(Classical.choose_spec (Classical.choose_spec (key a)) ha).2.2
theorem view_of {W : World} {g : Nat} {U : List (List Int)} {N : List Int} (L : Logic U N) (h : AlgOf W g U N) : ∃ v, View W g U N v := by
 obtain⟨A0,c0,A1,c1,A2,c2,A3,c3,h1,hc,k0,k1,k2,k3⟩:=h
 have hn:0<U.length:=L.pos
 rw [tabI_length] at h1 hc k1 k2
 rw [tabI_length,L.len] at h1
 rw [tabI_length,L.len] at hc
 rw [L.len] at k3
 obtain⟨aU,rU,qU,eU,u1,u2,u3⟩:=rows_adr k0 rfl hn L.row
 obtain⟨aA,rA,qA,eA,m1,m2,m3⟩:=rows_adr k1 rfl hn (tabI_row _ _)
 obtain⟨aO,rO,qO,eO,j1,j2,j3⟩:=rows_adr k2 rfl hn (tabI_row _ _)
 obtain⟨aN,eN,_⟩:=ints_cell k3 0 (by omega) (by omega)
 subst eU eA eO eN
 have nat: ∀a,In U a→a.toNat<U.length:=fun a ha=>by have:=ha.1;have:=ha.2;omega
 refine⟨⟨aU,aA,aO,aN,c0,c1,c2,c3,rU,rA,rO,qU,qA,qO⟩,{ blk:=h1,len:=L.len,u:=fun a ha=>u1 _ (nat a ha),u2:=fun a b ha hb=>u2 _ _ (nat a ha) (nat b hb),m:=fun a ha=>m1 _ (nat a ha),m2:=fun a b ha hb=>?_,j:=fun a ha=>j1 _ (nat a ha),j2:=fun a b ha hb=>?_,n:=fun a ha=>?_,capU:=hc.1,capR:=fun a ha=>u3 _ (nat a ha) }⟩
 ·rw [m2 _ _ (nat a ha) (nat b hb),tabI_at _ _ _ _ (nat a ha) (nat b hb)];rfl
 ·rw [j2 _ _ (nat a ha) (nat b hb),tabI_at _ _ _ _ (nat a ha) (nat b hb)];rfl
 ·obtain⟨ad,e,hcell⟩:=ints_cell k3 a ha.1 ha.2
  cases e
  exact hcell
theorem told_y (k : Nat) (A0 : Option Addr) (c0 : Nat) (U : List (List Int)) (A1 : Option Addr) (c1 : Nat) (N : List Int) (w : World)
 (hr0:Kd.C (Kd.slice 3 (Kd.int .i64)) w A0 U.length U) (hc0:U.length≤c0) (hr1:Kd.C (Kd.int .i64) w A1 N.length N) (hc1:N.length≤c1) (hF:ToldFacts k U) (hL:logicB U N=true):
 Calls Try.prog 18 #[.agg #[.slice A0 U.length c0,.slice A1 N.length c1]] w fun e w'=> ∃g v,e= .returned (.pointer (some ⟨g,0,none⟩))∧View w' g U N v∧w.heap.size≤g∧Below w.heap.size w w':=by
 refine(told_calls k A0 c0 U A1 c1 N w hr0 hc0 hr1 hc1 hF).mono fun e w' h=>?_
 obtain⟨hb,h|h⟩:=h
 ·obtain⟨_,g,he,hg,ha⟩:=h
  obtain⟨v,hv⟩:=view_of (logicB_iff.1 hL) ha
  exact⟨g,v,he,hv,hg,hb⟩
 ·rw [hL] at h;exact absurd h.1 (by simp)
theorem told_n (k : Nat) (A0 : Option Addr) (c0 : Nat) (U : List (List Int)) (A1 : Option Addr) (c1 : Nat) (N : List Int) (w : World)
 (hr0:Kd.C (Kd.slice 3 (Kd.int .i64)) w A0 U.length U) (hc0:U.length≤c0) (hr1:Kd.C (Kd.int .i64) w A1 N.length N) (hc1:N.length≤c1) (hF:ToldFacts k U) (hL:logicB U N=false):
 Calls Try.prog 18 #[.agg #[.slice A0 U.length c0,.slice A1 N.length c1]] w fun e w'=>e= .returned (.pointer none)∧Below w.heap.size w w':=by
 refine(told_calls k A0 c0 U A1 c1 N w hr0 hc0 hr1 hc1 hF).mono fun e w' h=>?_
 obtain⟨hb,h|h⟩:=h
 ·rw [hL] at h;exact absurd h.1 (by simp)
 ·exact⟨h.2,hb⟩
end
theorem Ev.down {ρ : Type} {g : Nat → Nat → Option ρ} {R : Nat → ρ} (n : Nat) (hend : Ev (fun k => g k n) (R n)) (hstep : ∀ i, i < n → Ev (fun k => g k (i + 1)) (R (i + 1)) → Ev (fun k => g k i) (R i)) : ∀ i, i ≤ n → Ev (fun k => g k i) (R i) := by
 intro i hi
 obtain⟨d,hd⟩: ∃d,n=i+d:=⟨n - i,by omega⟩
 induction d generalizing i with
 |zero=>
  obtain rfl:n=i:=by omega
  exact hend
 |succ d ih=>exact hstep i (by omega) (ih (i+1) (by omega) (by omega))
theorem Ev.eq {α : Type} {g : Nat → Option α} {r r' : α} (h : Ev g r) (e : r = r') : Ev g r' := e ▸ h
def allFrom (n : Nat) (p : Nat → Bool) (i : Nat) : Bool := (List.range' i (n - i)).all p
def fstFrom (n : Nat) (p : Nat → Bool) (i : Nat) : Option Nat := (List.range' i (n - i)).find? p
theorem allFrom_lt {n : Nat} {p : Nat → Bool} {i : Nat} (h : i < n) : allFrom n p i = (p i && allFrom n p (i + 1)) := by
 unfold allFrom
 obtain⟨d,rfl⟩: ∃d,n=i+(d+1):=⟨n - i - 1,by omega⟩
 rw [show i+(d+1) - i=d+1 by omega,show i+(d+1) - (i+1)=d by omega,List.range'_succ,List.all_cons]
theorem allFrom_ge {n : Nat} {p : Nat → Bool} {i : Nat} (h : n ≤ i) : allFrom n p i = true := by
 unfold allFrom; rw [show n - i = 0 by omega]; rfl
theorem allFrom_zero (n : Nat) (p : Nat → Bool) : allFrom n p 0 = allN n p := by
 unfold allFrom allN; rw [Nat.sub_zero, List.range_eq_range']
theorem fstFrom_lt {n : Nat} {p : Nat → Bool} {i : Nat} (h : i < n) : fstFrom n p i = if p i = true then some i else fstFrom n p (i + 1) := by
 unfold fstFrom
 obtain⟨d,rfl⟩: ∃d,n=i+(d+1):=⟨n - i - 1,by omega⟩
 rw [show i+(d+1) - i=d+1 by omega,show i+(d+1) - (i+1)=d by omega,List.range'_succ,List.find?_cons]
 cases p i <;> simp
theorem fstFrom_ge {n : Nat} {p : Nat → Bool} {i : Nat} (h : n ≤ i) : fstFrom n p i = none := by
 unfold fstFrom; rw [show n - i = 0 by omega]; rfl
theorem fstFrom_zero (n : Nat) (p : Nat → Bool) : fstFrom n p 0 = findN n p := by
 unfold fstFrom findN; rw [Nat.sub_zero, List.range_eq_range']
theorem wrap_nat {i : Nat} (h : i < 4611686018427387904) : wrap64 ((i : Int) + 1) = ((i + 1 : Nat) : Int) := by unfold wrap64; omega
theorem Ev.succ {α : Type} {g : Nat → Option α} {r : α} (h : Ev (fun k => g (k + 1)) r) : Ev g r := Ev.step (fun _ => rfl) h
theorem Ev.ite_pos {α : Type} {c : Prop} [Decidable c] {a b : Nat → Option α} {r : α} (h : c) (k : Ev a r) : Ev (fun n => if c then a n else b n) r := by simpa only [if_pos h] using k
theorem Ev.ite_neg {α : Type} {c : Prop} [Decidable c] {a b : Nat → Option α} {r : α} (h : ¬ c) (k : Ev b r) : Ev (fun n => if c then a n else b n) r := by simpa only [if_neg h] using k
theorem Ev.ip {α : Type} {c : Prop} [Decidable c] {a b : Nat → Option α} {r : α} (k : Ev a r) (h : c := by first | assumption | (focus omega) | (simp <;> fail)) : Ev (fun n => if c then a n else b n) r := Ev.ite_pos h k
theorem Ev.iq {α : Type} {c : Prop} [Decidable c] {a b : Nat → Option α} {r : α} (k : Ev b r) (h : ¬ c := by first | assumption | (focus omega) | (simp <;> fail)) : Ev (fun n => if c then a n else b n) r := Ev.ite_neg h k
theorem Ev.pure {α : Type} {o : Option α} {r : α} (h : o = some r) : Ev (fun _ => o) r := h ▸ Ev.now r
theorem Ev.pbind {α β : Type} {g : Option α} {f : Nat → α → Option β} {a : α} {r : β} (h : g = some a) (k : Ev (fun n => f n a) r) : Ev (fun n => g.bind (f n)) r := Ev.bind (g := fun _ => g) (Ev.pure h) k
theorem Ev.all {ρ : Type} {g : Nat → Int → Option ρ} {n : Nat} (p : Nat → Bool) {go stop : ρ} (hn : n < 4611686018427387904) (hend : (∀ i, i < n → p i = true) → Ev (fun k => g k (n : Int)) go)
 (hstep: ∀i,i<n→(∀j,j<i→p j=true)→ ∀R,(p i=true→Ev (fun k=>g k (wrap64 ((i:Int)+1))) R)→Ev (fun k=>g k (i:Int)) (if p i=true then R else stop)):
 Ev (fun k=>g k 0) (if allN n p=true then go else stop):=by
 have key: ∀d i,i+d=n→(∀j,j<i→p j=true)→Ev (fun k=>g k (i:Int)) (if allFrom n p i=true then go else stop):=by
  intro d
  induction d with
  |zero=>
   intro i hi hj
   obtain rfl:i=n:=by omega
   rw [allFrom_ge (Nat.le_refl _),if_pos rfl]
   exact hend hj
  |succ d ih=>
   intro i hi hj
   rw [allFrom_lt (by omega)]
   refine Ev.eq (hstep i (by omega) hj (if allFrom n p (i+1)=true then go else stop) fun hp=>?_) ?_
   ·rw [wrap_nat (by omega)]
    exact ih (i+1) (by omega) fun j hj'=>by
     rcases Nat.lt_or_ge j i with h|h
     ·exact hj j h
     ·obtain rfl:j=i:=by omega
      exact hp
   ·cases p i <;> simp
 have:=key n 0 (by omega) fun _ h=>absurd h (Nat.not_lt_zero _)
 rw [allFrom_zero] at this
 exact this
theorem Ev.find {ρ : Type} {g : Nat → Int → Option ρ} {n : Nat} (p : Nat → Bool) {none' : ρ} {some' : Nat → ρ} (hn : n < 4611686018427387904) (hend : (∀ i, i < n → p i = false) → Ev (fun k => g k (n : Int)) none')
 (hstep: ∀i,i<n→(∀j,j<i→p j=false)→ ∀R,(p i=false→Ev (fun k=>g k (wrap64 ((i:Int)+1))) R)→Ev (fun k=>g k (i:Int)) (if p i=true then some' i else R)):
 Ev (fun k=>g k 0) (match findN n p with|some i=>some' i|none=>none'):=by
 have key: ∀d i,i+d=n→(∀j,j<i→p j=false)→Ev (fun k=>g k (i:Int)) (match fstFrom n p i with|some i=>some' i|none=>none'):=by
  intro d
  induction d with
  |zero=>
   intro i hi hj
   obtain rfl:i=n:=by omega
   rw [fstFrom_ge (Nat.le_refl _)]
   exact hend hj
  |succ d ih=>
   intro i hi hj
   rw [fstFrom_lt (by omega)]
   refine Ev.eq (hstep i (by omega) hj (match fstFrom n p (i+1) with|some i=>some' i|none=>none') fun hp=>?_) ?_
   ·rw [wrap_nat (by omega)]
    exact ih (i+1) (by omega) fun j hj'=>by
     rcases Nat.lt_or_ge j i with h|h
     ·exact hj j h
     ·obtain rfl:j=i:=by omega
      exact hp
   ·cases p i <;> simp
 have:=key n 0 (by omega) fun _ h=>absurd h (Nat.not_lt_zero _)
 rw [fstFrom_zero] at this
 exact this
theorem Ev.loop {σ ρ : Type} {g : Nat → σ → Int → Option ρ} (n : Nat) (I : Nat → σ → Prop) {R : ρ} (hn : n < 4611686018427387904) (hend : ∀ s, I n s → Ev (fun k => g k s (n : Int)) R)
 (hstep: ∀i s,i<n→I i s→ ∃s',I (i+1) s'∧(Ev (fun k=>g k s' (wrap64 ((i:Int)+1))) R→Ev (fun k=>g k s (i:Int)) R)): ∀s,I 0 s→Ev (fun k=>g k s 0) R:=by
 have key: ∀d i,i+d=n→ ∀s,I i s→Ev (fun k=>g k s (i:Int)) R:=by
  intro d
  induction d with
  |zero=>
   intro i hi s hs
   obtain rfl:i=n:=by omega
   exact hend s hs
  |succ d ih=>
   intro i hi s hs
   obtain⟨s',h1,h2⟩:=hstep i s (by omega) hs
   refine h2 ?_
   rw [wrap_nat (by omega)]
   exact ih (i+1) (by omega) s' h1
 exact fun s hs=>key n 0 (by omega) s hs
theorem Ev.all1 {ρ : Type} {g : Nat → Nat → Option ρ} {R : Nat → ρ} (n : Nat) (h : ∀ a, a < n → Ev (fun k => g k a) (R a)) : ∃ K, ∀ a, a < n → ∀ k, K ≤ k → g k a = some (R a) := by
 induction n with
 |zero=>exact⟨0,fun a ha=>absurd ha (Nat.not_lt_zero _)⟩
 |succ n ih=>
  obtain⟨K,hK⟩:=ih fun a ha=>h a (by omega)
  obtain⟨K',hK'⟩:=h n (by omega)
  refine⟨K+K',fun a ha k hk=>?_⟩
  rcases Nat.lt_or_ge a n with hlt|hge
  ·exact hK a hlt k (by omega)
  ·obtain rfl:a=n:=by omega
   exact hK' k (by omega)
theorem Ev.all2 {ρ : Type} {g : Nat → Nat → Nat → Option ρ} {R : Nat → Nat → ρ} (n : Nat) (h : ∀ a b, a < n → b < n → Ev (fun k => g k a b) (R a b)) : ∃ K, ∀ a b, a < n → b < n → ∀ k, K ≤ k → g k a b = some (R a b) := by
 have h1: ∀a,a<n→ ∃K,∀b,b<n→ ∀k,K≤k→g k a b=some (R a b):=fun a ha=>Ev.all1 n fun b hb=>h a b ha hb
 have h2: ∀m,m≤n→ ∃K,∀a b,a<m→b<n→ ∀k,K≤k→g k a b=some (R a b):=by
  intro m
  induction m with
  |zero=>exact fun _=>⟨0,fun a b ha=>absurd ha (Nat.not_lt_zero _)⟩
  |succ m ih=>
   intro hm
   obtain⟨K,hK⟩:=ih (by omega)
   obtain⟨K',hK'⟩:=h1 m (by omega)
   refine⟨K+K',fun a b ha hb k hk=>?_⟩
   rcases Nat.lt_or_ge a m with hlt|hge
   ·exact hK a b hlt hb k (by omega)
   ·obtain rfl:a=m:=by omega
    exact hK' b hb k (by omega)
 exact h2 n (Nat.le_refl _)
theorem rd_nat (N : List Int) (i : Nat) : rd N (i : Int) = at1 N i := by simp [rd, at1]
theorem rdL_nat (U : List (List Int)) (i : Nat) : rd_L2 U (i : Int) = U.getD i [] := by simp [rd_L2]
theorem rd_row (U : List (List Int)) (i j : Nat) : at1 (U.getD i []) j = at2 U i j := rfl
section
section
variable {U : List (List Int)} (O : Order U)
include O
theorem meet_l1 {a b c : Nat} (ha : a < U.length) (hb : b < U.length) (hc : c < U.length) (R : Int) :
 ∀i,i≤U.length→ ∀fl:Bool,((fl && allFrom U.length (fun d=>!(leB U d a && leB U d b)||leB U d c) i)=false→Ev (fun k=>impl_meet.l0 k U a b U.length ((c+1:Nat):Int)) R)→
  Ev (fun k=>impl_meet.l1 k U a b c fl U.length c U.length i) (if(fl && allFrom U.length (fun d=>!(leB U d a && leB U d b)||leB U d c) i)=true then(c:Int) else R):=by
 have hs:=O.small
 refine fun i hi=>?_
 obtain⟨d,hd⟩: ∃d,U.length=i+d:=⟨U.length - i,by omega⟩
 induction d generalizing i with
 |zero=>
  intro fl hR
  rw [allFrom_ge (by omega),Bool.and_true] at hR ⊢
  cases fl with
  |true=>
   refine Ev.step (f:=fun _=>some (c:Int)) (fun k=>?_) (Ev.now _)
   simp only [impl_meet.l1]
   rw [if_neg (by omega)];rfl
  |false=>
   refine Ev.step (f:=fun k=>impl_meet.l0 k U a b U.length ((c+1:Nat):Int)) (fun k=>?_) (by simpa using hR rfl)
   simp only [impl_meet.l1]
   rw [if_neg (by omega),if_neg (by simp),wrap_nat (by omega)]
 |succ d ih=>
  intro fl hR
  rw [allFrom_lt (by omega)] at hR ⊢
  have hrow:((U.getD i []).length:Int)=U.length:=by rw [O.row i (by omega)]
  have va:=O.val (a:=i) (b:=a) (by omega) ha
  have vb:=O.val (a:=i) (b:=b) (by omega) hb
  have vc:=O.val (a:=i) (b:=c) (by omega) hc
  refine Ev.step (f:=fun k=>impl_meet.l1 k U a b c (fl && (!(leB U i a && leB U i b)||leB U i c)) U.length c U.length ((i+1:Nat):Int)) (fun k=>?_) ?_
  ·simp only [impl_meet.l1,rdL_nat,rd_nat,rd_row,hrow,va,vb,vc,wrap_nat (show i<4611686018427387904 by omega)]
   rw [if_pos (by omega)]
   cases fl
   ·rfl
   ·rw [if_pos rfl,if_pos (by omega),if_pos (by omega),if_pos (by omega),if_pos (by omega)]
    cases leB U i a
    ·rfl
    ·rw [if_neg (by simp),if_pos (by omega),if_pos (by omega)]
     cases leB U i b
     ·rfl
     ·rw [if_neg (by simp),if_pos (by omega),if_pos (by omega)]
      cases leB U i c <;> rfl
  ·refine Ev.eq (ih (i+1) (by omega) (by omega) (fl && (!(leB U i a && leB U i b)||leB U i c)) ?_) ?_
   ·intro h;exact hR (by rw [← Bool.and_assoc];exact h)
   ·rw [Bool.and_assoc]
theorem impl_meet.ev {a b : Nat} (ha : a < U.length) (hb : b < U.length) : Ev (fun k => impl_meet.f k U a b) (mI U a b) := by
 have hs:=O.small
 have key: ∀i,i≤U.length→Ev (fun k=>impl_meet.l0 k U a b U.length (i:Int)) (optI (fstFrom U.length (meetP U a b) i)):=by
  refine Ev.down U.length ?_ fun i hi ih=>?_
  ·rw [fstFrom_ge (Nat.le_refl _)]
   refine Ev.step (f:=fun _=>some (-1)) (fun k=>?_) (Ev.now _)
   simp only [impl_meet.l0]
   rw [if_neg (by omega)]
  ·have hrow:((U.getD i []).length:Int)=U.length:=by rw [O.row i hi]
   have va:=O.val (a:=i) (b:=a) hi ha
   have vb:=O.val (a:=i) (b:=b) hi hb
   rw [fstFrom_lt hi]
   refine Ev.step (f:=fun k=>impl_meet.j1 k U a b i U.length i (!(leB U i a && leB U i b))) (fun k=>?_) ?_
   ·simp only [impl_meet.l0,rdL_nat,rd_nat,rd_row,hrow,va,vb]
    rw [if_pos (by omega),if_pos (by omega),if_pos (by omega),if_pos (by omega),if_pos (by omega)]
    cases leB U i a
    ·rfl
    ·rw [if_neg (by simp),if_pos (by omega),if_pos (by omega)]
     cases leB U i b <;> rfl
   ·cases hab:leB U i a && leB U i b with
    |false=>
     refine Ev.step (f:=fun k=>impl_meet.l0 k U a b U.length ((i+1:Nat):Int)) (fun k=>?_) (Ev.eq ih ?_)
     ·simp only [impl_meet.j1,Bool.not_false,if_true]
      rw [wrap_nat (by omega)]
     ·have:meetP U a b i=false:=by unfold meetP;rw [← Bool.and_assoc,hab];rfl
      rw [this];rfl
    |true=>
     refine Ev.step (f:=fun k=>impl_meet.l1 k U a b i true U.length i U.length ((0:Nat):Int)) (fun k=>?_) (Ev.eq (meet_l1 O ha hb hi _ 0 (by omega) true (fun _=>ih)) ?_)
     ·simp only [impl_meet.j1,Bool.not_true];rfl
     ·have:meetP U a b i=allN U.length (fun d=>!(leB U d a && leB U d b)||leB U d i):=by unfold meetP;rw [← Bool.and_assoc,hab];rfl
      rw [this,Bool.true_and,allFrom_zero]
      split <;> rfl
 have:=key 0 (by omega)
 rw [fstFrom_zero] at this
 exact this
end
end
end Go.Proofs.Ytmbapglhkbpokaa.Print
end
