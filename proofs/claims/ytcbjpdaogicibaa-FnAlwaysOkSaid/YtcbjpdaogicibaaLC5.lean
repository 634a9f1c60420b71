/- Part 5 of what is common to several claims of this seat: SameOkL, ValueOfL, AlwaysOkL. -/
import Derived.Test.YtcbjpdaogicibaaLC4
import Derived.Below
import Derived.Deep.Draws
import Derived.Deep.AppendLies
import Derived.Maps.AppendAt
import Derived.OwnWalk
import Derived.Laws.BytesArg
import Derived.Laws.MakeOwn
import Derived.Laws.OwnMore
import Derived.Deep.OwnRows
import Derived.Tactics
import Derived.Lib.ConvBytes
import Derived.Laws.Slices
import Derived.WalkKit
import Derived.KernelRfl
import Derived.RowKit3
import Derived.Deep.LoopGhost
import Derived.Deep.QuietTactic
import Derived.BigQuiet
import Derived.WideLaws
import Derived.Deep.DeepCutAuto
import Derived.Deep.CutBlock
import Derived.Deep.RegionHeld3
import Derived.Laws.Rows
import Derived.Lib.AppendStr
import Derived.ArgAppend
import Derived.Laws.IdiomCopy
import Derived.RowKit
import Derived.OrdersHeld
import Derived.Laws.BitsLemmas
import Derived.Test.YtcbjpdaogicibaaProg
set_option linter.all false
section
namespace Go.Proofs.Ytcbjpdaogicibaa.Print
open Go.RowKit Go.Proofs.YtcbjpdaogicibaaW.PrintWords Go.Proofs.YtcbjpdaogicibaaW.PrintLast Go.Proofs.YtcbjpdaogicibaaW.PrintMore
section
attribute [local go_sem] max2_int min2_int max_two min_two max_three min_three max_four min_four
mutual
def spec_LeastOf.l0 : Nat → List (List Int) → Int → Option (Int × Bool)
 | 0, _, _ => none
 | k + 1, x0, x4 => if x4 < (x0.length : Int) then ((spec_OrderOk.f k x0).bind fun t488 => (spec_LeastOf.j1 k x0 x4 t488)) else (spec_LeastOf.j1 k x0 x4 false)
def spec_LeastOf.j1 : Nat → List (List Int) → Int → Bool → Option (Int × Bool)
 | 0, _, _, _ => none
 | k + 1, x0, x4, x14 => if x14 = true then (spec_LeastOf.l1 k x0 x4 true 0) else (some ((-1), false))
def spec_LeastOf.l1 : Nat → List (List Int) → Int → Bool → Int → Option (Int × Bool)
 | 0, _, _, _, _ => none
 | k + 1, x0, x4, x5, x6 => if x6 < (x0.length : Int) then (if x5 = true then (if 0 ≤ x4 then (if x4 < (x0.length : Int) then (if 0 ≤ x6 then (if x6 < ((rd_L2 x0 x4).length : Int) then (spec_LeastOf.l1 k x0 x4 ((rd (rd_L2 x0 x4) x6) == 1) (wrap64 (x6 + 1))) else (none)) else (none)) else (none)) else (none)) else (spec_LeastOf.l1 k x0 x4 false (wrap64 (x6 + 1)))) else (if x5 = true then (some (x4, true)) else (spec_LeastOf.l0 k x0 (wrap64 (x4 + 1))))
end
def spec_LeastOf.f (k : Nat) (l0 : List (List Int)) : Option (Int × Bool) := spec_LeastOf.l0 k l0 0
set_option maxHeartbeats 8000000 in
set_option maxRecDepth 100000 in
theorem spec_LeastOf.calls (k : Nat) (A0 : Option Addr) (c0 : Nat) (l0 : List (List Int)) (r1 : Int) (r2 : Bool) (w : World) (hr0 : Kd.C (Kd.slice 3 (Kd.int .i64)) w A0 l0.length l0) (hc0 : l0.length ≤ c0) (h : spec_LeastOf.f k l0 = some (r1, r2)) :
  Calls Try.prog 79 #[.slice A0 l0.length c0] w fun e w' => e = .returned (.tuple #[.int .i64 r1, .bool r2]) ∧ Drawn0 w w' := by
 have c4:=zqm hr0;have d7:=zqm hc0;clear hr0 hc0;have H:(spec_LeastOf.l0 k l0 0)=some (r1,r2):=h;clear h;have H':=zqm H;clear H
 go_enter Try.func79,Try.ntmps79
 go_wp2
 go_loopg [4] k (fun kq v4 w'=> ∃(a0:Int),v4= .int .i64 a0∧Aside0 (spec_LeastOf.l0 kq l0 a0=some (r1,r2))∧Aside0 (kq≤k)∧Drawn0 w w')
 case atStart=>exact⟨(0),zq7,H',⟨Nat.le_refl _⟩,zq12⟩
 case round=>
  clear H';obtain⟨a0,rfl,HA,a2,⟨m1,rfl⟩⟩:=hrel
  cases gk with
  |zero=>exact absurd HA.out (by simp [spec_LeastOf.l0])
  |succ k1=>
   have H:=HA.out;clear HA;simp only [spec_LeastOf.l0] at H;have b9:=zqm H;clear H
   go_upto_region 2 with (fail)
   go_cut [14] (fun d9 wc=> ∃(kq:Nat) (a3:Bool),d9= .bool a3∧Aside0 (spec_LeastOf.j1 kq l0 a0 a3=some (r1,r2))∧Aside0 (kq≤k1)∧Drawn0 w wc)
   case first=>
    have H:=b9.out;clear b9
    by_cases c3:a0<(l0.length:Int)
    ·rw [if_pos c3] at H;have a4:decide (a0<(l0.length:Int))=true:=decide_eq_true c3;clear c3;(first|rw [a4]|(simp only [i64_w,i32_w];rw [a4])|skip);replace H:=Option.bind_eq_some_iff.mp H;obtain⟨b4,c2,H⟩:=H;replace H:(spec_LeastOf.j1 k1 l0 a0 b4)=some (r1,r2):=H;have A4:=zqm c2;clear c2;have H':=zqm H;clear H
     go_wp2_with (first|(go_at_call 136;(with_reducible refine(spec_OrderOk.calls k1 _ _ l0 b4 _ ?side1 ?side2 A4.out).mono ?_);(case side1=>repeat(first|exact c4.out|(with_reducible refine Kd.C_alloc ?_ _)|(with_reducible refine Kd.C_drewN ?_ _)|(with_reducible refine Kd.C_drew ?_)));(case side2=>exact d7.out);rintro e w' ⟨rfl,⟨nd,rfl⟩⟩))
     go_meet
     case rel=>exact⟨_,(b4),zq7,H',⟨by have:=a2.out;first|omega|exact Nat.le_refl _⟩,zq12⟩
    ·rw [if_neg c3] at H;have a4:decide (a0<(l0.length:Int))=false:=decide_eq_false c3;clear c3;(first|rw [a4]|(simp only [i64_w,i32_w];rw [a4])|skip);have H':=zqm H;clear H
     go_wp2
     go_meet
     case rel=>exact⟨_,(false),zq7,H',⟨by have:=a2.out;first|omega|exact Nat.le_refl _⟩,zq12⟩
   case rest=>
    clear b9;obtain⟨kq,a3,rfl,HA,a6,⟨mc1,rfl⟩⟩:=hcut
    cases kq with
    |zero=>exact absurd HA.out (by simp [spec_LeastOf.j1])
    |succ c1=>
     have H:=HA.out;clear HA;simp only [spec_LeastOf.j1] at H
     by_cases c5:a3=true
     ·subst c5;(have H1:(spec_LeastOf.l1 c1 l0 a0 true 0)=some (r1,r2):=by rw [if_pos rfl] at H;exact H);clear H;have H:=H1;clear H1;have H':=zqm H;clear H
      go_wp2
      go_loopg [5,6] c1 (fun kq v5 v6 w'=> ∃(a5:Bool) (a1:Int),v5= .bool a5∧v6= .int .i64 a1∧Aside0 (spec_LeastOf.l1 kq l0 a0 a5 a1=some (r1,r2))∧Aside0 (kq≤c1)∧Drawn0 w w')
      case atStart=>exact⟨(true),(0),zq7,zq7,H',⟨Nat.le_refl _⟩,zq12⟩
      case round=>
       clear H';obtain⟨a5,a1,rfl,rfl,HA,a7,⟨m3,rfl⟩⟩:=hrel
       cases gk with
       |zero=>exact absurd HA.out (by simp [spec_LeastOf.l1])
       |succ k3=>
        have H:=HA.out;clear HA;simp only [spec_LeastOf.l1] at H
        by_cases c6:a1<(l0.length:Int)
        ·rw [if_pos c6] at H;have d0:decide (a1<(l0.length:Int))=true:=decide_eq_true c6;clear c6
         by_cases c7:a5=true
         ·subst c7;(have H1:(if 0≤a0 then(if a0<(l0.length:Int) then(if 0≤a1 then(if a1<((rd_L2 l0 a0).length:Int) then(spec_LeastOf.l1 k3 l0 a0 ((rd (rd_L2 l0 a0) a1)==1) (wrap64 (a1+1))) else(none)) else(none)) else(none)) else(none))=some (r1,r2):=by rw [if_pos rfl] at H;exact H);clear H;have H:=H1;clear H1
          by_cases c8:0≤a0
          ·rw [if_pos c8] at H;have e4:decide (0≤a0)=true:=decide_eq_true c8;clear c8
           by_cases c9:a0<(l0.length:Int)
           ·rw [if_pos c9] at H;have e5:decide (a0<(l0.length:Int))=true:=decide_eq_true c9;clear c9
            by_cases b5:0≤a1
            ·rw [if_pos b5] at H;have e2:decide (0≤a1)=true:=decide_eq_true b5;clear b5
             by_cases b6:a1<((rd_L2 l0 a0).length:Int)
             ·rw [if_pos b6] at H;have e3:decide (a1<((rd_L2 l0 a0).length:Int))=true:=decide_eq_true b6;clear b6;have H':=zqm H;clear H;have b0:0≤(a0:Int):=zqo;have b2:a0<(l0.length:Int):=zqo;obtain⟨e0,d6,d8,d1,d4,a9,a8⟩:=at_L2 c4.out a0 b0 b2
              cases d1
              have b8:=zqm a8;have d3:=zqm a9;clear a8 a9;replace b0:=eq_true b0;replace b2:=eq_true b2;have b1:0≤(a1:Int):=zqo;have b3:a1<((rd_L2 l0 a0).length:Int):=zqo;obtain⟨e1,d2,d5⟩:=Kd.at_int b8.out a1 b1 b3
              cases d2
              replace b1:=eq_true b1;replace b3:=eq_true b3
              go_wp2
              go_roundg k3
              (case measure=> exact zq186);case rel=>exact⟨(((rd (rd_L2 l0 a0) a1)==1)),(wrap64 (a1+1)),zq7,zq7,H',⟨zq186⟩,zq12⟩
             ·rw [if_neg b6] at H;exact absurd H (by simp)
            ·rw [if_neg b5] at H;exact absurd H (by simp)
           ·rw [if_neg c9] at H;exact absurd H (by simp)
          ·rw [if_neg c8] at H;exact absurd H (by simp)
         ·replace c7:=Bool.eq_false_iff.mpr c7;subst c7;(have H1:(spec_LeastOf.l1 k3 l0 a0 false (wrap64 (a1+1)))=some (r1,r2):=by rw [if_neg (show¬(false=true) by decide)] at H;exact H);clear H;have H:=H1;clear H1;have H':=zqm H;clear H
          go_wp2
          go_roundg k3
          (case measure=> exact zq186);case rel=>exact⟨(false),(wrap64 (a1+1)),zq7,zq7,H',⟨zq186⟩,zq12⟩
        ·rw [if_neg c6] at H;have d0:decide (a1<(l0.length:Int))=false:=decide_eq_false c6;clear c6
         by_cases b7:a5=true
         ·subst b7;(have H1:(some (a0,true))=some (r1,r2):=by rw [if_pos rfl] at H;exact H);clear H;have H:=H1;clear H1;simp only [Option.some.injEq,Prod.mk.injEq] at H;obtain⟨rfl,rfl⟩:=H
          go_wp2
          go_ret2
          exact⟨zq7,zq12⟩
         ·replace b7:=Bool.eq_false_iff.mpr b7;subst b7;(have H1:(spec_LeastOf.l0 k3 l0 (wrap64 (a0+1)))=some (r1,r2):=by rw [if_neg (show¬(false=true) by decide)] at H;exact H);clear H;have H:=H1;clear H1;have H':=zqm H;clear H
          go_wp2
          go_roundg k3
          (case measure=> exact zq186);case rel=>exact⟨(wrap64 (a0+1)),zq7,H',⟨zq186⟩,zq12⟩
     ·replace c5:=Bool.eq_false_iff.mpr c5;subst c5;(have H1:(some ((-1),false))=some (r1,r2):=by rw [if_neg (show¬(false=true) by decide)] at H;exact H);clear H;have H:=H1;clear H1;simp only [Option.some.injEq,Prod.mk.injEq] at H;obtain⟨rfl,rfl⟩:=H
      go_wp2
      go_ret2
      exact⟨zq7,zq12⟩
end
section
attribute [local go_sem] max2_int min2_int max_two min_two max_three min_three max_four min_four
mutual
def spec_LogicOk.j0 : Nat → Int → Bool → List (List Int) → List Int → Option (Bool)
 | 0, _, _, _, _ => none
 | k + 1, x3, x22, x492000, x492001 => if x22 = true then (some false) else (spec_LogicOk.l0 k x3 0 x492000 x492001)
def spec_LogicOk.l0 : Nat → Int → Int → List (List Int) → List Int → Option (Bool)
 | 0, _, _, _, _ => none
 | k + 1, x3, x4, x492000, x492001 => if x4 < x3 then (if 0 ≤ x4 then (if x4 < (x492001.length : Int) then ((spec_l1In.f (rd x492001 x4) 0 (wrap64 (x3 - 1))).bind fun t494 => (if t494 = true then (spec_LogicOk.l0 k x3 (wrap64 (x4 + 1)) x492000 x492001) else (some false))) else (none)) else (none)) else ((spec_LeastOf.f k x492000).bind fun bt495 => (spec_LogicOk.l1 k x3 bt495.1 0 x492000 x492001))
def spec_LogicOk.l1 : Nat → Int → Int → Int → List (List Int) → List Int → Option (Bool)
 | 0, _, _, _, _, _ => none
 | k + 1, x3, x5, x7, x492000, x492001 => if x7 < x3 then (if 0 ≤ x7 then (if x7 < (x492001.length : Int) then (if 0 ≤ (rd x492001 x7) then (if (rd x492001 x7) < (x492001.length : Int) then (if (rd x492001 (rd x492001 x7)) = x7 then ((spec_l1Meet.f k x492000 x7 (rd x492001 x7)).bind fun t500 => (spec_LogicOk.j3 k x3 x5 x7 (t500 != x5) x492000 x492001)) else (spec_LogicOk.j3 k x3 x5 x7 true x492000 x492001)) else (none)) else (none)) else (none)) else (none)) else (some true)
def spec_LogicOk.j3 : Nat → Int → Int → Int → Bool → List (List Int) → List Int → Option (Bool)
 | 0, _, _, _, _, _, _ => none
 | k + 1, x3, x5, x7, x71, x492000, x492001 => if x71 = true then (some false) else (spec_LogicOk.l2 k x3 x5 x7 0 x492000 x492001)
def spec_LogicOk.l2 : Nat → Int → Int → Int → Int → List (List Int) → List Int → Option (Bool)
 | 0, _, _, _, _, _, _ => none
 | k + 1, x3, x5, x7, x8, x492000, x492001 => if x8 < x3 then (if 0 ≤ x7 then (if x7 < (x492000.length : Int) then (if 0 ≤ x8 then (if x8 < ((rd_L2 x492000 x7).length : Int) then (if (rd (rd_L2 x492000 x7) x8) = 1 then (if x8 < (x492001.length : Int) then (if 0 ≤ (rd x492001 x8) then (if (rd x492001 x8) < (x492000.length : Int) then (if x7 < (x492001.length : Int) then (if 0 ≤ (rd x492001 x7) then (if (rd x492001 x7) < ((rd_L2 x492000 (rd x492001 x8)).length : Int) then (if (rd (rd_L2 x492000 (rd x492001 x8)) (rd x492001 x7)) = 0 then (some false) else (spec_LogicOk.l2 k x3 x5 x7 (wrap64 (x8 + 1)) x492000 x492001)) else (none)) else (none)) else (none)) else (none)) else (none)) else (none)) else (spec_LogicOk.l2 k x3 x5 x7 (wrap64 (x8 + 1)) x492000 x492001)) else (none)) else (none)) else (none)) else (none)) else (spec_LogicOk.l1 k x3 x5 (wrap64 (x7 + 1)) x492000 x492001)
end
def spec_LogicOk.f (k : Nat) (l0_0 : List (List Int)) (l0_1 : List Int) : Option (Bool) := (spec_LatticeOk.f k l0_0).bind fun t492 => (if t492 = true then (spec_LogicOk.j0 k (l0_0.length : Int) ((l0_1.length : Int) != (l0_0.length : Int)) l0_0 l0_1) else (spec_LogicOk.j0 k (l0_0.length : Int) true l0_0 l0_1))
set_option maxHeartbeats 8000000 in
set_option maxRecDepth 100000 in
theorem spec_LogicOk.calls (k : Nat) (A0_0 : Option Addr) (c0_0 : Nat) (l0_0 : List (List Int)) (A0_1 : Option Addr) (c0_1 : Nat) (l0_1 : List Int) (r : Bool) (w : World) (hr0_0 : Kd.C (Kd.slice 3 (Kd.int .i64)) w A0_0 l0_0.length l0_0) (hc0_0 : l0_0.length ≤ c0_0) (hr0_1 : Kd.C (Kd.int .i64) w A0_1 l0_1.length l0_1) (hc0_1 : l0_1.length ≤ c0_1) (h : spec_LogicOk.f k l0_0 l0_1 = some r) :
  Calls Try.prog 17 #[.agg #[.slice A0_0 l0_0.length c0_0, .slice A0_1 l0_1.length c0_1]] w fun e w' => e = .returned (.bool r) ∧ Below w.heap.size w w' := by
 have hu26:=Try.underlying26;have a6:=zqm hr0_0;have a9:=zqm hc0_0;clear hr0_0 hc0_0;have b2:=zqm hr0_1;have s6:=zqm hc0_1;clear hr0_1 hc0_1;have HB:=zqm (Below.refl w.heap.size w);have H:((spec_LatticeOk.f k l0_0).bind fun i7=>(if i7=true then(spec_LogicOk.j0 k (l0_0.length:Int) ((l0_1.length:Int) !=(l0_0.length:Int)) l0_0 l0_1) else(spec_LogicOk.j0 k (l0_0.length:Int) true l0_0 l0_1)))=some r:=h;clear h;have m5:=zqm H;clear H
 go_enter Try.func17,Try.ntmps17
 go_upto_region 2 with (first|((with_reducible refine gate_dst (N:=1) rfl ?_);(try(refine gate_guard (by rfl) ?_;dsimp only));refine box_event ?hg (N:=1) ?hd (cs:= #[.slice A0_0 l0_0.length c0_0,.slice A0_1 l0_1.length c0_1]) (t:=26) ?hr ?_;(case hd=>rfl);(case hg=>rfl);(case hr=> exact zq17);intro a3 hg w3 hbox hb;have f1:=zqm (below_step zq0 hb);have a1:=zqm (hbox);have i9:=zqm ((by rw [hg];exact(below_size zq0):w.heap.size≤a3));have a5:=zqm ((by rw [hg];exact(below_size zq0):w.heap.size≤a3));clear HB;have HB:=f1;clear f1 hb hbox hg;have h3:w3.cell? ⟨a3,0,none⟩=some (.slice A0_0 l0_0.length c0_0):=(blk_cell a1.out 0).trans rfl;have h4:w3.cell? ⟨a3,1,none⟩=some (.slice A0_1 l0_1.length c0_1):=(blk_cell a1.out 1).trans rfl;have h5:=blk_frozen a1.out 0;have h6:=blk_frozen a1.out 1))
 repeat(go_quiet (first|((with_reducible refine gate_dst (N:=1) rfl ?_);(try(refine gate_guard (by rfl) ?_;dsimp only));refine box_event ?hg (N:=1) ?hd (cs:= #[.slice A0_0 l0_0.length c0_0,.slice A0_1 l0_1.length c0_1]) (t:=26) ?hr ?_;(case hd=>rfl);(case hg=>rfl);(case hr=> exact zq17);intro a3 hg w3 hbox hb;have f1:=zqm (below_step zq0 hb);have a1:=zqm (hbox);have i9:=zqm ((by rw [hg];exact(below_size zq0):w.heap.size≤a3));have a5:=zqm ((by rw [hg];exact(below_size zq0):w.heap.size≤a3));clear HB;have HB:=f1;clear f1 hb hbox hg;have h3:w3.cell? ⟨a3,0,none⟩=some (.slice A0_0 l0_0.length c0_0):=(blk_cell a1.out 0).trans rfl;have h4:w3.cell? ⟨a3,1,none⟩=some (.slice A0_1 l0_1.length c0_1):=(blk_cell a1.out 1).trans rfl;have h5:=blk_frozen a1.out 0;have h6:=blk_frozen a1.out 1));go_upto_region 2 with (first|((with_reducible refine gate_dst (N:=1) rfl ?_);(try(refine gate_guard (by rfl) ?_;dsimp only));refine box_event ?hg (N:=1) ?hd (cs:= #[.slice A0_0 l0_0.length c0_0,.slice A0_1 l0_1.length c0_1]) (t:=26) ?hr ?_;(case hd=>rfl);(case hg=>rfl);(case hr=> exact zq17);intro a3 hg w3 hbox hb;have f1:=zqm (below_step zq0 hb);have a1:=zqm (hbox);have i9:=zqm ((by rw [hg];exact(below_size zq0):w.heap.size≤a3));have a5:=zqm ((by rw [hg];exact(below_size zq0):w.heap.size≤a3));clear HB;have HB:=f1;clear f1 hb hbox hg;have h3:w3.cell? ⟨a3,0,none⟩=some (.slice A0_0 l0_0.length c0_0):=(blk_cell a1.out 0).trans rfl;have h4:w3.cell? ⟨a3,1,none⟩=some (.slice A0_1 l0_1.length c0_1):=(blk_cell a1.out 1).trans rfl;have h5:=blk_frozen a1.out 0;have h6:=blk_frozen a1.out 1)))
 (try simp only [Act.put,List.setIfInBounds_toArray,List.set_cons_zero,List.set_cons_succ])
 go_cut [22] (fun s4 wc=> ∃(kq:Nat) (f4:Bool),s4= .bool f4∧Aside0 (spec_LogicOk.j0 kq (l0_0.length:Int) f4 l0_0 l0_1=some r)∧Aside0 (kq≤k)∧Aside0 (wc.heap[a3]? =some (.cells #[(.slice A0_0 l0_0.length c0_0),(.slice A0_1 l0_1.length c0_1)] 26 (0,0)))∧Aside0 (Below w.heap.size w wc))
 case first=>
  have H:=m5.out;clear m5;replace H:=Option.bind_eq_some_iff.mp H;obtain⟨i7,o0,H⟩:=H;(try dsimp only at H);have A5:=zqm o0;clear o0
  by_cases c6:i7=true
  ·subst c6;rw [if_pos rfl] at H;have H':=zqm H;clear H;have r6:w3.cell? ⟨a3,0,none⟩=some (.slice A0_0 l0_0.length c0_0):=(blk_cell a1.out 0).trans rfl;have r7:w3.cell? ⟨a3,1,none⟩=some (.slice A0_1 l0_1.length c0_1):=(blk_cell a1.out 1).trans rfl;have s0:=blk_frozen a1.out 0;have s1:=blk_frozen a1.out 1
   go_wp2_with (first|(go_at_call 77;(with_reducible refine(spec_LatticeOk.calls k _ _ l0_0 true _ ?side1 ?side2 A5.out).mono ?_);(case side1=> exact zq30);(case side2=>exact a9.out);rintro e w' ⟨rfl,⟨nd,rfl⟩⟩;(try first|exact⟨rfl,_,World.drewN_drewN _ _ _⟩|exact⟨rfl,_,Eq.trans (World.drewN_drewN _ _ _) (congrArg (World.drewN _) (Nat.add_assoc _ _ _))⟩)))
   repeat(go_quiet (first|(go_at_call 77;(with_reducible refine(spec_LatticeOk.calls k _ _ l0_0 true _ ?side1 ?side2 A5.out).mono ?_);(case side1=> exact zq30);(case side2=>exact a9.out);rintro e w' ⟨rfl,⟨nd,rfl⟩⟩;(try first|exact⟨rfl,_,World.drewN_drewN _ _ _⟩|exact⟨rfl,_,Eq.trans (World.drewN_drewN _ _ _) (congrArg (World.drewN _) (Nat.add_assoc _ _ _))⟩)));try go_wp2_with (first|(go_at_call 77;(with_reducible refine(spec_LatticeOk.calls k _ _ l0_0 true _ ?side1 ?side2 A5.out).mono ?_);(case side1=> exact zq30);(case side2=>exact a9.out);rintro e w' ⟨rfl,⟨nd,rfl⟩⟩;(try first|exact⟨rfl,_,World.drewN_drewN _ _ _⟩|exact⟨rfl,_,Eq.trans (World.drewN_drewN _ _ _) (congrArg (World.drewN _) (Nat.add_assoc _ _ _))⟩))))
   go_meet
   case rel=>exact⟨_,(((l0_1.length:Int) !=(l0_0.length:Int))),zq7,H',⟨zq62⟩,⟨zqe a1.out⟩,⟨zq14⟩⟩
  ·replace c6:=Bool.eq_false_iff.mpr c6;subst c6;rw [if_neg (show¬(false=true) by decide)] at H;have H':=zqm H;clear H;have r8:w3.cell? ⟨a3,0,none⟩=some (.slice A0_0 l0_0.length c0_0):=(blk_cell a1.out 0).trans rfl;have r9:w3.cell? ⟨a3,1,none⟩=some (.slice A0_1 l0_1.length c0_1):=(blk_cell a1.out 1).trans rfl;have s2:=blk_frozen a1.out 0;have s3:=blk_frozen a1.out 1
   go_wp2_with (first|(go_at_call 77;(with_reducible refine(spec_LatticeOk.calls k _ _ l0_0 false _ ?side1 ?side2 A5.out).mono ?_);(case side1=> exact zq30);(case side2=>exact a9.out);rintro e w' ⟨rfl,⟨nd,rfl⟩⟩;(try first|exact⟨rfl,_,World.drewN_drewN _ _ _⟩|exact⟨rfl,_,Eq.trans (World.drewN_drewN _ _ _) (congrArg (World.drewN _) (Nat.add_assoc _ _ _))⟩)))
   repeat(go_quiet (first|(go_at_call 77;(with_reducible refine(spec_LatticeOk.calls k _ _ l0_0 false _ ?side1 ?side2 A5.out).mono ?_);(case side1=> exact zq30);(case side2=>exact a9.out);rintro e w' ⟨rfl,⟨nd,rfl⟩⟩;(try first|exact⟨rfl,_,World.drewN_drewN _ _ _⟩|exact⟨rfl,_,Eq.trans (World.drewN_drewN _ _ _) (congrArg (World.drewN _) (Nat.add_assoc _ _ _))⟩)));try go_wp2_with (first|(go_at_call 77;(with_reducible refine(spec_LatticeOk.calls k _ _ l0_0 false _ ?side1 ?side2 A5.out).mono ?_);(case side1=> exact zq30);(case side2=>exact a9.out);rintro e w' ⟨rfl,⟨nd,rfl⟩⟩;(try first|exact⟨rfl,_,World.drewN_drewN _ _ _⟩|exact⟨rfl,_,Eq.trans (World.drewN_drewN _ _ _) (congrArg (World.drewN _) (Nat.add_assoc _ _ _))⟩))))
   go_meet
   case rel=>exact⟨_,(true),zq7,H',⟨zq62⟩,⟨zqe a1.out⟩,⟨zq14⟩⟩
 case rest=>
  clear m5;obtain⟨kq,f4,rfl,HA,c8,a1,HB⟩:=hcut
  cases kq with
  |zero=>exact absurd HA.out (by simp [spec_LogicOk.j0])
  |succ o1=>
   have H:=HA.out;clear HA;simp only [spec_LogicOk.j0] at H
   by_cases c9:f4=true
   ·subst c9;rw [if_pos rfl] at H;obtain rfl:=Option.some.inj H
    go_wp2
    repeat(go_quiet (fail);try go_wp2)
    go_ret
    exact⟨zq13,zq14⟩
   ·replace c9:=Bool.eq_false_iff.mpr c9;subst c9;rw [if_neg (show¬(false=true) by decide)] at H;have H':=zqm H;clear H
    go_wp2
    repeat(go_quiet (fail);try go_wp2)
    go_loopg [4] o1 (fun kq v4 w'=> ∃(a4:Int),v4= .int .i64 a4∧Aside0 (spec_LogicOk.l0 kq (l0_0.length:Int) a4 l0_0 l0_1=some r)∧Aside0 (kq≤o1)∧Aside0 (w'.heap[a3]? =some (.cells #[(.slice A0_0 l0_0.length c0_0),(.slice A0_1 l0_1.length c0_1)] 26 (0,0)))∧Aside0 (Below w.heap.size w w'))
    case atStart=>exact⟨(0),zq7,H',⟨Nat.le_refl _⟩,⟨zqe a1.out⟩,⟨zq14⟩⟩
    case round=>
     clear H';obtain⟨a4,rfl,HA,d0,a1,HB⟩:=hrel
     cases gk with
     |zero=>exact absurd HA.out (by simp [spec_LogicOk.l0])
     |succ k2=>
      have H:=HA.out;clear HA;simp only [spec_LogicOk.l0] at H
      by_cases g3:a4<(l0_0.length:Int)
      ·rw [if_pos g3] at H;have n1:decide (a4<(l0_0.length:Int))=true:=decide_eq_true g3;clear g3
       by_cases j2:0≤a4
       ·rw [if_pos j2] at H;have s7:decide (0≤a4)=true:=decide_eq_true j2;clear j2
        by_cases j4:a4<(l0_1.length:Int)
        ·rw [if_pos j4] at H;have s8:decide (a4<(l0_1.length:Int))=true:=decide_eq_true j4;clear j4;replace H:=Option.bind_eq_some_iff.mp H;obtain⟨o3,l9,H⟩:=H;(try dsimp only at H);have g0:=zqm l9;clear l9
         by_cases j5:o3=true
         ·subst j5;rw [if_pos rfl] at H;have H':=zqm H;clear H;have o4:wr.cell? ⟨a3,0,none⟩=some (.slice A0_0 l0_0.length c0_0):=(blk_cell a1.out 0).trans rfl;have o5:wr.cell? ⟨a3,1,none⟩=some (.slice A0_1 l0_1.length c0_1):=(blk_cell a1.out 1).trans rfl;have q0:=blk_frozen a1.out 0;have q1:=blk_frozen a1.out 1;have d1:0≤(a4:Int):=zqo;have d8:a4<(l0_1.length:Int):=zqo;obtain⟨m8,h8,b3⟩:=Kd.at_int b2.out a4 d1 d8
          cases h8
          replace b3:=(HB.out.cell (World.block_lt_of_cell? w _ b3)).trans b3;replace d1:=eq_true d1;replace d8:=eq_true d8
          go_wp2_with (first|(go_at_call 78;(with_reducible refine(spec_l1In.calls (rd l0_1 a4) 0 (wrap64 ((l0_0.length:Int) - 1)) true _ g0.out).mono ?_);rintro e w' ⟨rfl,⟨nd,rfl⟩⟩;(try first|exact⟨rfl,_,World.drewN_drewN _ _ _⟩|exact⟨rfl,_,Eq.trans (World.drewN_drewN _ _ _) (congrArg (World.drewN _) (Nat.add_assoc _ _ _))⟩)))
          repeat(go_quiet (first|(go_at_call 78;(with_reducible refine(spec_l1In.calls (rd l0_1 a4) 0 (wrap64 ((l0_0.length:Int) - 1)) true _ g0.out).mono ?_);rintro e w' ⟨rfl,⟨nd,rfl⟩⟩;(try first|exact⟨rfl,_,World.drewN_drewN _ _ _⟩|exact⟨rfl,_,Eq.trans (World.drewN_drewN _ _ _) (congrArg (World.drewN _) (Nat.add_assoc _ _ _))⟩)));try go_wp2_with (first|(go_at_call 78;(with_reducible refine(spec_l1In.calls (rd l0_1 a4) 0 (wrap64 ((l0_0.length:Int) - 1)) true _ g0.out).mono ?_);rintro e w' ⟨rfl,⟨nd,rfl⟩⟩;(try first|exact⟨rfl,_,World.drewN_drewN _ _ _⟩|exact⟨rfl,_,Eq.trans (World.drewN_drewN _ _ _) (congrArg (World.drewN _) (Nat.add_assoc _ _ _))⟩))))
          go_roundg k2
          (case measure=>have:=c8.out;have:=d0.out;omega);case rel=>exact⟨(wrap64 (a4+1)),zq7,H',⟨by have:=c8.out;have:=d0.out;omega⟩,⟨zqe a1.out⟩,⟨zq14⟩⟩
         ·replace j5:=Bool.eq_false_iff.mpr j5;subst j5;rw [if_neg (show¬(false=true) by decide)] at H;obtain rfl:=Option.some.inj H;have o6:wr.cell? ⟨a3,0,none⟩=some (.slice A0_0 l0_0.length c0_0):=(blk_cell a1.out 0).trans rfl;have o7:wr.cell? ⟨a3,1,none⟩=some (.slice A0_1 l0_1.length c0_1):=(blk_cell a1.out 1).trans rfl;have q2:=blk_frozen a1.out 0;have q3:=blk_frozen a1.out 1;have d1:0≤(a4:Int):=zqo;have d8:a4<(l0_1.length:Int):=zqo;obtain⟨m8,h8,b3⟩:=Kd.at_int b2.out a4 d1 d8
          cases h8
          replace b3:=(HB.out.cell (World.block_lt_of_cell? w _ b3)).trans b3;replace d1:=eq_true d1;replace d8:=eq_true d8
          go_wp2_with (first|(go_at_call 78;(with_reducible refine(spec_l1In.calls (rd l0_1 a4) 0 (wrap64 ((l0_0.length:Int) - 1)) false _ g0.out).mono ?_);rintro e w' ⟨rfl,⟨nd,rfl⟩⟩;(try first|exact⟨rfl,_,World.drewN_drewN _ _ _⟩|exact⟨rfl,_,Eq.trans (World.drewN_drewN _ _ _) (congrArg (World.drewN _) (Nat.add_assoc _ _ _))⟩)))
          repeat(go_quiet (first|(go_at_call 78;(with_reducible refine(spec_l1In.calls (rd l0_1 a4) 0 (wrap64 ((l0_0.length:Int) - 1)) false _ g0.out).mono ?_);rintro e w' ⟨rfl,⟨nd,rfl⟩⟩;(try first|exact⟨rfl,_,World.drewN_drewN _ _ _⟩|exact⟨rfl,_,Eq.trans (World.drewN_drewN _ _ _) (congrArg (World.drewN _) (Nat.add_assoc _ _ _))⟩)));try go_wp2_with (first|(go_at_call 78;(with_reducible refine(spec_l1In.calls (rd l0_1 a4) 0 (wrap64 ((l0_0.length:Int) - 1)) false _ g0.out).mono ?_);rintro e w' ⟨rfl,⟨nd,rfl⟩⟩;(try first|exact⟨rfl,_,World.drewN_drewN _ _ _⟩|exact⟨rfl,_,Eq.trans (World.drewN_drewN _ _ _) (congrArg (World.drewN _) (Nat.add_assoc _ _ _))⟩))))
          go_ret
          exact⟨zq13,zq14⟩
        ·rw [if_neg j4] at H;exact absurd H (by simp)
       ·rw [if_neg j2] at H;exact absurd H (by simp)
      ·rw [if_neg g3] at H;have n1:decide (a4<(l0_0.length:Int))=false:=decide_eq_false g3;clear g3;replace H:=Option.bind_eq_some_iff.mp H;obtain⟨⟨e5,i8⟩,m1,H⟩:=H;(try dsimp only at H);have m0:=zqm m1;clear m1;have H':=zqm H;clear H;have o8:wr.cell? ⟨a3,0,none⟩=some (.slice A0_0 l0_0.length c0_0):=(blk_cell a1.out 0).trans rfl;have o9:wr.cell? ⟨a3,1,none⟩=some (.slice A0_1 l0_1.length c0_1):=(blk_cell a1.out 1).trans rfl;have q4:=blk_frozen a1.out 0;have q5:=blk_frozen a1.out 1
       go_wp2_with (first|(go_at_call 79;(with_reducible refine(spec_LeastOf.calls k2 _ _ l0_0 e5 i8 _ ?side1 ?side2 m0.out).mono ?_);(case side1=> exact zq30);(case side2=>exact a9.out);rintro e w' ⟨rfl,⟨nd,rfl⟩⟩;(try first|exact⟨rfl,_,World.drewN_drewN _ _ _⟩|exact⟨rfl,_,Eq.trans (World.drewN_drewN _ _ _) (congrArg (World.drewN _) (Nat.add_assoc _ _ _))⟩)))
       repeat(go_quiet (first|(go_at_call 79;(with_reducible refine(spec_LeastOf.calls k2 _ _ l0_0 e5 i8 _ ?side1 ?side2 m0.out).mono ?_);(case side1=> exact zq30);(case side2=>exact a9.out);rintro e w' ⟨rfl,⟨nd,rfl⟩⟩;(try first|exact⟨rfl,_,World.drewN_drewN _ _ _⟩|exact⟨rfl,_,Eq.trans (World.drewN_drewN _ _ _) (congrArg (World.drewN _) (Nat.add_assoc _ _ _))⟩)));try go_wp2_with (first|(go_at_call 79;(with_reducible refine(spec_LeastOf.calls k2 _ _ l0_0 e5 i8 _ ?side1 ?side2 m0.out).mono ?_);(case side1=> exact zq30);(case side2=>exact a9.out);rintro e w' ⟨rfl,⟨nd,rfl⟩⟩;(try first|exact⟨rfl,_,World.drewN_drewN _ _ _⟩|exact⟨rfl,_,Eq.trans (World.drewN_drewN _ _ _) (congrArg (World.drewN _) (Nat.add_assoc _ _ _))⟩))))
       go_loopg [7] k2 (fun kq v7 w'=> ∃(a0:Int),v7= .int .i64 a0∧Aside0 (spec_LogicOk.l1 kq (l0_0.length:Int) e5 a0 l0_0 l0_1=some r)∧Aside0 (kq≤k2)∧Aside0 (w'.heap[a3]? =some (.cells #[(.slice A0_0 l0_0.length c0_0),(.slice A0_1 l0_1.length c0_1)] 26 (0,0)))∧Aside0 (Below w.heap.size w w'))
       case atStart=>exact⟨(0),zq7,H',⟨Nat.le_refl _⟩,⟨zqe a1.out⟩,⟨zq14⟩⟩
       case round=>
        clear H';obtain⟨a0,rfl,HA,f0,a1,HB⟩:=hrel
        cases gk with
        |zero=>exact absurd HA.out (by simp [spec_LogicOk.l1])
        |succ k3=>
         have H:=HA.out;clear HA;simp only [spec_LogicOk.l1] at H
         by_cases g4:a0<(l0_0.length:Int)
         ·rw [if_pos g4] at H;have n2:decide (a0<(l0_0.length:Int))=true:=decide_eq_true g4;clear g4;have h7:=zqm H;clear H
          go_upto_region 13 with (fail)
          repeat(go_quiet (fail);go_upto_region 13 with (fail))
          go_cut [71] (fun s5 wc=> ∃(kq:Nat) (e6:Bool),s5= .bool e6∧Aside0 (spec_LogicOk.j3 kq (l0_0.length:Int) e5 a0 e6 l0_0 l0_1=some r)∧Aside0 (kq≤k3)∧Aside0 (wc.heap[a3]? =some (.cells #[(.slice A0_0 l0_0.length c0_0),(.slice A0_1 l0_1.length c0_1)] 26 (0,0)))∧Aside0 (Below w.heap.size w wc))
          case first=>
           have H:=h7.out;clear h7
           by_cases j6:0≤a0
           ·rw [if_pos j6] at H;have j7:decide (0≤a0)=true:=decide_eq_true j6;clear j6;(first|rw [j7]|(simp only [i64_w,i32_w];rw [j7])|skip)
            by_cases j8:a0<(l0_1.length:Int)
            ·rw [if_pos j8] at H;have s9:decide (a0<(l0_1.length:Int))=true:=decide_eq_true j8;clear j8
             by_cases j9:0≤(rd l0_1 a0)
             ·rw [if_pos j9] at H;have t0:decide (0≤(rd l0_1 a0))=true:=decide_eq_true j9;clear j9
              by_cases k0:(rd l0_1 a0)<(l0_1.length:Int)
              ·rw [if_pos k0] at H;have t1:decide ((rd l0_1 a0)<(l0_1.length:Int))=true:=decide_eq_true k0;clear k0
               by_cases f5:(rd l0_1 (rd l0_1 a0))=a0
               ·rw [if_pos f5] at H;have n3:((rd l0_1 (rd l0_1 a0))==a0)=true:=beq_iff_eq.mpr f5;have n4:((rd l0_1 (rd l0_1 a0)) !=a0)=false:=bne_eq_false_iff_eq.mpr f5;clear f5;replace H:=Option.bind_eq_some_iff.mp H;obtain⟨h0,m3,H⟩:=H;(try dsimp only at H);have m2:=zqm m3;clear m3;have H':=zqm H;clear H;have p0:wr.cell? ⟨a3,0,none⟩=some (.slice A0_0 l0_0.length c0_0):=(blk_cell a1.out 0).trans rfl;have p1:wr.cell? ⟨a3,1,none⟩=some (.slice A0_1 l0_1.length c0_1):=(blk_cell a1.out 1).trans rfl;have q6:=blk_frozen a1.out 0;have q7:=blk_frozen a1.out 1;have d2:0≤(a0:Int):=zqo;have d9:a0<(l0_1.length:Int):=zqo;obtain⟨f2,h9,b4⟩:=Kd.at_int b2.out a0 d2 d9
                cases h9
                replace b4:=(HB.out.cell (World.block_lt_of_cell? w _ b4)).trans b4;replace d2:=eq_true d2;replace d9:=eq_true d9;have d3:0≤((rd l0_1 a0):Int):=zqo;have e0:(rd l0_1 a0)<(l0_1.length:Int):=zqo;obtain⟨g6,i0,b5⟩:=Kd.at_int b2.out (rd l0_1 a0) d3 e0;obtain rfl:f2=g6:=(by injection i0);replace b5:=(HB.out.cell (World.block_lt_of_cell? w _ b5)).trans b5;replace d3:=eq_true d3;replace e0:=eq_true e0;have i5:0≤(a0:Int):=zqo;have i6:a0<(l0_1.length:Int):=zqo;obtain⟨m9,o2,e9⟩:=Kd.at_int b2.out a0 i5 i6;obtain rfl:f2=m9:=(by injection o2);replace e9:=(HB.out.cell (World.block_lt_of_cell? w _ e9)).trans e9;replace i5:=eq_true i5;replace i6:=eq_true i6
                go_wp2_with (first|(go_at_call 80;(with_reducible refine(spec_l1Meet.calls k3 _ _ l0_0 a0 (rd l0_1 a0) h0 _ ?side1 ?side2 m2.out).mono ?_);(case side1=> exact zq30);(case side2=>exact a9.out);rintro e w' ⟨rfl,⟨nd,rfl⟩⟩;(try first|exact⟨rfl,_,World.drewN_drewN _ _ _⟩|exact⟨rfl,_,Eq.trans (World.drewN_drewN _ _ _) (congrArg (World.drewN _) (Nat.add_assoc _ _ _))⟩)))
                repeat(go_quiet (first|(go_at_call 80;(with_reducible refine(spec_l1Meet.calls k3 _ _ l0_0 a0 (rd l0_1 a0) h0 _ ?side1 ?side2 m2.out).mono ?_);(case side1=> exact zq30);(case side2=>exact a9.out);rintro e w' ⟨rfl,⟨nd,rfl⟩⟩;(try first|exact⟨rfl,_,World.drewN_drewN _ _ _⟩|exact⟨rfl,_,Eq.trans (World.drewN_drewN _ _ _) (congrArg (World.drewN _) (Nat.add_assoc _ _ _))⟩)));try go_wp2_with (first|(go_at_call 80;(with_reducible refine(spec_l1Meet.calls k3 _ _ l0_0 a0 (rd l0_1 a0) h0 _ ?side1 ?side2 m2.out).mono ?_);(case side1=> exact zq30);(case side2=>exact a9.out);rintro e w' ⟨rfl,⟨nd,rfl⟩⟩;(try first|exact⟨rfl,_,World.drewN_drewN _ _ _⟩|exact⟨rfl,_,Eq.trans (World.drewN_drewN _ _ _) (congrArg (World.drewN _) (Nat.add_assoc _ _ _))⟩))))
                go_meet
                case rel=>exact⟨_,((h0 !=e5)),zq7,H',⟨zq231⟩,⟨zqe a1.out⟩,⟨zq14⟩⟩
               ·rw [if_neg f5] at H;have n3:((rd l0_1 (rd l0_1 a0))==a0)=false:=beq_eq_false_iff_ne.mpr f5;have n4:((rd l0_1 (rd l0_1 a0)) !=a0)=true:=bne_iff_ne.mpr f5;have H':=zqm H;clear H;have p2:wr.cell? ⟨a3,0,none⟩=some (.slice A0_0 l0_0.length c0_0):=(blk_cell a1.out 0).trans rfl;have p3:wr.cell? ⟨a3,1,none⟩=some (.slice A0_1 l0_1.length c0_1):=(blk_cell a1.out 1).trans rfl;have q8:=blk_frozen a1.out 0;have q9:=blk_frozen a1.out 1;have d2:0≤(a0:Int):=zqo;have d9:a0<(l0_1.length:Int):=zqo;obtain⟨f2,h9,b4⟩:=Kd.at_int b2.out a0 d2 d9
                cases h9
                replace b4:=(HB.out.cell (World.block_lt_of_cell? w _ b4)).trans b4;replace d2:=eq_true d2;replace d9:=eq_true d9;have d3:0≤((rd l0_1 a0):Int):=zqo;have e0:(rd l0_1 a0)<(l0_1.length:Int):=zqo;obtain⟨g6,i0,b5⟩:=Kd.at_int b2.out (rd l0_1 a0) d3 e0;obtain rfl:f2=g6:=(by injection i0);replace b5:=(HB.out.cell (World.block_lt_of_cell? w _ b5)).trans b5;replace d3:=eq_true d3;replace e0:=eq_true e0
                go_wp2
                repeat(go_quiet (fail);try go_wp2)
                go_meet
                case rel=>exact⟨_,(true),zq7,H',⟨zq231⟩,⟨zqe a1.out⟩,⟨zq14⟩⟩
              ·rw [if_neg k0] at H;exact absurd H (by simp)
             ·rw [if_neg j9] at H;exact absurd H (by simp)
            ·rw [if_neg j8] at H;exact absurd H (by simp)
           ·rw [if_neg j6] at H;exact absurd H (by simp)
          case rest=>
           clear h7;obtain⟨kq,e6,rfl,HA,e7,a1,HB⟩:=hcut
           cases kq with
           |zero=>exact absurd HA.out (by simp [spec_LogicOk.j3])
           |succ m7=>
            have H:=HA.out;clear HA;simp only [spec_LogicOk.j3] at H
            by_cases k1:e6=true
            ·subst k1;rw [if_pos rfl] at H;obtain rfl:=Option.some.inj H
             go_wp2
             repeat(go_quiet (fail);try go_wp2)
             go_ret
             exact⟨zq13,zq14⟩
            ·replace k1:=Bool.eq_false_iff.mpr k1;subst k1;rw [if_neg (show¬(false=true) by decide)] at H;have H':=zqm H;clear H
             go_wp2
             repeat(go_quiet (fail);try go_wp2)
             go_loopg [8] m7 (fun kq v8 w'=> ∃(a2:Int),v8= .int .i64 a2∧Aside0 (spec_LogicOk.l2 kq (l0_0.length:Int) e5 a0 a2 l0_0 l0_1=some r)∧Aside0 (kq≤m7)∧Aside0 (w'.heap[a3]? =some (.cells #[(.slice A0_0 l0_0.length c0_0),(.slice A0_1 l0_1.length c0_1)] 26 (0,0)))∧Aside0 (Below w.heap.size w w'))
             case atStart=>exact⟨(0),zq7,H',⟨Nat.le_refl _⟩,⟨zqe a1.out⟩,⟨zq14⟩⟩
             case round=>
              clear H';obtain⟨a2,rfl,HA,g2,a1,HB⟩:=hrel
              cases gk with
              |zero=>exact absurd HA.out (by simp [spec_LogicOk.l2])
              |succ k5=>
               have H:=HA.out;clear HA;simp only [spec_LogicOk.l2] at H
               by_cases g5:a2<(l0_0.length:Int)
               ·rw [if_pos g5] at H;have n5:decide (a2<(l0_0.length:Int))=true:=decide_eq_true g5;clear g5
                by_cases k4:0≤a0
                ·rw [if_pos k4] at H;have t2:decide (0≤a0)=true:=decide_eq_true k4;clear k4
                 by_cases k6:a0<(l0_0.length:Int)
                 ·rw [if_pos k6] at H;have t3:decide (a0<(l0_0.length:Int))=true:=decide_eq_true k6;clear k6
                  by_cases k7:0≤a2
                  ·rw [if_pos k7] at H;have t4:decide (0≤a2)=true:=decide_eq_true k7;clear k7
                   by_cases k8:a2<((rd_L2 l0_0 a0).length:Int)
                   ·rw [if_pos k8] at H;have t5:decide (a2<((rd_L2 l0_0 a0).length:Int))=true:=decide_eq_true k8;clear k8
                    by_cases f6:(rd (rd_L2 l0_0 a0) a2)=1
                    ·rw [if_pos f6] at H;have n6:((rd (rd_L2 l0_0 a0) a2)==1)=true:=beq_iff_eq.mpr f6;have n7:((rd (rd_L2 l0_0 a0) a2) !=1)=false:=bne_eq_false_iff_eq.mpr f6;clear f6
                     by_cases k9:a2<(l0_1.length:Int)
                     ·rw [if_pos k9] at H;have t6:decide (a2<(l0_1.length:Int))=true:=decide_eq_true k9;clear k9
                      by_cases l3:0≤(rd l0_1 a2)
                      ·rw [if_pos l3] at H;have t7:decide (0≤(rd l0_1 a2))=true:=decide_eq_true l3;clear l3
                       by_cases l4:(rd l0_1 a2)<(l0_0.length:Int)
                       ·rw [if_pos l4] at H;have t8:decide ((rd l0_1 a2)<(l0_0.length:Int))=true:=decide_eq_true l4;clear l4
                        by_cases l5:a0<(l0_1.length:Int)
                        ·rw [if_pos l5] at H;have t9:decide (a0<(l0_1.length:Int))=true:=decide_eq_true l5;clear l5
                         by_cases l6:0≤(rd l0_1 a0)
                         ·rw [if_pos l6] at H;have u0:decide (0≤(rd l0_1 a0))=true:=decide_eq_true l6;clear l6
                          by_cases l7:(rd l0_1 a0)<((rd_L2 l0_0 (rd l0_1 a2)).length:Int)
                          ·rw [if_pos l7] at H;have u1:decide ((rd l0_1 a0)<((rd_L2 l0_0 (rd l0_1 a2)).length:Int))=true:=decide_eq_true l7;clear l7
                           by_cases f7:(rd (rd_L2 l0_0 (rd l0_1 a2)) (rd l0_1 a0))=0
                           ·rw [if_pos f7] at H;have n8:((rd (rd_L2 l0_0 (rd l0_1 a2)) (rd l0_1 a0))==0)=true:=beq_iff_eq.mpr f7;have n9:((rd (rd_L2 l0_0 (rd l0_1 a2)) (rd l0_1 a0)) !=0)=false:=bne_eq_false_iff_eq.mpr f7;clear f7;obtain rfl:=Option.some.inj H;have p4:wr.cell? ⟨a3,0,none⟩=some (.slice A0_0 l0_0.length c0_0):=(blk_cell a1.out 0).trans rfl;have p5:wr.cell? ⟨a3,1,none⟩=some (.slice A0_1 l0_1.length c0_1):=(blk_cell a1.out 1).trans rfl;have r0:=blk_frozen a1.out 0;have r1:=blk_frozen a1.out 1;have c0:0≤(a0:Int):=zqo;have c2:a0<(l0_0.length:Int):=zqo;obtain⟨f3,h1,h2,f8,a7,b1,b0⟩:=at_L2 a6.out a0 c0 c2
                            cases f8
                            replace a7:=(HB.out.cell (World.block_lt_of_cell? w _ a7)).trans a7;have c4:=zqm b0;have g1:=zqm b1;clear b0 b1;replace c0:=eq_true c0;replace c2:=eq_true c2;have c1:0≤(a2:Int):=zqo;have c3:a2<((rd_L2 l0_0 a0).length:Int):=zqo;obtain⟨j1,f9,a8⟩:=Kd.at_int c4.out a2 c1 c3
                            cases f9
                            replace a8:=(HB.out.cell (World.block_lt_of_cell? w _ a8)).trans a8;replace c1:=eq_true c1;replace c3:=eq_true c3;have d4:0≤(a2:Int):=zqo;have e1:a2<(l0_1.length:Int):=zqo;obtain⟨g7,i1,b6⟩:=Kd.at_int b2.out a2 d4 e1
                            cases i1
                            replace b6:=(HB.out.cell (World.block_lt_of_cell? w _ b6)).trans b6;replace d4:=eq_true d4;replace e1:=eq_true e1;have d5:0≤((rd l0_1 a2):Int):=zqo;have e2:(rd l0_1 a2)<(l0_0.length:Int):=zqo;obtain⟨g8,m4,m6,i2,b7,c7,c5⟩:=at_L2 a6.out (rd l0_1 a2) d5 e2;obtain rfl:f3=g8:=(by injection i2);replace b7:=(HB.out.cell (World.block_lt_of_cell? w _ b7)).trans b7;have e8:=zqm c5;have l8:=zqm c7;clear c5 c7;replace d5:=eq_true d5;replace e2:=eq_true e2;have d6:0≤(a0:Int):=zqo;have e3:a0<(l0_1.length:Int):=zqo;obtain⟨g9,i3,b8⟩:=Kd.at_int b2.out a0 d6 e3;obtain rfl:g7=g9:=(by injection i3);replace b8:=(HB.out.cell (World.block_lt_of_cell? w _ b8)).trans b8;replace d6:=eq_true d6;replace e3:=eq_true e3;have d7:0≤((rd l0_1 a0):Int):=zqo;have e4:(rd l0_1 a0)<((rd_L2 l0_0 (rd l0_1 a2)).length:Int):=zqo;obtain⟨n0,i4,b9⟩:=Kd.at_int e8.out (rd l0_1 a0) d7 e4
                            cases i4
                            replace b9:=(HB.out.cell (World.block_lt_of_cell? w _ b9)).trans b9;replace d7:=eq_true d7;replace e4:=eq_true e4
                            go_wp2
                            repeat(go_quiet (fail);try go_wp2)
                            go_ret
                            exact⟨zq13,zq14⟩
                           ·rw [if_neg f7] at H;have n8:((rd (rd_L2 l0_0 (rd l0_1 a2)) (rd l0_1 a0))==0)=false:=beq_eq_false_iff_ne.mpr f7;have n9:((rd (rd_L2 l0_0 (rd l0_1 a2)) (rd l0_1 a0)) !=0)=true:=bne_iff_ne.mpr f7;have H':=zqm H;clear H;have p6:wr.cell? ⟨a3,0,none⟩=some (.slice A0_0 l0_0.length c0_0):=(blk_cell a1.out 0).trans rfl;have p7:wr.cell? ⟨a3,1,none⟩=some (.slice A0_1 l0_1.length c0_1):=(blk_cell a1.out 1).trans rfl;have r2:=blk_frozen a1.out 0;have r3:=blk_frozen a1.out 1;have c0:0≤(a0:Int):=zqo;have c2:a0<(l0_0.length:Int):=zqo;obtain⟨f3,h1,h2,f8,a7,b1,b0⟩:=at_L2 a6.out a0 c0 c2
                            cases f8
                            replace a7:=(HB.out.cell (World.block_lt_of_cell? w _ a7)).trans a7;have c4:=zqm b0;have g1:=zqm b1;clear b0 b1;replace c0:=eq_true c0;replace c2:=eq_true c2;have c1:0≤(a2:Int):=zqo;have c3:a2<((rd_L2 l0_0 a0).length:Int):=zqo;obtain⟨j1,f9,a8⟩:=Kd.at_int c4.out a2 c1 c3
                            cases f9
                            replace a8:=(HB.out.cell (World.block_lt_of_cell? w _ a8)).trans a8;replace c1:=eq_true c1;replace c3:=eq_true c3;have d4:0≤(a2:Int):=zqo;have e1:a2<(l0_1.length:Int):=zqo;obtain⟨g7,i1,b6⟩:=Kd.at_int b2.out a2 d4 e1
                            cases i1
                            replace b6:=(HB.out.cell (World.block_lt_of_cell? w _ b6)).trans b6;replace d4:=eq_true d4;replace e1:=eq_true e1;have d5:0≤((rd l0_1 a2):Int):=zqo;have e2:(rd l0_1 a2)<(l0_0.length:Int):=zqo;obtain⟨g8,m4,m6,i2,b7,c7,c5⟩:=at_L2 a6.out (rd l0_1 a2) d5 e2;obtain rfl:f3=g8:=(by injection i2);replace b7:=(HB.out.cell (World.block_lt_of_cell? w _ b7)).trans b7;have e8:=zqm c5;have l8:=zqm c7;clear c5 c7;replace d5:=eq_true d5;replace e2:=eq_true e2;have d6:0≤(a0:Int):=zqo;have e3:a0<(l0_1.length:Int):=zqo;obtain⟨g9,i3,b8⟩:=Kd.at_int b2.out a0 d6 e3;obtain rfl:g7=g9:=(by injection i3);replace b8:=(HB.out.cell (World.block_lt_of_cell? w _ b8)).trans b8;replace d6:=eq_true d6;replace e3:=eq_true e3;have d7:0≤((rd l0_1 a0):Int):=zqo;have e4:(rd l0_1 a0)<((rd_L2 l0_0 (rd l0_1 a2)).length:Int):=zqo;obtain⟨n0,i4,b9⟩:=Kd.at_int e8.out (rd l0_1 a0) d7 e4
                            cases i4
                            replace b9:=(HB.out.cell (World.block_lt_of_cell? w _ b9)).trans b9;replace d7:=eq_true d7;replace e4:=eq_true e4
                            go_wp2
                            repeat(go_quiet (fail);try go_wp2)
                            go_roundg k5
                            (case measure=> exact zq150);case rel=>exact⟨(wrap64 (a2+1)),zq7,H',⟨zq150⟩,⟨zqe a1.out⟩,⟨zq14⟩⟩
                          ·rw [if_neg l7] at H;exact absurd H (by simp)
                         ·rw [if_neg l6] at H;exact absurd H (by simp)
                        ·rw [if_neg l5] at H;exact absurd H (by simp)
                       ·rw [if_neg l4] at H;exact absurd H (by simp)
                      ·rw [if_neg l3] at H;exact absurd H (by simp)
                     ·rw [if_neg k9] at H;exact absurd H (by simp)
                    ·rw [if_neg f6] at H;have n6:((rd (rd_L2 l0_0 a0) a2)==1)=false:=beq_eq_false_iff_ne.mpr f6;have n7:((rd (rd_L2 l0_0 a0) a2) !=1)=true:=bne_iff_ne.mpr f6;have H':=zqm H;clear H;have p8:wr.cell? ⟨a3,0,none⟩=some (.slice A0_0 l0_0.length c0_0):=(blk_cell a1.out 0).trans rfl;have p9:wr.cell? ⟨a3,1,none⟩=some (.slice A0_1 l0_1.length c0_1):=(blk_cell a1.out 1).trans rfl;have r4:=blk_frozen a1.out 0;have r5:=blk_frozen a1.out 1;have c0:0≤(a0:Int):=zqo;have c2:a0<(l0_0.length:Int):=zqo;obtain⟨f3,h1,h2,f8,a7,b1,b0⟩:=at_L2 a6.out a0 c0 c2
                     cases f8
                     replace a7:=(HB.out.cell (World.block_lt_of_cell? w _ a7)).trans a7;have c4:=zqm b0;have g1:=zqm b1;clear b0 b1;replace c0:=eq_true c0;replace c2:=eq_true c2;have c1:0≤(a2:Int):=zqo;have c3:a2<((rd_L2 l0_0 a0).length:Int):=zqo;obtain⟨j1,f9,a8⟩:=Kd.at_int c4.out a2 c1 c3
                     cases f9
                     replace a8:=(HB.out.cell (World.block_lt_of_cell? w _ a8)).trans a8;replace c1:=eq_true c1;replace c3:=eq_true c3
                     go_wp2
                     repeat(go_quiet (fail);try go_wp2)
                     go_roundg k5
                     (case measure=> exact zq150);case rel=>exact⟨(wrap64 (a2+1)),zq7,H',⟨zq150⟩,⟨zqe a1.out⟩,⟨zq14⟩⟩
                   ·rw [if_neg k8] at H;exact absurd H (by simp)
                  ·rw [if_neg k7] at H;exact absurd H (by simp)
                 ·rw [if_neg k6] at H;exact absurd H (by simp)
                ·rw [if_neg k4] at H;exact absurd H (by simp)
               ·rw [if_neg g5] at H;have n5:decide (a2<(l0_0.length:Int))=false:=decide_eq_false g5;clear g5;have H':=zqm H;clear H
                go_wp2
                repeat(go_quiet (fail);try go_wp2)
                go_roundg k5
                (case measure=> exact zq150);case rel=>exact⟨(wrap64 (a0+1)),zq7,H',⟨zq150⟩,⟨zqe a1.out⟩,⟨zq14⟩⟩
         ·rw [if_neg g4] at H;have n2:decide (a0<(l0_0.length:Int))=false:=decide_eq_false g4;clear g4;obtain rfl:=Option.some.inj H
          go_wp2
          repeat(go_quiet (fail);try go_wp2)
          go_ret
          exact⟨zq13,zq14⟩
end
section
attribute [local go_sem] max2_int min2_int max_two min_two max_three min_three max_four min_four
mutual
def spec_l10End.j0 : Nat → ByteArray → Int → Int → Bool → Option (Int)
 | 0, _, _, _, _ => none
 | k + 1, x0, x1, x13, x14 => if x14 = true then (some (wrap64 (x1 + 1))) else (if x13 = 33 then ((spec_l10End.f k x0 (wrap64 (x1 + 1))).bind fun t870 => (some t870)) else (if x13 = 40 then ((spec_l10End.f k x0 (wrap64 (x1 + 1))).bind fun t871 => (if t871 < 0 then (spec_l10End.j1 k x0 t871 true) else (if t871 ≥ (x0.size : Int) then (spec_l10End.j1 k x0 t871 true) else (if 0 ≤ t871 then (if t871 < (x0.size : Int) then (if (bt x0 t871) = 38 then (spec_l10End.j1 k x0 t871 false) else (spec_l10End.j1 k x0 t871 ((bt x0 t871) != 124))) else (none)) else (none))))) else (some (-1))))
def spec_l10End.j1 : Nat → ByteArray → Int → Bool → Option (Int)
 | 0, _, _, _ => none
 | k + 1, x0, x5, x53 => if x53 = true then (some (-1)) else ((spec_l10End.f k x0 (wrap64 (x5 + 1))).bind fun t872 => (if t872 < 0 then (some (-1)) else (if t872 ≥ (x0.size : Int) then (some (-1)) else (if 0 ≤ t872 then (if t872 < (x0.size : Int) then (if (bt x0 t872) = 41 then (some (wrap64 (t872 + 1))) else (some (-1))) else (none)) else (none)))))
def spec_l10End.f : Nat → ByteArray → Int → Option (Int)
 | 0, _, _ => none
 | k + 1, a0, a1 => if a1 ≥ (a0.size : Int) then (some (-1)) else (if 0 ≤ a1 then (if a1 < (a0.size : Int) then (if (bt a0 a1) = 97 then (spec_l10End.j0 k a0 a1 (bt a0 a1) ((bt a0 a1) == 97)) else (if (bt a0 a1) = 98 then (spec_l10End.j0 k a0 a1 (bt a0 a1) ((bt a0 a1) == 98)) else (if (bt a0 a1) = 99 then (spec_l10End.j0 k a0 a1 (bt a0 a1) ((bt a0 a1) == 99)) else (if (bt a0 a1) = 48 then (spec_l10End.j0 k a0 a1 (bt a0 a1) ((bt a0 a1) == 48)) else (spec_l10End.j0 k a0 a1 (bt a0 a1) ((bt a0 a1) == 49)))))) else (none)) else (none))
end
set_option maxHeartbeats 8000000 in
set_option maxRecDepth 100000 in
theorem spec_l10End.calls (k : Nat) : ∀ (a0 : ByteArray) (a1 : Int) (r : Int) (w : World) (h : spec_l10End.f k a0 a1 = some r),
  Calls Try.prog 143 #[.string a0, .int .i64 a1] w fun e w' => e = .returned (.int .i64 r) ∧ Drawn0 w w' := by
 induction k using Nat.strongRecOn with
 |_ k ih=>
 intro a0 a1 r w h
 cases k with
 |zero=>exact absurd h (by simp [spec_l10End.f])
 |succ k=>
 simp only [spec_l10End.f] at h;have H:(if a1≥(a0.size:Int) then(some (-1)) else(if 0≤a1 then(if a1<(a0.size:Int) then(if(bt a0 a1)=97 then(spec_l10End.j0 k a0 a1 (bt a0 a1) ((bt a0 a1)==97)) else(if(bt a0 a1)=98 then(spec_l10End.j0 k a0 a1 (bt a0 a1) ((bt a0 a1)==98)) else(if(bt a0 a1)=99 then(spec_l10End.j0 k a0 a1 (bt a0 a1) ((bt a0 a1)==99)) else(if(bt a0 a1)=48 then(spec_l10End.j0 k a0 a1 (bt a0 a1) ((bt a0 a1)==48)) else(spec_l10End.j0 k a0 a1 (bt a0 a1) ((bt a0 a1)==49)))))) else(none)) else(none)))=some r:=h;clear h
 by_cases c3:a1≥(a0.size:Int)
 ·rw [if_pos c3] at H;have g0:decide ((a0.size:Int)≤a1)=true:=decide_eq_true c3;clear c3;obtain rfl:=Option.some.inj H
  go_enter Try.func143,Try.ntmps143
  go_wp2
  go_ret
  exact⟨zq7,zq12⟩
 ·rw [if_neg c3] at H;have g0:decide ((a0.size:Int)≤a1)=false:=decide_eq_false c3;clear c3
  by_cases c4:0≤a1
  ·rw [if_pos c4] at H;have h5:decide (0≤a1)=true:=decide_eq_true c4;clear c4
   by_cases c5:a1<(a0.size:Int)
   ·rw [if_pos c5] at H;have h6:decide (a1<(a0.size:Int))=true:=decide_eq_true c5;clear c5;have e1:=zqm H;clear H;have p6:0≤(a1:Int):=zqo;have q6:a1<(a0.size:Int):=zqo;have h8:=bt_at a0 a1;replace p6:=eq_true p6;replace q6:=eq_true q6
    go_enter Try.func143,Try.ntmps143
    go_upto_if 14 with (fail)
    go_cut [14] (fun g9 wc=> ∃(kq:Nat) (a7:Bool),g9= .bool a7∧Aside0 (spec_l10End.j0 kq a0 a1 (bt a0 a1) a7=some r)∧Aside0 (kq≤k)∧Drawn0 w wc)
    case first=>
     have H:=e1.out;clear e1
     by_cases c8:(bt a0 a1)=97
     ·rw [if_pos c8] at H;have b4:((bt a0 a1)==97)=true:=beq_iff_eq.mpr c8;have g1:((bt a0 a1) !=97)=false:=bne_eq_false_iff_eq.mpr c8;clear c8;(first|rw [b4]|(simp only [i64_w,i32_w];rw [b4])|skip);have H':=zqm H;clear H
      go_wp2
      go_meet
      case rel=>exact⟨_,(((bt a0 a1)==97)),zq7,H',⟨zq62⟩,zq12⟩
     ·rw [if_neg c8] at H;have b4:((bt a0 a1)==97)=false:=beq_eq_false_iff_ne.mpr c8;have g1:((bt a0 a1) !=97)=true:=bne_iff_ne.mpr c8;(first|rw [b4]|(simp only [i64_w,i32_w];rw [b4])|skip)
      by_cases c9:(bt a0 a1)=98
      ·rw [if_pos c9] at H;have g2:((bt a0 a1)==98)=true:=beq_iff_eq.mpr c9;have g3:((bt a0 a1) !=98)=false:=bne_eq_false_iff_eq.mpr c9;clear c9;have H':=zqm H;clear H
       go_wp2
       go_meet
       case rel=>exact⟨_,(((bt a0 a1)==98)),zq7,H',⟨zq62⟩,zq12⟩
      ·rw [if_neg c9] at H;have g2:((bt a0 a1)==98)=false:=beq_eq_false_iff_ne.mpr c9;have g3:((bt a0 a1) !=98)=true:=bne_iff_ne.mpr c9
       by_cases a8:(bt a0 a1)=99
       ·rw [if_pos a8] at H;have e3:((bt a0 a1)==99)=true:=beq_iff_eq.mpr a8;have e4:((bt a0 a1) !=99)=false:=bne_eq_false_iff_eq.mpr a8;clear a8;have H':=zqm H;clear H
        go_wp2
        go_meet
        case rel=>exact⟨_,(((bt a0 a1)==99)),zq7,H',⟨zq62⟩,zq12⟩
       ·rw [if_neg a8] at H;have e3:((bt a0 a1)==99)=false:=beq_eq_false_iff_ne.mpr a8;have e4:((bt a0 a1) !=99)=true:=bne_iff_ne.mpr a8
        by_cases a9:(bt a0 a1)=48
        ·rw [if_pos a9] at H;have e5:((bt a0 a1)==48)=true:=beq_iff_eq.mpr a9;have e6:((bt a0 a1) !=48)=false:=bne_eq_false_iff_eq.mpr a9;clear a9;have H':=zqm H;clear H
         go_wp2
         go_meet
         case rel=>exact⟨_,(((bt a0 a1)==48)),zq7,H',⟨zq62⟩,zq12⟩
        ·rw [if_neg a9] at H;have e5:((bt a0 a1)==48)=false:=beq_eq_false_iff_ne.mpr a9;have e6:((bt a0 a1) !=48)=true:=bne_iff_ne.mpr a9;have H':=zqm H;clear H
         go_wp2
         go_meet
         case rel=>exact⟨_,(((bt a0 a1)==49)),zq7,H',⟨zq62⟩,zq12⟩
    case rest=>
     clear e1;obtain⟨kq,a7,rfl,HA,a4,⟨mc6,rfl⟩⟩:=hcut
     cases kq with
     |zero=>exact absurd HA.out (by simp [spec_l10End.j0])
     |succ e2=>
      have H:=HA.out;clear HA;simp only [spec_l10End.j0] at H
      by_cases d2:a7=true
      ·subst d2;rw [if_pos rfl] at H;obtain rfl:=Option.some.inj H
       go_wp2
       go_ret
       exact⟨zq7,zq12⟩
      ·replace d2:=Bool.eq_false_iff.mpr d2;subst d2;rw [if_neg (show¬(false=true) by decide)] at H
       by_cases b0:(bt a0 a1)=33
       ·rw [if_pos b0] at H;have e7:((bt a0 a1)==33)=true:=beq_iff_eq.mpr b0;have e8:((bt a0 a1) !=33)=false:=bne_eq_false_iff_eq.mpr b0;clear b0;replace H:=Option.bind_eq_some_iff.mp H;obtain⟨g6,d8,H⟩:=H;(try dsimp only at H);have g7:=zqm d8;clear d8;obtain rfl:=Option.some.inj H
        go_wp2_with (first|((with_reducible refine gate_callee (f:=143) rfl ?_);refine goesL_ (some 27) rfl rfl Try.func143 zqk rfl #[.string a0,.int .i64 (wrap64 (a1+1))] rfl zq1 ?_;(with_reducible refine(ih e2 (by have:=a4.out;omega) a0 (wrap64 (a1+1)) g6 _ g7.out).mono ?_);rintro e w' ⟨rfl,⟨nd,rfl⟩⟩;refine⟨_,rfl,?_⟩))
        go_ret
        exact⟨zq7,zq12⟩
       ·rw [if_neg b0] at H;have e7:((bt a0 a1)==33)=false:=beq_eq_false_iff_ne.mpr b0;have e8:((bt a0 a1) !=33)=true:=bne_iff_ne.mpr b0
        by_cases b1:(bt a0 a1)=40
        ·rw [if_pos b1] at H;have e9:((bt a0 a1)==40)=true:=beq_iff_eq.mpr b1;have f0:((bt a0 a1) !=40)=false:=bne_eq_false_iff_eq.mpr b1;clear b1;replace H:=Option.bind_eq_some_iff.mp H;obtain⟨a2,d9,H⟩:=H;(try dsimp only at H);have g8:=zqm d9;clear d9;have d0:=zqm H;clear H
         go_upto_region 14 with (first|((with_reducible refine gate_callee (f:=143) rfl ?_);refine goesL_ (some 33) rfl rfl Try.func143 zqk rfl #[.string a0,.int .i64 (wrap64 (a1+1))] rfl zq1 ?_;(with_reducible refine(ih e2 (by have:=a4.out;omega) a0 (wrap64 (a1+1)) a2 _ g8.out).mono ?_);rintro e w' ⟨rfl,⟨nd,rfl⟩⟩;refine⟨_,rfl,?_⟩))
         (try simp only [Act.put,List.setIfInBounds_toArray,List.set_cons_zero,List.set_cons_succ])
         go_cut [53] (fun h0 wc=> ∃(kq:Nat) (a6:Bool),h0= .bool a6∧Aside0 (spec_l10End.j1 kq a0 a2 a6=some r)∧Aside0 (kq≤e2)∧Drawn0 w wc)
         case first=>
          have H:=d0.out;clear d0
          by_cases b5:a2<0
          ·rw [if_pos b5] at H;have a5:decide (a2<0)=true:=decide_eq_true b5;clear b5;(first|rw [a5]|(simp only [i64_w,i32_w];rw [a5])|skip);have H':=zqm H;clear H
           go_wp2
           go_meet
           case rel=>exact⟨_,(true),zq7,H',⟨zq213⟩,zq12⟩
          ·rw [if_neg b5] at H;have a5:decide (a2<0)=false:=decide_eq_false b5;clear b5;(first|rw [a5]|(simp only [i64_w,i32_w];rw [a5])|skip)
           by_cases b6:a2≥(a0.size:Int)
           ·rw [if_pos b6] at H;have f1:decide ((a0.size:Int)≤a2)=true:=decide_eq_true b6;clear b6;have H':=zqm H;clear H
            go_wp2
            go_meet
            case rel=>exact⟨_,(true),zq7,H',⟨zq213⟩,zq12⟩
           ·rw [if_neg b6] at H;have f1:decide ((a0.size:Int)≤a2)=false:=decide_eq_false b6;clear b6
            by_cases d3:0≤a2
            ·rw [if_pos d3] at H;have h1:decide (0≤a2)=true:=decide_eq_true d3;clear d3
             by_cases d4:a2<(a0.size:Int)
             ·rw [if_pos d4] at H;have h2:decide (a2<(a0.size:Int))=true:=decide_eq_true d4;clear d4
              by_cases b2:(bt a0 a2)=38
              ·rw [if_pos b2] at H;have f2:((bt a0 a2)==38)=true:=beq_iff_eq.mpr b2;have f3:((bt a0 a2) !=38)=false:=bne_eq_false_iff_eq.mpr b2;clear b2;have H':=zqm H;clear H;have c1:0≤(a2:Int):=zqo;have c6:a2<(a0.size:Int):=zqo;have g4:=bt_at a0 a2;replace c1:=eq_true c1;replace c6:=eq_true c6
               go_wp2
               go_meet
               case rel=>exact⟨_,(false),zq7,H',⟨zq213⟩,zq12⟩
              ·rw [if_neg b2] at H;have f2:((bt a0 a2)==38)=false:=beq_eq_false_iff_ne.mpr b2;have f3:((bt a0 a2) !=38)=true:=bne_iff_ne.mpr b2;have H':=zqm H;clear H;have c1:0≤(a2:Int):=zqo;have c6:a2<(a0.size:Int):=zqo;have g4:=bt_at a0 a2;replace c1:=eq_true c1;replace c6:=eq_true c6;have f8:0≤(a2:Int):=zqo;have f9:a2<(a0.size:Int):=zqo;have h7:=bt_at a0 a2;replace f8:=eq_true f8;replace f9:=eq_true f9
               go_wp2
               go_meet
               case rel=>exact⟨_,(((bt a0 a2) !=124)),zq7,H',⟨zq213⟩,zq12⟩
             ·rw [if_neg d4] at H;exact absurd H (by simp)
            ·rw [if_neg d3] at H;exact absurd H (by simp)
         case rest=>
          clear d0;obtain⟨kq,a6,rfl,HA,b9,⟨mc16,rfl⟩⟩:=hcut
          cases kq with
          |zero=>exact absurd HA.out (by simp [spec_l10End.j1])
          |succ c0=>
           have H:=HA.out;clear HA;simp only [spec_l10End.j1] at H
           by_cases d5:a6=true
           ·subst d5;rw [if_pos rfl] at H;obtain rfl:=Option.some.inj H
            go_wp2
            go_ret
            exact⟨zq7,zq12⟩
           ·replace d5:=Bool.eq_false_iff.mpr d5;subst d5;rw [if_neg (show¬(false=true) by decide)] at H;replace H:=Option.bind_eq_some_iff.mp H;obtain⟨a3,e0,H⟩:=H;(try dsimp only at H);have d1:=zqm e0;clear e0
            by_cases b7:a3<0
            ·rw [if_pos b7] at H;have f4:decide (a3<0)=true:=decide_eq_true b7;clear b7;obtain rfl:=Option.some.inj H
             go_wp2_with (first|((with_reducible refine gate_callee (f:=143) rfl ?_);refine goesL_ (some 57) rfl rfl Try.func143 zqk rfl #[.string a0,.int .i64 (wrap64 (a2+1))] rfl zq1 ?_;(with_reducible refine(ih c0 zq245 a0 (wrap64 (a2+1)) a3 _ d1.out).mono ?_);rintro e w' ⟨rfl,⟨nd,rfl⟩⟩;refine⟨_,rfl,?_⟩))
             go_ret
             exact⟨zq7,zq12⟩
            ·rw [if_neg b7] at H;have f4:decide (a3<0)=false:=decide_eq_false b7;clear b7
             by_cases b8:a3≥(a0.size:Int)
             ·rw [if_pos b8] at H;have f5:decide ((a0.size:Int)≤a3)=true:=decide_eq_true b8;clear b8;obtain rfl:=Option.some.inj H
              go_wp2_with (first|((with_reducible refine gate_callee (f:=143) rfl ?_);refine goesL_ (some 57) rfl rfl Try.func143 zqk rfl #[.string a0,.int .i64 (wrap64 (a2+1))] rfl zq1 ?_;(with_reducible refine(ih c0 zq245 a0 (wrap64 (a2+1)) a3 _ d1.out).mono ?_);rintro e w' ⟨rfl,⟨nd,rfl⟩⟩;refine⟨_,rfl,?_⟩))
              go_ret
              exact⟨zq7,zq12⟩
             ·rw [if_neg b8] at H;have f5:decide ((a0.size:Int)≤a3)=false:=decide_eq_false b8;clear b8
              by_cases d6:0≤a3
              ·rw [if_pos d6] at H;have h3:decide (0≤a3)=true:=decide_eq_true d6;clear d6
               by_cases d7:a3<(a0.size:Int)
               ·rw [if_pos d7] at H;have h4:decide (a3<(a0.size:Int))=true:=decide_eq_true d7;clear d7
                by_cases b3:(bt a0 a3)=41
                ·rw [if_pos b3] at H;have f6:((bt a0 a3)==41)=true:=beq_iff_eq.mpr b3;have f7:((bt a0 a3) !=41)=false:=bne_eq_false_iff_eq.mpr b3;clear b3;obtain rfl:=Option.some.inj H
                 go_wp2_with (first|((with_reducible refine gate_callee (f:=143) rfl ?_);refine goesL_ (some 57) rfl rfl Try.func143 zqk rfl #[.string a0,.int .i64 (wrap64 (a2+1))] rfl zq1 ?_;(with_reducible refine(ih c0 zq245 a0 (wrap64 (a2+1)) a3 _ d1.out).mono ?_);rintro e w' ⟨rfl,⟨nd,rfl⟩⟩;refine⟨_,rfl,?_⟩;have c2:0≤(a3:Int):=zqo;have c7:a3<(a0.size:Int):=zqo;have g5:=bt_at a0 a3;replace c2:=eq_true c2;replace c7:=eq_true c7))
                 go_ret
                 exact⟨zq7,zq12⟩
                ·rw [if_neg b3] at H;have f6:((bt a0 a3)==41)=false:=beq_eq_false_iff_ne.mpr b3;have f7:((bt a0 a3) !=41)=true:=bne_iff_ne.mpr b3;obtain rfl:=Option.some.inj H
                 go_wp2_with (first|((with_reducible refine gate_callee (f:=143) rfl ?_);refine goesL_ (some 57) rfl rfl Try.func143 zqk rfl #[.string a0,.int .i64 (wrap64 (a2+1))] rfl zq1 ?_;(with_reducible refine(ih c0 zq245 a0 (wrap64 (a2+1)) a3 _ d1.out).mono ?_);rintro e w' ⟨rfl,⟨nd,rfl⟩⟩;refine⟨_,rfl,?_⟩;have c2:0≤(a3:Int):=zqo;have c7:a3<(a0.size:Int):=zqo;have g5:=bt_at a0 a3;replace c2:=eq_true c2;replace c7:=eq_true c7))
                 go_ret
                 exact⟨zq7,zq12⟩
               ·rw [if_neg d7] at H;exact absurd H (by simp)
              ·rw [if_neg d6] at H;exact absurd H (by simp)
        ·rw [if_neg b1] at H;have e9:((bt a0 a1)==40)=false:=beq_eq_false_iff_ne.mpr b1;have f0:((bt a0 a1) !=40)=true:=bne_iff_ne.mpr b1;obtain rfl:=Option.some.inj H
         go_wp2
         go_ret
         exact⟨zq7,zq12⟩
   ·rw [if_neg c5] at H;exact absurd H (by simp)
  ·rw [if_neg c4] at H;exact absurd H (by simp)
end
section
attribute [local go_sem] max2_int min2_int max_two min_two max_three min_three max_four min_four
def spec_FormulaOk.f (k : Nat) (a0 : ByteArray) : Option (Bool) := if (a0.size : Int) ≤ 60 then (if (a0.size : Int) > 0 then ((spec_l10End.f k a0 0).bind fun t873 => (some (t873 == (a0.size : Int)))) else (some false)) else (some false)
set_option maxHeartbeats 8000000 in
set_option maxRecDepth 100000 in
theorem spec_FormulaOk.calls (k : Nat) (a0 : ByteArray) (r : Bool) (w : World) (h : spec_FormulaOk.f k a0 = some r) :
  Calls Try.prog 105 #[.string a0] w fun e w' => e = .returned (.bool r) ∧ Drawn0 w w' := by
 have H:(if(a0.size:Int)≤60 then(if(a0.size:Int)>0 then((spec_l10End.f k a0 0).bind fun t873=>(some (t873==(a0.size:Int)))) else(some false)) else(some false))=some r:=h;clear h
 by_cases c2:(a0.size:Int)≤60
 ·rw [if_pos c2] at H;have c2b0:decide ((a0.size:Int)≤60)=true:=decide_eq_true c2;have c2b1:decide (a0.size≤60)=true:=decide_eq_true (by omega);clear c2
  by_cases c3:(a0.size:Int)>0
  ·rw [if_pos c3] at H;have c3b0:decide (0<(a0.size:Int))=true:=decide_eq_true c3;have c3b1:decide (0<a0.size)=true:=decide_eq_true (by omega);clear c3;replace H:=Option.bind_eq_some_iff.mp H;obtain⟨t873,A40,H⟩:=H;(try dsimp only at H);have A4:=zqm A40;clear A40;obtain rfl:=Option.some.inj H
   go_enter Try.func105,Try.ntmps105
   go_wp2_with (first|(go_at_call 143;(with_reducible refine(spec_l10End.calls k a0 0 t873 _ A4.out).mono ?_);rintro e w' ⟨rfl,⟨nd,rfl⟩⟩))
   go_ret
   exact⟨zq7,zq12⟩
  ·rw [if_neg c3] at H;have c3b0:decide (0<(a0.size:Int))=false:=decide_eq_false c3;have c3b1:decide (0<a0.size)=false:=decide_eq_false (by omega);clear c3;obtain rfl:=Option.some.inj H
   go_enter Try.func105,Try.ntmps105
   go_wp2
   go_ret
   exact⟨zq7,zq12⟩
 ·rw [if_neg c2] at H;have c2b0:decide ((a0.size:Int)≤60)=false:=decide_eq_false c2;have c2b1:decide (a0.size≤60)=false:=decide_eq_false (by omega);clear c2;obtain rfl:=Option.some.inj H
  go_enter Try.func105,Try.ntmps105
  go_wp2
  go_ret
  exact⟨zq7,zq12⟩
end
section
attribute [local go_sem] max2_int min2_int max_two min_two max_three min_three max_four min_four
def spec_l10Value.f : Nat → List (List Int) → List Int → ByteArray → Int → Int → Int → Int → Option (Int)
 | 0, _, _, _, _, _, _, _ => none
 | k + 1, l0_0, l0_1, a1, a2, a3, a4, a5 => if 0 < (a1.size : Int) then (if (bt a1 0) = 97 then (some a2) else (if (bt a1 0) = 98 then (some a3) else (if (bt a1 0) = 99 then (some a4) else (if (bt a1 0) = 48 then (some a5) else (if (bt a1 0) = 49 then (if 0 ≤ a5 then (if a5 < (l0_1.length : Int) then (some (rd l0_1 a5)) else (none)) else (none)) else (if (bt a1 0) = 33 then (if 1 ≤ (a1.size : Int) then ((spec_l10Value.f k l0_0 l0_1 (a1.extract 1 a1.size) a2 a3 a4 a5).bind fun t876 => (if 0 ≤ t876 then (if t876 < (l0_1.length : Int) then (some (rd l0_1 t876)) else (none)) else (none))) else (none)) else ((spec_l10End.f k a1 1).bind fun t878 => (if 1 ≤ t878 then (if t878 ≤ (a1.size : Int) then ((spec_l10Value.f k l0_0 l0_1 (a1.extract 1 (t878 : Int).toNat) a2 a3 a4 a5).bind fun t879 => (if 0 ≤ (wrap64 (t878 + 1)) then (if (wrap64 (t878 + 1)) ≤ (wrap64 ((a1.size : Int) - 1)) then (if (wrap64 ((a1.size : Int) - 1)) ≤ (a1.size : Int) then ((spec_l10Value.f k l0_0 l0_1 (a1.extract ((wrap64 (t878 + 1)) : Int).toNat ((wrap64 ((a1.size : Int) - 1)) : Int).toNat) a2 a3 a4 a5).bind fun t880 => (if 0 ≤ t878 then (if t878 < (a1.size : Int) then (if (bt a1 t878) = 38 then ((spec_l1Meet.f k l0_0 t879 t880).bind fun t881 => (some t881)) else ((spec_l1Join.f k l0_0 t879 t880).bind fun t882 => (some t882))) else (none)) else (none))) else (none)) else (none)) else (none))) else (none)) else (none))))))))) else (none)
def spec_l10Value.T13 : Bool × List (List Nat × List Nat) := (true, [([], []), ([0], [0]), ([], []), ([], []), ([3], [3]), ([], []), ([], []), ([], []), ([], []), ([2, 4, 5, 6, 7, 8], [2, 4, 5, 6, 7, 8]), ([1, 9], [1, 9]), ([10], [10]), ([11, 9, 0, 1, 2, 3, 4, 5, 6, 7, 8, 9, 10, 11], [11])])
def spec_l10Value.B13 : List Nat := [0, 1, 0, 0, 8, 0, 0, 0, 0, 508, 1023, 2047, 4095]
theorem spec_l10Value.tab13 : rtab .any (opsOf Try.f107 13) = spec_l10Value.T13 := by kernel_rfl
theorem spec_l10Value.bits13 : waitsOk spec_l10Value.T13.2 spec_l10Value.B13 = true := by kernel_rfl
def spec_l10Value.T15 : Bool × List (List Nat × List Nat) := (true, [([], []), ([], []), ([], []), ([1, 2], [1, 2]), ([], []), ([], []), ([], []), ([], []), ([0, 3, 4, 5, 6, 7], [0, 3, 4, 5, 6, 7]), ([8, 8, 0, 1, 2, 3, 4, 5, 6, 7, 8], [8])])
def spec_l10Value.B15 : List Nat := [0, 0, 0, 6, 0, 0, 0, 0, 255, 511]
theorem spec_l10Value.tab15 : rtab .any (opsOf Try.f107 15) = spec_l10Value.T15 := by kernel_rfl
theorem spec_l10Value.bits15 : waitsOk spec_l10Value.T15.2 spec_l10Value.B15 = true := by kernel_rfl
def spec_l10Value.T16 : Bool × List (List Nat × List Nat) := (true, [([], []), ([], []), ([], []), ([2], [2]), ([], []), ([4], [4]), ([5], [5]), ([1, 3, 6], [1, 3, 6]), ([], []), ([], []), ([], []), ([], []), ([0, 7, 8, 9, 10, 11], [0, 7, 8, 9, 10, 11]), ([12, 12, 0, 1, 2, 3, 4, 5, 6, 7, 8, 9, 10, 11, 12], [12])])
def spec_l10Value.B16 : List Nat := [0, 0, 0, 4, 0, 16, 48, 126, 0, 0, 0, 0, 4095, 8191]
theorem spec_l10Value.tab16 : rtab .any (opsOf Try.f107 16) = spec_l10Value.T16 := by kernel_rfl
theorem spec_l10Value.bits16 : waitsOk spec_l10Value.T16.2 spec_l10Value.B16 = true := by kernel_rfl
set_option maxHeartbeats 8000000 in
set_option maxRecDepth 100000 in
theorem spec_l10Value.calls (k : Nat) : ∀ (A0_0 : Option Addr) (c0_0 : Nat) (l0_0 : List (List Int)) (A0_1 : Option Addr) (c0_1 : Nat) (l0_1 : List Int) (a1 : ByteArray) (a2 : Int) (a3 : Int) (a4 : Int) (a5 : Int) (r : Int) (w : World) (hr0_0 : Kd.C (Kd.slice 3 (Kd.int .i64)) w A0_0 l0_0.length l0_0) (hc0_0 : l0_0.length ≤ c0_0) (hr0_1 : Kd.C (Kd.int .i64) w A0_1 l0_1.length l0_1) (hc0_1 : l0_1.length ≤ c0_1) (h : spec_l10Value.f k l0_0 l0_1 a1 a2 a3 a4 a5 = some r),
  Calls Try.prog 107 #[.agg #[.slice A0_0 l0_0.length c0_0, .slice A0_1 l0_1.length c0_1], .string a1, .int .i64 a2, .int .i64 a3, .int .i64 a4, .int .i64 a5] w fun e w' => e = .returned (.int .i64 r) ∧ Below w.heap.size w w' := by
 induction k using Nat.strongRecOn with
 |_ k ih=>
 intro A0_0 c0_0 l0_0 A0_1 c0_1 l0_1 a1 a2 a3 a4 a5 r w hr0_0 hc0_0 hr0_1 hc0_1 h
 cases k with
 |zero=>exact absurd h (by simp [spec_l10Value.f])
 |succ k=>
 simp only [spec_l10Value.f] at h;have hu26:=Try.underlying26;have b8:=zqm hr0_0;have b7:=zqm hc0_0;clear hr0_0 hc0_0;have b9:=zqm hr0_1;have c0:=zqm hc0_1;clear hr0_1 hc0_1;have HB:=zqm (Below.refl w.heap.size w);have H:(if 0<(a1.size:Int) then(if(bt a1 0)=97 then(some a2) else(if(bt a1 0)=98 then(some a3) else(if(bt a1 0)=99 then(some a4) else(if(bt a1 0)=48 then(some a5) else(if(bt a1 0)=49 then(if 0≤a5 then(if a5<(l0_1.length:Int) then(some (rd l0_1 a5)) else(none)) else(none)) else(if(bt a1 0)=33 then(if 1≤(a1.size:Int) then((spec_l10Value.f k l0_0 l0_1 (a1.extract 1 a1.size) a2 a3 a4 a5).bind fun b0=>(if 0≤b0 then(if b0<(l0_1.length:Int) then(some (rd l0_1 b0)) else(none)) else(none))) else(none)) else((spec_l10End.f k a1 1).bind fun a7=>(if 1≤a7 then(if a7≤(a1.size:Int) then((spec_l10Value.f k l0_0 l0_1 (a1.extract 1 (a7:Int).toNat) a2 a3 a4 a5).bind fun b4=>(if 0≤(wrap64 (a7+1)) then(if(wrap64 (a7+1))≤(wrap64 ((a1.size:Int) - 1)) then(if(wrap64 ((a1.size:Int) - 1))≤(a1.size:Int) then((spec_l10Value.f k l0_0 l0_1 (a1.extract ((wrap64 (a7+1)):Int).toNat ((wrap64 ((a1.size:Int) - 1)):Int).toNat) a2 a3 a4 a5).bind fun b2=>(if 0≤a7 then(if a7<(a1.size:Int) then(if(bt a1 a7)=38 then((spec_l1Meet.f k l0_0 b4 b2).bind fun d3=>(some d3)) else((spec_l1Join.f k l0_0 b4 b2).bind fun d4=>(some d4))) else(none)) else(none))) else(none)) else(none)) else(none))) else(none)) else(none))))))))) else(none))=some r:=h;clear h
 by_cases c7:0<(a1.size:Int)
 ·rw [if_pos c7] at H;have m3:decide (0<(a1.size:Int))=true:=decide_eq_true c7;have m4:decide (0<a1.size)=true:=decide_eq_true (by omega);clear c7
  by_cases c9:(bt a1 0)=97
  ·rw [if_pos c9] at H;have i0:((bt a1 0)==97)=true:=beq_iff_eq.mpr c9;have i1:((bt a1 0) !=97)=false:=bne_eq_false_iff_eq.mpr c9;clear c9;obtain rfl:=Option.some.inj H
   go_enter Try.func107,Try.ntmps107
   go_wp2_with (first|((with_reducible refine gate_dst (N:=6) rfl ?_);refine box_event ?hg (N:=6) ?hd (cs:= #[.slice A0_0 l0_0.length c0_0,.slice A0_1 l0_1.length c0_1]) (t:=26) ?hr ?_;(case hd=>rfl);(case hg=>rfl);(case hr=> exact zq17);intro a6 hg m5 hbox hb;have a9:=zqm (below_step zq0 hb);have a0:=zqm (hbox);have b6:=zqm ((by rw [hg];exact(below_size zq0):w.heap.size≤a6));have a8:=zqm ((by rw [hg];exact(below_size zq0):w.heap.size≤a6));clear HB;have HB:=a9;clear a9 hb hbox hg;have p8:0≤(0:Int):=(by omega);have q8:0<a1.size:=(by have:(0:Int)<(a1.size:Int):=zqo;omega);have d1: ∀h:0<a1.size,((a1[0]'h).toNat:Int)=bt a1 0:=bt_at a1 0;clear p8;have d2:(0<(a1.size:Int))=True:=eq_true (zqo);replace q8:=eq_true q8))
   go_ret
   exact⟨zq13,zq25⟩
  ·rw [if_neg c9] at H;have i0:((bt a1 0)==97)=false:=beq_eq_false_iff_ne.mpr c9;have i1:((bt a1 0) !=97)=true:=bne_iff_ne.mpr c9
   by_cases c3:(bt a1 0)=98
   ·rw [if_pos c3] at H;have g4:((bt a1 0)==98)=true:=beq_iff_eq.mpr c3;have g5:((bt a1 0) !=98)=false:=bne_eq_false_iff_eq.mpr c3;clear c3;obtain rfl:=Option.some.inj H
    go_enter Try.func107,Try.ntmps107
    go_wp2_with (first|((with_reducible refine gate_dst (N:=6) rfl ?_);refine box_event ?hg (N:=6) ?hd (cs:= #[.slice A0_0 l0_0.length c0_0,.slice A0_1 l0_1.length c0_1]) (t:=26) ?hr ?_;(case hd=>rfl);(case hg=>rfl);(case hr=> exact zq17);intro a6 hg m6 hbox hb;have a9:=zqm (below_step zq0 hb);have a0:=zqm (hbox);have b6:=zqm ((by rw [hg];exact(below_size zq0):w.heap.size≤a6));have a8:=zqm ((by rw [hg];exact(below_size zq0):w.heap.size≤a6));clear HB;have HB:=a9;clear a9 hb hbox hg;have p8:0≤(0:Int):=(by omega);have q8:0<a1.size:=(by have:(0:Int)<(a1.size:Int):=zqo;omega);have d1: ∀h:0<a1.size,((a1[0]'h).toNat:Int)=bt a1 0:=bt_at a1 0;clear p8;have d2:(0<(a1.size:Int))=True:=eq_true (zqo);replace q8:=eq_true q8))
    go_ret
    exact⟨zq13,zq25⟩
   ·rw [if_neg c3] at H;have g4:((bt a1 0)==98)=false:=beq_eq_false_iff_ne.mpr c3;have g5:((bt a1 0) !=98)=true:=bne_iff_ne.mpr c3
    by_cases c4:(bt a1 0)=99
    ·rw [if_pos c4] at H;have g6:((bt a1 0)==99)=true:=beq_iff_eq.mpr c4;have g7:((bt a1 0) !=99)=false:=bne_eq_false_iff_eq.mpr c4;clear c4;obtain rfl:=Option.some.inj H
     go_enter Try.func107,Try.ntmps107
     go_wp2_with (first|((with_reducible refine gate_dst (N:=6) rfl ?_);refine box_event ?hg (N:=6) ?hd (cs:= #[.slice A0_0 l0_0.length c0_0,.slice A0_1 l0_1.length c0_1]) (t:=26) ?hr ?_;(case hd=>rfl);(case hg=>rfl);(case hr=> exact zq17);intro a6 hg m7 hbox hb;have a9:=zqm (below_step zq0 hb);have a0:=zqm (hbox);have b6:=zqm ((by rw [hg];exact(below_size zq0):w.heap.size≤a6));have a8:=zqm ((by rw [hg];exact(below_size zq0):w.heap.size≤a6));clear HB;have HB:=a9;clear a9 hb hbox hg;have p8:0≤(0:Int):=(by omega);have q8:0<a1.size:=(by have:(0:Int)<(a1.size:Int):=zqo;omega);have d1: ∀h:0<a1.size,((a1[0]'h).toNat:Int)=bt a1 0:=bt_at a1 0;clear p8;have d2:(0<(a1.size:Int))=True:=eq_true (zqo);replace q8:=eq_true q8))
     go_ret
     exact⟨zq13,zq25⟩
    ·rw [if_neg c4] at H;have g6:((bt a1 0)==99)=false:=beq_eq_false_iff_ne.mpr c4;have g7:((bt a1 0) !=99)=true:=bne_iff_ne.mpr c4
     by_cases c5:(bt a1 0)=48
     ·rw [if_pos c5] at H;have g8:((bt a1 0)==48)=true:=beq_iff_eq.mpr c5;have g9:((bt a1 0) !=48)=false:=bne_eq_false_iff_eq.mpr c5;clear c5;obtain rfl:=Option.some.inj H
      go_enter Try.func107,Try.ntmps107
      go_wp2_with (first|((with_reducible refine gate_dst (N:=6) rfl ?_);refine box_event ?hg (N:=6) ?hd (cs:= #[.slice A0_0 l0_0.length c0_0,.slice A0_1 l0_1.length c0_1]) (t:=26) ?hr ?_;(case hd=>rfl);(case hg=>rfl);(case hr=> exact zq17);intro a6 hg m8 hbox hb;have a9:=zqm (below_step zq0 hb);have a0:=zqm (hbox);have b6:=zqm ((by rw [hg];exact(below_size zq0):w.heap.size≤a6));have a8:=zqm ((by rw [hg];exact(below_size zq0):w.heap.size≤a6));clear HB;have HB:=a9;clear a9 hb hbox hg;have p8:0≤(0:Int):=(by omega);have q8:0<a1.size:=(by have:(0:Int)<(a1.size:Int):=zqo;omega);have d1: ∀h:0<a1.size,((a1[0]'h).toNat:Int)=bt a1 0:=bt_at a1 0;clear p8;have d2:(0<(a1.size:Int))=True:=eq_true (zqo);replace q8:=eq_true q8))
      go_ret
      exact⟨zq13,zq25⟩
     ·rw [if_neg c5] at H;have g8:((bt a1 0)==48)=false:=beq_eq_false_iff_ne.mpr c5;have g9:((bt a1 0) !=48)=true:=bne_iff_ne.mpr c5
      by_cases c6:(bt a1 0)=49
      ·rw [if_pos c6] at H;have h0:((bt a1 0)==49)=true:=beq_iff_eq.mpr c6;have h1:((bt a1 0) !=49)=false:=bne_eq_false_iff_eq.mpr c6;clear c6
       by_cases f0:0≤a5
       ·rw [if_pos f0] at H;have k5:decide (0≤a5)=true:=decide_eq_true f0;clear f0
        by_cases f1:a5<(l0_1.length:Int)
        ·rw [if_pos f1] at H;have k6:decide (a5<(l0_1.length:Int))=true:=decide_eq_true f1;clear f1;obtain rfl:=Option.some.inj H
         go_enter Try.func107,Try.ntmps107
         go_wp2_with (first|((with_reducible refine gate_dst (N:=6) rfl ?_);refine box_event ?hg (N:=6) ?hd (cs:= #[.slice A0_0 l0_0.length c0_0,.slice A0_1 l0_1.length c0_1]) (t:=26) ?hr ?_;(case hd=>rfl);(case hg=>rfl);(case hr=> exact zq17);intro a6 hg h7 hbox hb;have a9:=zqm (below_step zq0 hb);have a0:=zqm (hbox);have b6:=zqm ((by rw [hg];exact(below_size zq0):w.heap.size≤a6));have a8:=zqm ((by rw [hg];exact(below_size zq0):w.heap.size≤a6));clear HB;have HB:=a9;clear a9 hb hbox hg;have p8:0≤(0:Int):=(by omega);have q8:0<a1.size:=(by have:(0:Int)<(a1.size:Int):=zqo;omega);have d1: ∀h:0<a1.size,((a1[0]'h).toNat:Int)=bt a1 0:=bt_at a1 0;clear p8;have d2:(0<(a1.size:Int))=True:=eq_true (zqo);replace q8:=eq_true q8;have i5:h7.cell? ⟨a6,0,none⟩=some (.slice A0_0 l0_0.length c0_0):=(blk_cell a0.out 0).trans rfl;have i6:h7.cell? ⟨a6,1,none⟩=some (.slice A0_1 l0_1.length c0_1):=(blk_cell a0.out 1).trans rfl;have j1:=blk_frozen a0.out 0;have j2:=blk_frozen a0.out 1;have e6:0≤(a5:Int):=zqo;have e8:a5<(l0_1.length:Int):=zqo;obtain⟨k4,i2,c1⟩:=Kd.at_int b9.out a5 e6 e8;cases i2;replace c1:=(HB.out.cell (World.block_lt_of_cell? w _ c1)).trans c1;replace e6:=eq_true e6;replace e8:=eq_true e8))
         go_ret
         exact⟨zq13,zq25⟩
        ·rw [if_neg f1] at H;exact absurd H (by simp)
       ·rw [if_neg f0] at H;exact absurd H (by simp)
      ·rw [if_neg c6] at H;have h0:((bt a1 0)==49)=false:=beq_eq_false_iff_ne.mpr c6;have h1:((bt a1 0) !=49)=true:=bne_iff_ne.mpr c6
       by_cases c8:(bt a1 0)=33
       ·rw [if_pos c8] at H;have h2:((bt a1 0)==33)=true:=beq_iff_eq.mpr c8;have h3:((bt a1 0) !=33)=false:=bne_eq_false_iff_eq.mpr c8;clear c8
        by_cases d7:1≤(a1.size:Int)
        ·rw [if_pos d7] at H;have k7:=eq_true d7;have k8:decide (1≤(a1.size:Int))=true:=decide_eq_true d7;clear d7;replace H:=Option.bind_eq_some_iff.mp H;obtain⟨b0,f6,H⟩:=H;(try dsimp only at H);have j7:=zqm f6;clear f6
         by_cases f2:0≤b0
         ·rw [if_pos f2] at H;have k9:decide (0≤b0)=true:=decide_eq_true f2;clear f2
          by_cases f3:b0<(l0_1.length:Int)
          ·rw [if_pos f3] at H;have l0:decide (b0<(l0_1.length:Int))=true:=decide_eq_true f3;clear f3;obtain rfl:=Option.some.inj H
           go_enter Try.func107,Try.ntmps107
           (try go_wp2_with (first|((with_reducible refine gate_dst (N:=6) rfl ?_);refine box_event ?hg (N:=6) ?hd (cs:= #[.slice A0_0 l0_0.length c0_0,.slice A0_1 l0_1.length c0_1]) (t:=26) ?hr ?_;(case hd=>rfl);(case hg=>rfl);(case hr=> exact zq17);intro a6 hg k1 hbox hb;have a9:=zqm (below_step zq0 hb);have a0:=zqm (hbox);have b6:=zqm ((by rw [hg];exact(below_size zq0):w.heap.size≤a6));have a8:=zqm ((by rw [hg];exact(below_size zq0):w.heap.size≤a6));clear HB;have HB:=a9;clear a9 hb hbox hg;have p8:0≤(0:Int):=(by omega);have q8:0<a1.size:=(by have:(0:Int)<(a1.size:Int):=zqo;omega);have d1: ∀h:0<a1.size,((a1[0]'h).toNat:Int)=bt a1 0:=bt_at a1 0;clear p8;have d2:(0<(a1.size:Int))=True:=eq_true (zqo);replace q8:=eq_true q8)));replace a0:=zqm (blk_drew a0.out);replace HB:=zqm (below_drew1 HB.out);have e7:0≤(b0:Int):=zqo;have e9:b0<(l0_1.length:Int):=zqo;obtain⟨c2,i3,b5⟩:=Kd.at_int b9.out b0 e7 e9;have hw877_0:=b5
           cases i3
           replace b5:=(HB.out.cell (World.block_lt_of_cell? w _ b5)).trans b5;replace e7:=eq_true e7;replace e9:=eq_true e9;refine start_ (n:=13) (S:=fun w'=>w'.cell? ⟨a6,0,none⟩=some (.slice A0_0 l0_0.length c0_0)∧w'.cell? ⟨a6,1,none⟩=some (.slice (some c2) l0_1.length c0_1)∧w'.cell? (c2.add (b0).toNat)=some (.int .i64 (rd l0_1 b0))) (ds:= []) (zqb 13 0) zqk rfl rfl ⟨(blk_cell a0.out 0).trans rfl,(blk_cell a0.out 1).trans rfl,((HB.out.cell (World.block_lt_of_cell? w _ hw877_0)).trans hw877_0)⟩ (fun hHeld=>?_);refine with_tabW spec_l10Value.tab13 spec_l10Value.bits13 (fun HT_ HW_=>?_);generalize k1.drew=m9 at a0 HB b5 hHeld ⊢;refine zqp 0 39 (zqb 13 1) HT_ ?_;refine zqp 3 42 (zqb 13 9) HT_ ?_;refine zqp 4 43 (zqb 13 25) HT_ ?_;refine zqp 5 44 (zqb 13 57) HT_ ?_;refine zqp 6 45 (zqb 13 121) HT_ ?_;refine zqp 7 46 (zqb 13 249) HT_ ?_;refine zqp 8 47 (zqb 13 505) HT_ ?_;refine zqw 1 40 (zqb 13 507) HT_ HW_ hHeld ?_;refine zqw 2 41 (zqb 13 511) HT_ HW_ hHeld ?_;refine one_ (i:=9) (N:=some 48) (zqb 13 1023) rfl rfl (one_of HT_.out zqk) (by decide) (fun K hK=>?_);refine goes_ Try.func107 zqk rfl #[.agg #[.slice A0_0 l0_0.length c0_0,.slice (some c2) l0_1.length c0_1],.string (a1.extract 1 a1.size),.int .i64 a2,.int .i64 a3,.int .i64 a4,.int .i64 a5] (by rfl) rfl rfl zq1 ?_;(with_reducible refine(ih k (by omega) _ _ l0_0 _ _ l0_1 (a1.extract 1 a1.size) a2 a3 a4 a5 b0 _ ?side1 ?side2 ?side3 ?side4 j7.out).mono ?_);(case side1=> exact zq31);(case side2=>exact b7.out);(case side3=> exact zq68);(case side4=>exact c0.out);rintro e n0 ⟨rfl,hb⟩;refine⟨_,rfl,?_⟩;replace a0:=zqm (blk_below (g:=a6) (o:= .cells #[.slice A0_0 l0_0.length c0_0,.slice (some c2) l0_1.length c0_1] 26 (0,0)) (zqe a0.out) hb);replace HB:=zqm (below_step zq25 hb);clear hb;refine hK.out _ _ ⟨(blk_cell a0.out 0).trans rfl,(blk_cell a0.out 1).trans rfl,((HB.out.cell (World.block_lt_of_cell? w _ hw877_0)).trans hw877_0)⟩ (fun hHeld=>?_);clear hK K;refine norm_ (a':=?_) ?_ ?_;rotate_left
           ·show Act.put _ (some 48) _=_;exact zqs
           refine zqp 10 49 (zqb 13 2047) HT_ ?_;refine zqw 11 50 (zqb 13 4095) HT_ HW_ hHeld ?_;refine zqp 12 12 (zqb 13 8191) HT_ ?_;refine done_ (done_of HT_.out zqk) ?_;try go_wp2
           go_ret
           exact⟨zq13,zq25⟩
          ·rw [if_neg f3] at H;exact absurd H (by simp)
         ·rw [if_neg f2] at H;exact absurd H (by simp)
        ·rw [if_neg d7] at H;exact absurd H (by simp)
       ·rw [if_neg c8] at H;have h2:((bt a1 0)==33)=false:=beq_eq_false_iff_ne.mpr c8;have h3:((bt a1 0) !=33)=true:=bne_iff_ne.mpr c8;replace H:=Option.bind_eq_some_iff.mp H;obtain⟨a7,f8,H⟩:=H;(try dsimp only at H);have f7:=zqm f8;clear f8
        by_cases d8:1≤a7
        ·rw [if_pos d8] at H;have l1:=eq_true d8;have l2:decide (1≤a7)=true:=decide_eq_true d8;clear d8
         by_cases d9:a7≤(a1.size:Int)
         ·rw [if_pos d9] at H;have l3:=eq_true d9;have l4:decide (a7≤(a1.size:Int))=true:=decide_eq_true d9;clear d9;replace H:=Option.bind_eq_some_iff.mp H;obtain⟨b4,g0,H⟩:=H;(try dsimp only at H);have f9:=zqm g0;clear g0;obtain⟨b1,b3⟩: ∃j_:Int,(wrap64 (a7+1))=j_:=⟨_,rfl⟩;(replace H:(if 0≤(b1) then(if(b1)≤(wrap64 ((a1.size:Int) - 1)) then(if(wrap64 ((a1.size:Int) - 1))≤(a1.size:Int) then((spec_l10Value.f k l0_0 l0_1 (a1.extract ((b1):Int).toNat ((wrap64 ((a1.size:Int) - 1)):Int).toNat) a2 a3 a4 a5).bind fun b2=>(if 0≤a7 then(if a7<(a1.size:Int) then(if(bt a1 a7)=38 then((spec_l1Meet.f k l0_0 b4 b2).bind fun d3=>(some d3)) else((spec_l1Join.f k l0_0 b4 b2).bind fun d4=>(some d4))) else(none)) else(none))) else(none)) else(none)) else(none))=some r:=by first|(rw [b3] at H;exact H)|(simp only [b3] at H ⊢;exact H));(try rw [b3] at f7);(try rw [b3] at f9);have k0:(IntKind.i64.wrap (a7+1))=b1:=(i64_w _).trans b3
          by_cases e0:0≤(b1)
          ·rw [if_pos e0] at H;have l5:=eq_true e0;have l6:decide (0≤(b1))=true:=decide_eq_true e0;clear e0
           by_cases e1:(b1)≤(wrap64 ((a1.size:Int) - 1))
           ·rw [if_pos e1] at H;have l7:=eq_true e1;have l8:decide ((b1)≤(wrap64 ((a1.size:Int) - 1)))=true:=decide_eq_true e1;clear e1
            by_cases e2:(wrap64 ((a1.size:Int) - 1))≤(a1.size:Int)
            ·rw [if_pos e2] at H;have l9:=eq_true e2;have m0:decide ((wrap64 ((a1.size:Int) - 1))≤(a1.size:Int))=true:=decide_eq_true e2;clear e2;replace H:=Option.bind_eq_some_iff.mp H;obtain⟨b2,g1,H⟩:=H;(try dsimp only at H);have h6:=zqm g1;clear g1
             by_cases f4:0≤a7
             ·rw [if_pos f4] at H;have m1:decide (0≤a7)=true:=decide_eq_true f4;clear f4
              by_cases f5:a7<(a1.size:Int)
              ·rw [if_pos f5] at H;have m2:decide (a7<(a1.size:Int))=true:=decide_eq_true f5;clear f5
               by_cases d0:(bt a1 a7)=38
               ·rw [if_pos d0] at H;have h4:((bt a1 a7)==38)=true:=beq_iff_eq.mpr d0;have h5:((bt a1 a7) !=38)=false:=bne_eq_false_iff_eq.mpr d0;clear d0;replace H:=Option.bind_eq_some_iff.mp H;obtain⟨d3,g2,H⟩:=H;(try dsimp only at H);have j8:=zqm g2;clear g2;obtain rfl:=Option.some.inj H
                go_enter Try.func107,Try.ntmps107
                (try go_wp2_with (first|((with_reducible refine gate_dst (N:=6) rfl ?_);refine box_event ?hg (N:=6) ?hd (cs:= #[.slice A0_0 l0_0.length c0_0,.slice A0_1 l0_1.length c0_1]) (t:=26) ?hr ?_;(case hd=>rfl);(case hg=>rfl);(case hr=> exact zq17);intro a6 hg d5 hbox hb;have a9:=zqm (below_step zq0 hb);have a0:=zqm (hbox);have b6:=zqm ((by rw [hg];exact(below_size zq0):w.heap.size≤a6));have a8:=zqm ((by rw [hg];exact(below_size zq0):w.heap.size≤a6));clear HB;have HB:=a9;clear a9 hb hbox hg;have p8:0≤(0:Int):=(by omega);have q8:0<a1.size:=(by have:(0:Int)<(a1.size:Int):=zqo;omega);have d1: ∀h:0<a1.size,((a1[0]'h).toNat:Int)=bt a1 0:=bt_at a1 0;clear p8;have d2:(0<(a1.size:Int))=True:=eq_true (zqo);replace q8:=eq_true q8)|((with_reducible refine gate_callee (f:=143) rfl ?_);refine goesL_ (some 52) rfl rfl Try.func143 zqk rfl #[.string a1,.int .i64 1] rfl zq1 ?_;(with_reducible refine(spec_l10End.calls k a1 1 a7 _ f7.out).mono ?_);rintro e w' ⟨rfl,⟨nd,rfl⟩⟩;refine⟨_,rfl,?_⟩)));(try(rw [drewN_self d5];generalize hq_:World.drewN d5 _=d5;have a9:Aside0 (d5.heap[a6]? =some (.cells #[.slice A0_0 l0_0.length c0_0,.slice A0_1 l0_1.length c0_1] 26 (0,0))):=⟨by rw [← hq_];exact(zqe a0.out)⟩;have e3:Aside0 (Below w.heap.size w d5):=⟨zq170⟩;clear a0 HB hq_;have a0:=a9;have HB:=e3;clear a9 e3));replace a0:=zqm (blk_drew a0.out);replace HB:=zqm (below_drew1 HB.out);refine start_ (n:=10) (S:=fun w'=>w'.cell? ⟨a6,0,none⟩=some (.slice A0_0 l0_0.length c0_0)∧w'.cell? ⟨a6,1,none⟩=some (.slice A0_1 l0_1.length c0_1)) (ds:= []) (zqb 10 0) zqk rfl rfl ⟨(blk_cell a0.out 0).trans rfl,(blk_cell a0.out 1).trans rfl⟩ (fun hHeld=>?_);refine with_tabW spec_l10Value.tab15 spec_l10Value.bits15 (fun HT_ HW_=>?_);generalize d5.drew=n1 at a0 HB hHeld ⊢;refine zqp 1 54 (zqb 10 2) HT_ ?_;refine zqp 2 55 (zqb 10 6) HT_ ?_;refine zqp 3 56 (zqb 10 14) HT_ ?_;refine zqp 4 57 (zqb 10 30) HT_ ?_;refine zqp 5 58 (zqb 10 62) HT_ ?_;refine zqp 6 59 (zqb 10 126) HT_ ?_;refine zqp 7 60 (zqb 10 254) HT_ ?_;refine zqw 0 53 (zqb 10 255) HT_ HW_ hHeld ?_;refine one_ (i:=8) (N:=some 61) (zqb 10 511) rfl rfl (one_of HT_.out zqk) (by decide) (fun K hK=>?_);refine goes_ Try.func107 zqk rfl #[.agg #[.slice A0_0 l0_0.length c0_0,.slice A0_1 l0_1.length c0_1],.string (a1.extract 1 (a7:Int).toNat),.int .i64 a2,.int .i64 a3,.int .i64 a4,.int .i64 a5] (by rfl) rfl rfl zq1 ?_;(with_reducible refine(ih k (by omega) _ _ l0_0 _ _ l0_1 (a1.extract 1 (a7:Int).toNat) a2 a3 a4 a5 b4 _ ?side1 ?side2 ?side3 ?side4 f9.out).mono ?_);(case side1=> exact zq31);(case side2=>exact b7.out);(case side3=> exact zq68);(case side4=>exact c0.out);rintro e k2 ⟨rfl,hb⟩;refine⟨_,rfl,?_⟩;replace a0:=zqm (blk_below (g:=a6) (o:= .cells #[.slice A0_0 l0_0.length c0_0,.slice A0_1 l0_1.length c0_1] 26 (0,0)) (zqe a0.out) hb);replace HB:=zqm (below_step zq25 hb);clear hb;refine hK.out _ _ ⟨(blk_cell a0.out 0).trans rfl,(blk_cell a0.out 1).trans rfl⟩ (fun hHeld=>?_);clear hK K;refine norm_ (a':=?_) ?_ ?_;rotate_left
                ·show Act.put _ (some 61) _=_;exact zqs
                refine zqp 9 14 (zqb 10 1023) HT_ ?_;refine done_ (done_of HT_.out zqk) ?_;(try go_wp2);replace a0:=zqm (blk_drew a0.out);replace HB:=zqm (below_drew1 HB.out);refine start_ (n:=14) (S:=fun w'=>w'.cell? ⟨a6,0,none⟩=some (.slice A0_0 l0_0.length c0_0)∧w'.cell? ⟨a6,1,none⟩=some (.slice A0_1 l0_1.length c0_1)) (ds:= []) (zqb 14 0) zqk rfl rfl ⟨(blk_cell a0.out 0).trans rfl,(blk_cell a0.out 1).trans rfl⟩ (fun hHeld=>?_);refine with_tabW spec_l10Value.tab16 spec_l10Value.bits16 (fun HT_ HW_=>?_);generalize k2.drew=n2 at a0 HB hHeld ⊢;refine zqp 1 63 (zqb 14 2) HT_ ?_;refine zqp 2 64 (zqb 14 6) HT_ ?_;refine zqp 3 65 (zqb 14 14) HT_ ?_;refine zqp 4 66 (zqb 14 30) HT_ ?_;refine zqp 5 67 (zqb 14 62) HT_ ?_;refine zqp 6 68 (zqb 14 126) HT_ ?_;refine zqp 7 69 (zqb 14 254) HT_ ?_;refine zqp 8 70 (zqb 14 510) HT_ ?_;refine zqp 9 71 (zqb 14 1022) HT_ ?_;refine zqp 10 72 (zqb 14 2046) HT_ ?_;refine zqp 11 73 (zqb 14 4094) HT_ ?_;refine zqw 0 62 (zqb 14 4095) HT_ HW_ hHeld ?_;refine one_ (i:=12) (N:=some 74) (zqb 14 8191) rfl rfl (one_of HT_.out zqk) (by decide) (fun K hK=>?_);refine goes_ Try.func107 zqk rfl #[.agg #[.slice A0_0 l0_0.length c0_0,.slice A0_1 l0_1.length c0_1],.string (a1.extract ((b1):Int).toNat ((wrap64 ((a1.size:Int) - 1)):Int).toNat),.int .i64 a2,.int .i64 a3,.int .i64 a4,.int .i64 a5] (by rfl) rfl rfl zq177 ?_;(with_reducible refine(ih k (by omega) _ _ l0_0 _ _ l0_1 (a1.extract ((b1):Int).toNat ((wrap64 ((a1.size:Int) - 1)):Int).toNat) a2 a3 a4 a5 b2 _ ?side1 ?side2 ?side3 ?side4 h6.out).mono ?_);(case side1=> exact zq31);(case side2=>exact b7.out);(case side3=> exact zq68);(case side4=>exact c0.out);rintro e h8 ⟨rfl,hb⟩;refine⟨_,rfl,?_⟩;replace a0:=zqm (blk_below (g:=a6) (o:= .cells #[.slice A0_0 l0_0.length c0_0,.slice A0_1 l0_1.length c0_1] 26 (0,0)) (zqe a0.out) hb);replace HB:=zqm (below_step zq25 hb);clear hb;refine hK.out _ _ ⟨(blk_cell a0.out 0).trans rfl,(blk_cell a0.out 1).trans rfl⟩ (fun hHeld=>?_);clear hK K;refine norm_ (a':=?_) ?_ ?_;rotate_left
                ·show Act.put _ (some 74) _=_;exact zqs
                refine zqp 13 15 (zqb 14 16383) HT_ ?_;refine done_ (done_of HT_.out zqk) ?_;have e4:0≤(a7:Int):=zqo;have e5:a7<(a1.size:Int):=zqo;have i4:=bt_at a1 a7;replace e4:=eq_true e4;replace e5:=eq_true e5;have i7:h8.cell? ⟨a6,0,none⟩=some (.slice A0_0 l0_0.length c0_0):=(blk_cell a0.out 0).trans rfl;have i8:h8.cell? ⟨a6,1,none⟩=some (.slice A0_1 l0_1.length c0_1):=(blk_cell a0.out 1).trans rfl;have j3:=blk_frozen a0.out 0;have j4:=blk_frozen a0.out 1;try go_wp2_with (first|((with_reducible refine gate_callee (f:=80) rfl ?_);refine goesL_ (some 83) rfl rfl Try.func80 zqk rfl #[.slice A0_0 l0_0.length c0_0,.int .i64 b4,.int .i64 b2] rfl zq1 ?_;(with_reducible refine(spec_l1Meet.calls k _ _ l0_0 b4 b2 d3 _ ?side1 ?side2 j8.out).mono ?_);(case side1=> exact zq31);(case side2=>exact b7.out);rintro e w' ⟨rfl,⟨nd,rfl⟩⟩;refine⟨_,rfl,?_⟩))
                go_ret
                exact⟨zq144,zq25⟩
               ·rw [if_neg d0] at H;have h4:((bt a1 a7)==38)=false:=beq_eq_false_iff_ne.mpr d0;have h5:((bt a1 a7) !=38)=true:=bne_iff_ne.mpr d0;replace H:=Option.bind_eq_some_iff.mp H;obtain⟨d4,g3,H⟩:=H;(try dsimp only at H);have j9:=zqm g3;clear g3;obtain rfl:=Option.some.inj H
                go_enter Try.func107,Try.ntmps107
                (try go_wp2_with (first|((with_reducible refine gate_dst (N:=6) rfl ?_);refine box_event ?hg (N:=6) ?hd (cs:= #[.slice A0_0 l0_0.length c0_0,.slice A0_1 l0_1.length c0_1]) (t:=26) ?hr ?_;(case hd=>rfl);(case hg=>rfl);(case hr=> exact zq17);intro a6 hg d6 hbox hb;have a9:=zqm (below_step zq0 hb);have a0:=zqm (hbox);have b6:=zqm ((by rw [hg];exact(below_size zq0):w.heap.size≤a6));have a8:=zqm ((by rw [hg];exact(below_size zq0):w.heap.size≤a6));clear HB;have HB:=a9;clear a9 hb hbox hg;have p8:0≤(0:Int):=(by omega);have q8:0<a1.size:=(by have:(0:Int)<(a1.size:Int):=zqo;omega);have d1: ∀h:0<a1.size,((a1[0]'h).toNat:Int)=bt a1 0:=bt_at a1 0;clear p8;have d2:(0<(a1.size:Int))=True:=eq_true (zqo);replace q8:=eq_true q8)|((with_reducible refine gate_callee (f:=143) rfl ?_);refine goesL_ (some 52) rfl rfl Try.func143 zqk rfl #[.string a1,.int .i64 1] rfl zq1 ?_;(with_reducible refine(spec_l10End.calls k a1 1 a7 _ f7.out).mono ?_);rintro e w' ⟨rfl,⟨nd,rfl⟩⟩;refine⟨_,rfl,?_⟩)));(try(rw [drewN_self d6];generalize hq_:World.drewN d6 _=d6;have a9:Aside0 (d6.heap[a6]? =some (.cells #[.slice A0_0 l0_0.length c0_0,.slice A0_1 l0_1.length c0_1] 26 (0,0))):=⟨by rw [← hq_];exact(zqe a0.out)⟩;have e3:Aside0 (Below w.heap.size w d6):=⟨zq170⟩;clear a0 HB hq_;have a0:=a9;have HB:=e3;clear a9 e3));replace a0:=zqm (blk_drew a0.out);replace HB:=zqm (below_drew1 HB.out);refine start_ (n:=10) (S:=fun w'=>w'.cell? ⟨a6,0,none⟩=some (.slice A0_0 l0_0.length c0_0)∧w'.cell? ⟨a6,1,none⟩=some (.slice A0_1 l0_1.length c0_1)) (ds:= []) (zqb 10 0) zqk rfl rfl ⟨(blk_cell a0.out 0).trans rfl,(blk_cell a0.out 1).trans rfl⟩ (fun hHeld=>?_);refine with_tabW spec_l10Value.tab15 spec_l10Value.bits15 (fun HT_ HW_=>?_);generalize d6.drew=n3 at a0 HB hHeld ⊢;refine zqp 1 54 (zqb 10 2) HT_ ?_;refine zqp 2 55 (zqb 10 6) HT_ ?_;refine zqp 3 56 (zqb 10 14) HT_ ?_;refine zqp 4 57 (zqb 10 30) HT_ ?_;refine zqp 5 58 (zqb 10 62) HT_ ?_;refine zqp 6 59 (zqb 10 126) HT_ ?_;refine zqp 7 60 (zqb 10 254) HT_ ?_;refine zqw 0 53 (zqb 10 255) HT_ HW_ hHeld ?_;refine one_ (i:=8) (N:=some 61) (zqb 10 511) rfl rfl (one_of HT_.out zqk) (by decide) (fun K hK=>?_);refine goes_ Try.func107 zqk rfl #[.agg #[.slice A0_0 l0_0.length c0_0,.slice A0_1 l0_1.length c0_1],.string (a1.extract 1 (a7:Int).toNat),.int .i64 a2,.int .i64 a3,.int .i64 a4,.int .i64 a5] (by rfl) rfl rfl zq1 ?_;(with_reducible refine(ih k (by omega) _ _ l0_0 _ _ l0_1 (a1.extract 1 (a7:Int).toNat) a2 a3 a4 a5 b4 _ ?side1 ?side2 ?side3 ?side4 f9.out).mono ?_);(case side1=> exact zq31);(case side2=>exact b7.out);(case side3=> exact zq68);(case side4=>exact c0.out);rintro e k3 ⟨rfl,hb⟩;refine⟨_,rfl,?_⟩;replace a0:=zqm (blk_below (g:=a6) (o:= .cells #[.slice A0_0 l0_0.length c0_0,.slice A0_1 l0_1.length c0_1] 26 (0,0)) (zqe a0.out) hb);replace HB:=zqm (below_step zq25 hb);clear hb;refine hK.out _ _ ⟨(blk_cell a0.out 0).trans rfl,(blk_cell a0.out 1).trans rfl⟩ (fun hHeld=>?_);clear hK K;refine norm_ (a':=?_) ?_ ?_;rotate_left
                ·show Act.put _ (some 61) _=_;exact zqs
                refine zqp 9 14 (zqb 10 1023) HT_ ?_;refine done_ (done_of HT_.out zqk) ?_;(try go_wp2);replace a0:=zqm (blk_drew a0.out);replace HB:=zqm (below_drew1 HB.out);refine start_ (n:=14) (S:=fun w'=>w'.cell? ⟨a6,0,none⟩=some (.slice A0_0 l0_0.length c0_0)∧w'.cell? ⟨a6,1,none⟩=some (.slice A0_1 l0_1.length c0_1)) (ds:= []) (zqb 14 0) zqk rfl rfl ⟨(blk_cell a0.out 0).trans rfl,(blk_cell a0.out 1).trans rfl⟩ (fun hHeld=>?_);refine with_tabW spec_l10Value.tab16 spec_l10Value.bits16 (fun HT_ HW_=>?_);generalize k3.drew=n4 at a0 HB hHeld ⊢;refine zqp 1 63 (zqb 14 2) HT_ ?_;refine zqp 2 64 (zqb 14 6) HT_ ?_;refine zqp 3 65 (zqb 14 14) HT_ ?_;refine zqp 4 66 (zqb 14 30) HT_ ?_;refine zqp 5 67 (zqb 14 62) HT_ ?_;refine zqp 6 68 (zqb 14 126) HT_ ?_;refine zqp 7 69 (zqb 14 254) HT_ ?_;refine zqp 8 70 (zqb 14 510) HT_ ?_;refine zqp 9 71 (zqb 14 1022) HT_ ?_;refine zqp 10 72 (zqb 14 2046) HT_ ?_;refine zqp 11 73 (zqb 14 4094) HT_ ?_;refine zqw 0 62 (zqb 14 4095) HT_ HW_ hHeld ?_;refine one_ (i:=12) (N:=some 74) (zqb 14 8191) rfl rfl (one_of HT_.out zqk) (by decide) (fun K hK=>?_);refine goes_ Try.func107 zqk rfl #[.agg #[.slice A0_0 l0_0.length c0_0,.slice A0_1 l0_1.length c0_1],.string (a1.extract ((b1):Int).toNat ((wrap64 ((a1.size:Int) - 1)):Int).toNat),.int .i64 a2,.int .i64 a3,.int .i64 a4,.int .i64 a5] (by rfl) rfl rfl zq177 ?_;(with_reducible refine(ih k (by omega) _ _ l0_0 _ _ l0_1 (a1.extract ((b1):Int).toNat ((wrap64 ((a1.size:Int) - 1)):Int).toNat) a2 a3 a4 a5 b2 _ ?side1 ?side2 ?side3 ?side4 h6.out).mono ?_);(case side1=> exact zq31);(case side2=>exact b7.out);(case side3=> exact zq68);(case side4=>exact c0.out);rintro e h9 ⟨rfl,hb⟩;refine⟨_,rfl,?_⟩;replace a0:=zqm (blk_below (g:=a6) (o:= .cells #[.slice A0_0 l0_0.length c0_0,.slice A0_1 l0_1.length c0_1] 26 (0,0)) (zqe a0.out) hb);replace HB:=zqm (below_step zq25 hb);clear hb;refine hK.out _ _ ⟨(blk_cell a0.out 0).trans rfl,(blk_cell a0.out 1).trans rfl⟩ (fun hHeld=>?_);clear hK K;refine norm_ (a':=?_) ?_ ?_;rotate_left
                ·show Act.put _ (some 74) _=_;exact zqs
                refine zqp 13 15 (zqb 14 16383) HT_ ?_;refine done_ (done_of HT_.out zqk) ?_;have e4:0≤(a7:Int):=zqo;have e5:a7<(a1.size:Int):=zqo;have i4:=bt_at a1 a7;replace e4:=eq_true e4;replace e5:=eq_true e5;have i9:h9.cell? ⟨a6,0,none⟩=some (.slice A0_0 l0_0.length c0_0):=(blk_cell a0.out 0).trans rfl;have j0:h9.cell? ⟨a6,1,none⟩=some (.slice A0_1 l0_1.length c0_1):=(blk_cell a0.out 1).trans rfl;have j5:=blk_frozen a0.out 0;have j6:=blk_frozen a0.out 1;try go_wp2_with (first|((with_reducible refine gate_callee (f:=94) rfl ?_);refine goesL_ (some 88) rfl rfl Try.func94 zqk rfl #[.slice A0_0 l0_0.length c0_0,.int .i64 b4,.int .i64 b2] rfl zq1 ?_;(with_reducible refine(spec_l1Join.calls k _ _ l0_0 b4 b2 d4 _ ?side1 ?side2 j9.out).mono ?_);(case side1=> exact zq31);(case side2=>exact b7.out);rintro e w' ⟨rfl,⟨nd,rfl⟩⟩;refine⟨_,rfl,?_⟩))
                go_ret
                exact⟨zq144,zq25⟩
              ·rw [if_neg f5] at H;exact absurd H (by simp)
             ·rw [if_neg f4] at H;exact absurd H (by simp)
            ·rw [if_neg e2] at H;exact absurd H (by simp)
           ·rw [if_neg e1] at H;exact absurd H (by simp)
          ·rw [if_neg e0] at H;exact absurd H (by simp)
         ·rw [if_neg d9] at H;exact absurd H (by simp)
        ·rw [if_neg d8] at H;exact absurd H (by simp)
 ·rw [if_neg c7] at H;exact absurd H (by simp)
end
section
attribute [local go_sem] max2_int min2_int max_two min_two max_three min_three max_four min_four
def spec_NoOf.f (k : Nat) (l0_0 : List (List Int)) (l0_1 : List Int) : Option (Int) := (spec_LogicOk.f k l0_0 l0_1).bind fun t884 => (if t884 = true then ((spec_LeastOf.f k l0_0).bind fun bt885 => (some bt885.1)) else (some (-1)))
set_option maxHeartbeats 8000000 in
set_option maxRecDepth 100000 in
theorem spec_NoOf.calls (k : Nat) (A0_0 : Option Addr) (c0_0 : Nat) (l0_0 : List (List Int)) (A0_1 : Option Addr) (c0_1 : Nat) (l0_1 : List Int) (r : Int) (w : World) (hr0_0 : Kd.C (Kd.slice 3 (Kd.int .i64)) w A0_0 l0_0.length l0_0) (hc0_0 : l0_0.length ≤ c0_0) (hr0_1 : Kd.C (Kd.int .i64) w A0_1 l0_1.length l0_1) (hc0_1 : l0_1.length ≤ c0_1) (h : spec_NoOf.f k l0_0 l0_1 = some r) :
  Calls Try.prog 108 #[.agg #[.slice A0_0 l0_0.length c0_0, .slice A0_1 l0_1.length c0_1]] w fun e w' => e = .returned (.int .i64 r) ∧ Below w.heap.size w w' := by
 have hu26:=Try.underlying26;have a4:=zqm hr0_0;have a3:=zqm hc0_0;clear hr0_0 hc0_0;have a8:=zqm hr0_1;have a7:=zqm hc0_1;clear hr0_1 hc0_1;have HB:=zqm (Below.refl w.heap.size w);have H:((spec_LogicOk.f k l0_0 l0_1).bind fun a6=>(if a6=true then((spec_LeastOf.f k l0_0).bind fun b0=>(some b0.1)) else(some (-1))))=some r:=h;clear h;replace H:=Option.bind_eq_some_iff.mp H;obtain⟨a6,b1,H⟩:=H;(try dsimp only at H);have A2:=zqm b1;clear b1
 by_cases c3:a6=true
 ·subst c3;rw [if_pos rfl] at H;replace H:=Option.bind_eq_some_iff.mp H;obtain⟨⟨b3,b4⟩,b2,H⟩:=H;(try dsimp only at H);have A4:=zqm b2;clear b2;obtain rfl:=Option.some.inj H
  go_enter Try.func108,Try.ntmps108
  go_wp2_with (first|((with_reducible refine gate_dst (N:=1) rfl ?_);refine box_event ?hg (N:=1) ?hd (cs:= #[.slice A0_0 l0_0.length c0_0,.slice A0_1 l0_1.length c0_1]) (t:=26) ?hr ?_;(case hd=>rfl);(case hg=>rfl);(case hr=> exact zq17);intro a1 hg w5 hbox hb;have a5:=zqm (below_step zq0 hb);have a0:=zqm (hbox);have a9:=zqm ((by rw [hg];exact(below_size zq0):w.heap.size≤a1));have a2:=zqm ((by rw [hg];exact(below_size zq0):w.heap.size≤a1));clear HB;have HB:=a5;clear a5 hb hbox hg;have b9:w5.cell? ⟨a1,0,none⟩=some (.slice A0_0 l0_0.length c0_0):=(blk_cell a0.out 0).trans rfl;have c0:w5.cell? ⟨a1,1,none⟩=some (.slice A0_1 l0_1.length c0_1):=(blk_cell a0.out 1).trans rfl;have c4:=blk_frozen a0.out 0;have c5:=blk_frozen a0.out 1)|((with_reducible refine gate_callee (f:=17) rfl ?_);refine goesL_ (some 6) rfl rfl Try.func17 zqk rfl #[.agg #[.slice A0_0 l0_0.length c0_0,.slice A0_1 l0_1.length c0_1]] rfl zq1 ?_;(with_reducible refine(spec_LogicOk.calls k _ _ l0_0 _ _ l0_1 true _ ?side1 ?side2 ?side3 ?side4 A2.out).mono ?_);(case side1=> exact zq100);(case side2=>exact a3.out);(case side3=> exact zq65);(case side4=>exact a7.out);rintro e w7 ⟨rfl,hb⟩;refine⟨_,rfl,?_⟩;replace a0:=zqm (blk_below (g:=a1) (o:= .cells #[.slice A0_0 l0_0.length c0_0,.slice A0_1 l0_1.length c0_1] 26 (0,0)) (zqe a0.out) hb);replace HB:=zqm (below_step zq87 hb);clear hb;have c1:w7.cell? ⟨a1,0,none⟩=some (.slice A0_0 l0_0.length c0_0):=(blk_cell a0.out 0).trans rfl;have c2:w7.cell? ⟨a1,1,none⟩=some (.slice A0_1 l0_1.length c0_1):=(blk_cell a0.out 1).trans rfl;have c6:=blk_frozen a0.out 0;have c7:=blk_frozen a0.out 1)|((with_reducible refine gate_callee (f:=79) rfl ?_);refine goesL_ (some 11) rfl rfl Try.func79 zqk rfl #[.slice A0_0 l0_0.length c0_0] rfl zq1 ?_;(with_reducible refine(spec_LeastOf.calls k _ _ l0_0 b3 b4 _ ?side1 ?side2 A4.out).mono ?_);(case side1=> exact zq100);(case side2=>exact a3.out);rintro e w' ⟨rfl,⟨nd,rfl⟩⟩;refine⟨_,rfl,?_⟩))
  go_ret
  exact⟨zq13,zq87⟩
 ·replace c3:=Bool.eq_false_iff.mpr c3;subst c3;rw [if_neg (show¬(false=true) by decide)] at H;obtain rfl:=Option.some.inj H
  go_enter Try.func108,Try.ntmps108
  go_wp2_with (first|((with_reducible refine gate_dst (N:=1) rfl ?_);refine box_event ?hg (N:=1) ?hd (cs:= #[.slice A0_0 l0_0.length c0_0,.slice A0_1 l0_1.length c0_1]) (t:=26) ?hr ?_;(case hd=>rfl);(case hg=>rfl);(case hr=> exact zq17);intro a1 hg w9 hbox hb;have a5:=zqm (below_step zq0 hb);have a0:=zqm (hbox);have a9:=zqm ((by rw [hg];exact(below_size zq0):w.heap.size≤a1));have a2:=zqm ((by rw [hg];exact(below_size zq0):w.heap.size≤a1));clear HB;have HB:=a5;clear a5 hb hbox hg;have b5:w9.cell? ⟨a1,0,none⟩=some (.slice A0_0 l0_0.length c0_0):=(blk_cell a0.out 0).trans rfl;have b6:w9.cell? ⟨a1,1,none⟩=some (.slice A0_1 l0_1.length c0_1):=(blk_cell a0.out 1).trans rfl;have b7:=blk_frozen a0.out 0;have b8:=blk_frozen a0.out 1)|((with_reducible refine gate_callee (f:=17) rfl ?_);refine goesL_ (some 6) rfl rfl Try.func17 zqk rfl #[.agg #[.slice A0_0 l0_0.length c0_0,.slice A0_1 l0_1.length c0_1]] rfl zq1 ?_;(with_reducible refine(spec_LogicOk.calls k _ _ l0_0 _ _ l0_1 false _ ?side1 ?side2 ?side3 ?side4 A2.out).mono ?_);(case side1=> exact zq100);(case side2=>exact a3.out);(case side3=> exact zq65);(case side4=>exact a7.out);rintro e c8 ⟨rfl,hb⟩;refine⟨_,rfl,?_⟩;replace a0:=zqm (blk_below (g:=a1) (o:= .cells #[.slice A0_0 l0_0.length c0_0,.slice A0_1 l0_1.length c0_1] 26 (0,0)) (zqe a0.out) hb);replace HB:=zqm (below_step zq87 hb);clear hb))
  go_ret
  exact⟨zq13,zq87⟩
end
section
attribute [local go_sem] max2_int min2_int max_two min_two max_three min_three max_four min_four
mutual
def impl_OrderOk.j0 : Nat → List (List Int) → Int → Bool → Option (Bool)
 | 0, _, _, _ => none
 | k + 1, x0, x3, x18 => if x18 = true then (some false) else (impl_OrderOk.l0 k x0 x3 x0 (x0.length : Int) 0)
def impl_OrderOk.l0 : Nat → List (List Int) → Int → List (List Int) → Int → Int → Option (Bool)
 | 0, _, _, _, _, _ => none
 | k + 1, x0, x3, x19, x20, x21 => if x21 < x20 then (if 0 ≤ x21 then (if x21 < (x19.length : Int) then (if ((rd_L2 x19 x21).length : Int) = x3 then (if x21 < ((rd_L2 x19 x21).length : Int) then (impl_OrderOk.j2 k x0 x3 x21 (rd_L2 x19 x21) x19 x20 x21 ((rd (rd_L2 x19 x21) x21) != 1)) else (none)) else (impl_OrderOk.j2 k x0 x3 x21 (rd_L2 x19 x21) x19 x20 x21 true)) else (none)) else (none)) else (impl_OrderOk.l2 k x0 x3 x3 0)
def impl_OrderOk.j2 : Nat → List (List Int) → Int → Int → List Int → List (List Int) → Int → Int → Bool → Option (Bool)
 | 0, _, _, _, _, _, _, _, _ => none
 | k + 1, x0, x3, x4, x5, x19, x20, x21, x36 => if x36 = true then (some false) else (impl_OrderOk.l1 k x0 x3 x4 x19 x20 x21 x5 (x5.length : Int) 0)
def impl_OrderOk.l1 : Nat → List (List Int) → Int → Int → List (List Int) → Int → Int → List Int → Int → Int → Option (Bool)
 | 0, _, _, _, _, _, _, _, _, _ => none
 | k + 1, x0, x3, x4, x19, x20, x21, x37, x38, x39 => if x39 < x38 then (if 0 ≤ x39 then (if x39 < (x37.length : Int) then (if (rd x37 x39) = 0 then (impl_OrderOk.j4 k x0 x3 x4 x39 (rd x37 x39) x19 x20 x21 x37 x38 x39 false) else (impl_OrderOk.j4 k x0 x3 x4 x39 (rd x37 x39) x19 x20 x21 x37 x38 x39 ((rd x37 x39) != 1))) else (none)) else (none)) else (impl_OrderOk.l0 k x0 x3 x19 x20 (wrap64 (x21 + 1)))
def impl_OrderOk.j4 : Nat → List (List Int) → Int → Int → Int → Int → List (List Int) → Int → Int → List Int → Int → Int → Bool → Option (Bool)
 | 0, _, _, _, _, _, _, _, _, _, _, _, _ => none
 | k + 1, x0, x3, x4, x6, x7, x19, x20, x21, x37, x38, x39, x49 => if x49 = true then (some false) else (if 0 ≤ x6 then (if x6 < (x0.length : Int) then (if ((rd_L2 x0 x6).length : Int) = x3 then (if x7 = 1 then (if x4 = x6 then (impl_OrderOk.l1 k x0 x3 x4 x19 x20 x21 x37 x38 (wrap64 (x39 + 1))) else (if 0 ≤ x4 then (if x4 < ((rd_L2 x0 x6).length : Int) then (if (rd (rd_L2 x0 x6) x4) = 1 then (some false) else (impl_OrderOk.l1 k x0 x3 x4 x19 x20 x21 x37 x38 (wrap64 (x39 + 1)))) else (none)) else (none))) else (impl_OrderOk.l1 k x0 x3 x4 x19 x20 x21 x37 x38 (wrap64 (x39 + 1)))) else (some false)) else (none)) else (none))
def impl_OrderOk.l2 : Nat → List (List Int) → Int → Int → Int → Option (Bool)
 | 0, _, _, _, _ => none
 | k + 1, x0, x3, x78, x79 => if x79 < x78 then (impl_OrderOk.l3 k x0 x3 x79 x78 x79 x3 0) else (some true)
def impl_OrderOk.l3 : Nat → List (List Int) → Int → Int → Int → Int → Int → Int → Option (Bool)
 | 0, _, _, _, _, _, _, _ => none
 | k + 1, x0, x3, x8, x78, x79, x82, x83 => if x83 < x82 then (impl_OrderOk.l4 k x0 x3 x8 x83 x78 x79 x82 x83 x3 0) else (impl_OrderOk.l2 k x0 x3 x78 (wrap64 (x79 + 1)))
def impl_OrderOk.l4 : Nat → List (List Int) → Int → Int → Int → Int → Int → Int → Int → Int → Int → Option (Bool)
 | 0, _, _, _, _, _, _, _, _, _, _ => none
 | k + 1, x0, x3, x8, x9, x78, x79, x82, x83, x86, x87 => if x87 < x86 then (if 0 ≤ x8 then (if x8 < (x0.length : Int) then (if 0 ≤ x9 then (if x9 < ((rd_L2 x0 x8).length : Int) then (if (rd (rd_L2 x0 x8) x9) = 1 then (if x9 < (x0.length : Int) then (if 0 ≤ x87 then (if x87 < ((rd_L2 x0 x9).length : Int) then (if (rd (rd_L2 x0 x9) x87) = 1 then (if x87 < ((rd_L2 x0 x8).length : Int) then (if (rd (rd_L2 x0 x8) x87) = 1 then (impl_OrderOk.l4 k x0 x3 x8 x9 x78 x79 x82 x83 x86 (wrap64 (x87 + 1))) else (some false)) else (none)) else (impl_OrderOk.l4 k x0 x3 x8 x9 x78 x79 x82 x83 x86 (wrap64 (x87 + 1)))) else (none)) else (none)) else (none)) else (impl_OrderOk.l4 k x0 x3 x8 x9 x78 x79 x82 x83 x86 (wrap64 (x87 + 1)))) else (none)) else (none)) else (none)) else (none)) else (impl_OrderOk.l3 k x0 x3 x8 x78 x79 x82 (wrap64 (x83 + 1)))
end
def impl_OrderOk.f (k : Nat) (l0 : List (List Int)) : Option (Bool) := if (l0.length : Int) < 1 then (impl_OrderOk.j0 k l0 (l0.length : Int) true) else (impl_OrderOk.j0 k l0 (l0.length : Int) (decide ((l0.length : Int) > 12)))
set_option maxHeartbeats 8000000 in
set_option maxRecDepth 100000 in
theorem impl_OrderOk.calls (k : Nat) (A0 : Option Addr) (c0 : Nat) (l0 : List (List Int)) (r : Bool) (w : World) (hr0 : Kd.C (Kd.slice 3 (Kd.int .i64)) w A0 l0.length l0) (hc0 : l0.length ≤ c0) (h : impl_OrderOk.f k l0 = some r) :
  Calls Try.prog 81 #[.slice A0 l0.length c0] w fun e w' => e = .returned (.bool r) ∧ Drawn0 w w' := by
 have c2:=zqm hr0;have w2:=zqm hc0;clear hr0 hc0;have H:(if(l0.length:Int)<1 then(impl_OrderOk.j0 k l0 (l0.length:Int) true) else(impl_OrderOk.j0 k l0 (l0.length:Int) (decide ((l0.length:Int)>12))))=some r:=h;clear h;have p4:=zqm H;clear H
 go_enter Try.func81,Try.ntmps81
 go_upto_region 2 with (fail)
 go_cut [18] (fun t5 wc=> ∃(kq:Nat) (h2:Bool),t5= .bool h2∧Aside0 (impl_OrderOk.j0 kq l0 (l0.length:Int) h2=some r)∧Aside0 (kq≤k)∧Drawn0 w wc)
 case first=>
  have H:=p4.out;clear p4
  by_cases c3:(l0.length:Int)<1
  ·rw [if_pos c3] at H;have i2:decide ((l0.length:Int)<1)=true:=decide_eq_true c3;have s2:decide (l0.length<1)=true:=decide_eq_true (by omega);clear c3;(first|rw [i2]|(simp only [i64_w,i32_w];rw [i2])|skip);have H':=zqm H;clear H
   go_wp2
   go_meet
   case rel=>exact⟨_,(true),zq7,H',⟨zq62⟩,zq12⟩
  ·rw [if_neg c3] at H;have i2:decide ((l0.length:Int)<1)=false:=decide_eq_false c3;have s2:decide (l0.length<1)=false:=decide_eq_false (by omega);clear c3;(first|rw [i2]|(simp only [i64_w,i32_w];rw [i2])|skip);have H':=zqm H;clear H
   go_wp2
   go_meet
   case rel=>exact⟨_,(decide ((l0.length:Int)>12)),zq7,H',⟨zq62⟩,zq12⟩
 case rest=>
  clear p4;obtain⟨kq,h2,rfl,HA,b1,⟨mc1,rfl⟩⟩:=hcut
  cases kq with
  |zero=>exact absurd HA.out (by simp [impl_OrderOk.j0])
  |succ s0=>
   have H:=HA.out;clear HA;simp only [impl_OrderOk.j0] at H
   by_cases c4:h2=true
   ·subst c4;rw [if_pos rfl] at H;obtain rfl:=Option.some.inj H
    go_wp2
    go_ret
    exact⟨zq7,zq12⟩
   ·replace c4:=Bool.eq_false_iff.mpr c4;subst c4;rw [if_neg (show¬(false=true) by decide)] at H;have H':=zqm H;clear H
    go_wp2
    go_loopg [21] s0 (fun kq t6 w'=> ∃(a0:Int),t6= .int .i64 a0∧Aside0 (impl_OrderOk.l0 kq l0 (l0.length:Int) l0 (l0.length:Int) a0=some r)∧Aside0 (kq≤s0)∧Drawn0 w w')
    case atStart=>exact⟨(0),zq7,H',⟨Nat.le_refl _⟩,zq12⟩
    case round=>
     clear H';obtain⟨a0,rfl,HA,b2,⟨m2,rfl⟩⟩:=hrel
     cases gk with
     |zero=>exact absurd HA.out (by simp [impl_OrderOk.l0])
     |succ k2=>
      have H:=HA.out;clear HA;simp only [impl_OrderOk.l0] at H
      by_cases c5:a0<(l0.length:Int)
      ·rw [if_pos c5] at H;have s3:decide (a0<(l0.length:Int))=true:=decide_eq_true c5;clear c5
       by_cases c6:0≤a0
       ·rw [if_pos c6] at H;have w0:decide (0≤a0)=true:=decide_eq_true c6;clear c6
        by_cases c7:a0<(l0.length:Int)
        ·rw [if_pos c7] at H;have w1:decide (a0<(l0.length:Int))=true:=decide_eq_true c7;clear c7;have p5:=zqm H;clear H;have m0:0≤(a0:Int):=zqo;have m7:a0<(l0.length:Int):=zqo;obtain⟨e2,t3,t4,s6,t0,j7,j6⟩:=at_L2 c2.out a0 m0 m7
         cases s6
         have i8:=zqm j6;have s9:=zqm j7;clear j6 j7;replace m0:=eq_true m0;replace m7:=eq_true m7
         go_upto_region 7 with (fail)
         go_cut [36] (fun t7 wc=> ∃(kq:Nat) (h3:Bool),t7= .bool h3∧Aside0 (impl_OrderOk.j2 kq l0 (l0.length:Int) a0 (rd_L2 l0 a0) l0 (l0.length:Int) a0 h3=some r)∧Aside0 (kq≤k2)∧Drawn0 w wc)
         case first=>
          have H:=p5.out;clear p5
          by_cases c9:((rd_L2 l0 a0).length:Int)=(l0.length:Int)
          ·rw [if_pos c9] at H;have i4:(((rd_L2 l0 a0).length:Int)==(l0.length:Int))=true:=beq_iff_eq.mpr c9;have s4:(((rd_L2 l0 a0).length:Int) !=(l0.length:Int))=false:=bne_eq_false_iff_eq.mpr c9;(have s5:((rd_L2 l0 a0).length==l0.length)=true:=by first|simpa using c9|(simp at c9 ⊢;omega));clear c9;(first|rw [i4]|(simp only [i64_w,i32_w];rw [i4])|skip)
           by_cases n1:a0<((rd_L2 l0 a0).length:Int)
           ·rw [if_pos n1] at H;have u5:decide (a0<((rd_L2 l0 a0).length:Int))=true:=decide_eq_true n1;clear n1;have H':=zqm H;clear H;have m1:0≤(a0:Int):=zqo;have m8:a0<((rd_L2 l0 a0).length:Int):=zqo;obtain⟨u3,s7,t1⟩:=Kd.at_int i8.out a0 m1 m8
            cases s7
            replace m1:=eq_true m1;replace m8:=eq_true m8
            go_wp2
            go_meet
            case rel=>exact⟨_,(((rd (rd_L2 l0 a0) a0) !=1)),zq7,H',⟨by have:=b1.out;have:=b2.out;first|omega|exact Nat.le_refl _⟩,zq12⟩
           ·rw [if_neg n1] at H;exact absurd H (by simp)
          ·rw [if_neg c9] at H;have i4:(((rd_L2 l0 a0).length:Int)==(l0.length:Int))=false:=beq_eq_false_iff_ne.mpr c9;have s4:(((rd_L2 l0 a0).length:Int) !=(l0.length:Int))=true:=bne_iff_ne.mpr c9;(have s5:((rd_L2 l0 a0).length==l0.length)=false:=by first|simpa using c9|(simp at c9 ⊢;omega));(first|rw [i4]|(simp only [i64_w,i32_w];rw [i4])|skip);have H':=zqm H;clear H
           go_wp2
           go_meet
           case rel=>exact⟨_,(true),zq7,H',⟨by have:=b1.out;have:=b2.out;first|omega|exact Nat.le_refl _⟩,zq12⟩
         case rest=>
          clear p5;obtain⟨kq,h3,rfl,HA,e7,⟨mc7,rfl⟩⟩:=hcut
          cases kq with
          |zero=>exact absurd HA.out (by simp [impl_OrderOk.j2])
          |succ s1=>
           have H:=HA.out;clear HA;simp only [impl_OrderOk.j2] at H
           by_cases n2:h3=true
           ·subst n2;rw [if_pos rfl] at H;obtain rfl:=Option.some.inj H
            go_wp2
            go_ret
            exact⟨zq7,zq12⟩
           ·replace n2:=Bool.eq_false_iff.mpr n2;subst n2;rw [if_neg (show¬(false=true) by decide)] at H;have H':=zqm H;clear H
            go_wp2
            go_loopg [39] s1 (fun kq t8 w'=> ∃(a1:Int),t8= .int .i64 a1∧Aside0 (impl_OrderOk.l1 kq l0 (l0.length:Int) a0 l0 (l0.length:Int) a0 (rd_L2 l0 a0) ((rd_L2 l0 a0).length:Int) a1=some r)∧Aside0 (kq≤s1)∧Drawn0 w w')
            case atStart=>exact⟨(0),zq7,H',⟨Nat.le_refl _⟩,zq12⟩
            case round=>
             clear H';obtain⟨a1,rfl,HA,b3,⟨m4,rfl⟩⟩:=hrel
             cases gk with
             |zero=>exact absurd HA.out (by simp [impl_OrderOk.l1])
             |succ k4=>
              have H:=HA.out;clear HA;simp only [impl_OrderOk.l1] at H
              by_cases i9:a1<((rd_L2 l0 a0).length:Int)
              ·rw [if_pos i9] at H;have q0:decide (a1<((rd_L2 l0 a0).length:Int))=true:=decide_eq_true i9;clear i9
               by_cases n3:0≤a1
               ·rw [if_pos n3] at H;have u6:decide (0≤a1)=true:=decide_eq_true n3;clear n3
                by_cases n4:a1<((rd_L2 l0 a0).length:Int)
                ·rw [if_pos n4] at H;have u7:decide (a1<((rd_L2 l0 a0).length:Int))=true:=decide_eq_true n4;clear n4;have k9:=zqm H;clear H;have m6:0≤(a1:Int):=zqo;have m9:a1<((rd_L2 l0 a0).length:Int):=zqo;obtain⟨u4,s8,t2⟩:=Kd.at_int i8.out a1 m6 m9
                 cases s8
                 replace m6:=eq_true m6;replace m9:=eq_true m9
                 go_upto_region 12 with (fail)
                 go_cut [49] (fun t9 wc=> ∃(kq:Nat) (g3:Bool),t9= .bool g3∧Aside0 (impl_OrderOk.j4 kq l0 (l0.length:Int) a0 a1 (rd (rd_L2 l0 a0) a1) l0 (l0.length:Int) a0 (rd_L2 l0 a0) ((rd_L2 l0 a0).length:Int) a1 g3=some r)∧Aside0 (kq≤k4)∧Drawn0 w wc)
                 case first=>
                  have H:=k9.out;clear k9
                  by_cases h5:(rd (rd_L2 l0 a0) a1)=0
                  ·rw [if_pos h5] at H;have g1:((rd (rd_L2 l0 a0) a1)==0)=true:=beq_iff_eq.mpr h5;have q1:((rd (rd_L2 l0 a0) a1) !=0)=false:=bne_eq_false_iff_eq.mpr h5;clear h5;(first|rw [g1]|(simp only [i64_w,i32_w];rw [g1])|skip);have H':=zqm H;clear H
                   go_wp2
                   go_meet
                   case rel=>exact⟨_,(false),zq7,H',⟨zq221⟩,zq12⟩
                  ·rw [if_neg h5] at H;have g1:((rd (rd_L2 l0 a0) a1)==0)=false:=beq_eq_false_iff_ne.mpr h5;have q1:((rd (rd_L2 l0 a0) a1) !=0)=true:=bne_iff_ne.mpr h5;(first|rw [g1]|(simp only [i64_w,i32_w];rw [g1])|skip);have H':=zqm H;clear H
                   go_wp2
                   go_meet
                   case rel=>exact⟨_,(((rd (rd_L2 l0 a0) a1) !=1)),zq7,H',⟨zq221⟩,zq12⟩
                 case rest=>
                  clear k9;obtain⟨kq,g3,rfl,HA,g5,⟨mc14,rfl⟩⟩:=hcut
                  cases kq with
                  |zero=>exact absurd HA.out (by simp [impl_OrderOk.j4])
                  |succ l9=>
                   have H:=HA.out;clear HA;simp only [impl_OrderOk.j4] at H
                   by_cases n5:g3=true
                   ·subst n5;rw [if_pos rfl] at H;obtain rfl:=Option.some.inj H
                    go_wp2
                    go_ret
                    exact⟨zq7,zq12⟩
                   ·replace n5:=Bool.eq_false_iff.mpr n5;subst n5;rw [if_neg (show¬(false=true) by decide)] at H
                    by_cases n6:0≤a1
                    ·rw [if_pos n6] at H;have u8:decide (0≤a1)=true:=decide_eq_true n6;clear n6
                     by_cases n7:a1<(l0.length:Int)
                     ·rw [if_pos n7] at H;have u9:decide (a1<(l0.length:Int))=true:=decide_eq_true n7;clear n7
                      by_cases e4:((rd_L2 l0 a1).length:Int)=(l0.length:Int)
                      ·rw [if_pos e4] at H;have q2:(((rd_L2 l0 a1).length:Int)==(l0.length:Int))=true:=beq_iff_eq.mpr e4;have q3:(((rd_L2 l0 a1).length:Int) !=(l0.length:Int))=false:=bne_eq_false_iff_eq.mpr e4;(have q4:((rd_L2 l0 a1).length==l0.length)=true:=by first|simpa using e4|(simp at e4 ⊢;omega));clear e4
                       by_cases h6:(rd (rd_L2 l0 a0) a1)=1
                       ·rw [if_pos h6] at H;have q5:((rd (rd_L2 l0 a0) a1)==1)=true:=beq_iff_eq.mpr h6;have q6:((rd (rd_L2 l0 a0) a1) !=1)=false:=bne_eq_false_iff_eq.mpr h6;clear h6
                        by_cases h7:a0=a1
                        ·rw [if_pos h7] at H;have q7:(a0==a1)=true:=beq_iff_eq.mpr h7;have q8:(a0 !=a1)=false:=bne_eq_false_iff_eq.mpr h7;clear h7;have H':=zqm H;clear H;have a9:0≤(a1:Int):=zqo;have b0:a1<(l0.length:Int):=zqo;obtain⟨c8,f9,g2,e3,d0,a6,a5⟩:=at_L2 c2.out a1 a9 b0;obtain rfl:e2=c8:=(by injection e3);have e6:=zqm a5;have e5:=zqm a6;clear a5 a6;replace a9:=eq_true a9;replace b0:=eq_true b0
                         go_wp2
                         go_roundg l9
                         (case measure=> exact zq149);case rel=>exact⟨(wrap64 (a1+1)),zq7,H',⟨zq149⟩,zq12⟩
                        ·rw [if_neg h7] at H;have q7:(a0==a1)=false:=beq_eq_false_iff_ne.mpr h7;have q8:(a0 !=a1)=true:=bne_iff_ne.mpr h7
                         by_cases n8:0≤a0
                         ·rw [if_pos n8] at H;have v0:decide (0≤a0)=true:=decide_eq_true n8;clear n8
                          by_cases n9:a0<((rd_L2 l0 a1).length:Int)
                          ·rw [if_pos n9] at H;have v1:decide (a0<((rd_L2 l0 a1).length:Int))=true:=decide_eq_true n9;clear n9
                           by_cases h8:(rd (rd_L2 l0 a1) a0)=1
                           ·rw [if_pos h8] at H;have q9:((rd (rd_L2 l0 a1) a0)==1)=true:=beq_iff_eq.mpr h8;have r0:((rd (rd_L2 l0 a1) a0) !=1)=false:=bne_eq_false_iff_eq.mpr h8;clear h8;obtain rfl:=Option.some.inj H;have a9:0≤(a1:Int):=zqo;have b0:a1<(l0.length:Int):=zqo;obtain⟨c8,f9,g2,e3,d0,a6,a5⟩:=at_L2 c2.out a1 a9 b0;obtain rfl:e2=c8:=(by injection e3);have e6:=zqm a5;have e5:=zqm a6;clear a5 a6;replace a9:=eq_true a9;replace b0:=eq_true b0;have f1:0≤(a1:Int):=zqo;have f5:a1<(l0.length:Int):=zqo;obtain⟨k0,p2,p6,l5,g8,d9,d7⟩:=at_L2 c2.out a1 f1 f5;obtain rfl:e2=k0:=(by injection l5);have g6:=zqm d7;have o8:=zqm d9;clear d7 d9;replace f1:=eq_true f1;replace f5:=eq_true f5;have ea_:=Option.some.inj (d0.symm.trans g8);injection ea_ with ea_ en_ ec_;subst ea_;subst ec_;clear en_;have f2:0≤(a0:Int):=zqo;have f6:a0<((rd_L2 l0 a1).length:Int):=zqo;obtain⟨p8,l6,p0⟩:=Kd.at_int g6.out a0 f2 f6
                            cases l6
                            replace f2:=eq_true f2;replace f6:=eq_true f6
                            go_wp2
                            go_ret
                            exact⟨zq7,zq12⟩
                           ·rw [if_neg h8] at H;have q9:((rd (rd_L2 l0 a1) a0)==1)=false:=beq_eq_false_iff_ne.mpr h8;have r0:((rd (rd_L2 l0 a1) a0) !=1)=true:=bne_iff_ne.mpr h8;have H':=zqm H;clear H;have a9:0≤(a1:Int):=zqo;have b0:a1<(l0.length:Int):=zqo;obtain⟨c8,f9,g2,e3,d0,a6,a5⟩:=at_L2 c2.out a1 a9 b0;obtain rfl:e2=c8:=(by injection e3);have e6:=zqm a5;have e5:=zqm a6;clear a5 a6;replace a9:=eq_true a9;replace b0:=eq_true b0;have f1:0≤(a1:Int):=zqo;have f5:a1<(l0.length:Int):=zqo;obtain⟨k0,p2,p6,l5,g8,d9,d7⟩:=at_L2 c2.out a1 f1 f5;obtain rfl:e2=k0:=(by injection l5);have g6:=zqm d7;have o8:=zqm d9;clear d7 d9;replace f1:=eq_true f1;replace f5:=eq_true f5;have ea_:=Option.some.inj (d0.symm.trans g8);injection ea_ with ea_ en_ ec_;subst ea_;subst ec_;clear en_;have f2:0≤(a0:Int):=zqo;have f6:a0<((rd_L2 l0 a1).length:Int):=zqo;obtain⟨p8,l6,p0⟩:=Kd.at_int g6.out a0 f2 f6
                            cases l6
                            replace f2:=eq_true f2;replace f6:=eq_true f6
                            go_wp2
                            go_roundg l9
                            (case measure=> exact zq149);case rel=>exact⟨(wrap64 (a1+1)),zq7,H',⟨zq149⟩,zq12⟩
                          ·rw [if_neg n9] at H;exact absurd H (by simp)
                         ·rw [if_neg n8] at H;exact absurd H (by simp)
                       ·rw [if_neg h6] at H;have q5:((rd (rd_L2 l0 a0) a1)==1)=false:=beq_eq_false_iff_ne.mpr h6;have q6:((rd (rd_L2 l0 a0) a1) !=1)=true:=bne_iff_ne.mpr h6;have H':=zqm H;clear H;have a9:0≤(a1:Int):=zqo;have b0:a1<(l0.length:Int):=zqo;obtain⟨c8,f9,g2,e3,d0,a6,a5⟩:=at_L2 c2.out a1 a9 b0;obtain rfl:e2=c8:=(by injection e3);have e6:=zqm a5;have e5:=zqm a6;clear a5 a6;replace a9:=eq_true a9;replace b0:=eq_true b0
                        go_wp2
                        go_roundg l9
                        (case measure=> exact zq149);case rel=>exact⟨(wrap64 (a1+1)),zq7,H',⟨zq149⟩,zq12⟩
                      ·rw [if_neg e4] at H;have q2:(((rd_L2 l0 a1).length:Int)==(l0.length:Int))=false:=beq_eq_false_iff_ne.mpr e4;have q3:(((rd_L2 l0 a1).length:Int) !=(l0.length:Int))=true:=bne_iff_ne.mpr e4;(have q4:((rd_L2 l0 a1).length==l0.length)=false:=by first|simpa using e4|(simp at e4 ⊢;omega));obtain rfl:=Option.some.inj H;have a9:0≤(a1:Int):=zqo;have b0:a1<(l0.length:Int):=zqo;obtain⟨c8,f9,g2,e3,d0,a6,a5⟩:=at_L2 c2.out a1 a9 b0;obtain rfl:e2=c8:=(by injection e3);have e6:=zqm a5;have e5:=zqm a6;clear a5 a6;replace a9:=eq_true a9;replace b0:=eq_true b0
                       go_wp2
                       go_ret
                       exact⟨zq7,zq12⟩
                     ·rw [if_neg n7] at H;exact absurd H (by simp)
                    ·rw [if_neg n6] at H;exact absurd H (by simp)
                ·rw [if_neg n4] at H;exact absurd H (by simp)
               ·rw [if_neg n3] at H;exact absurd H (by simp)
              ·rw [if_neg i9] at H;have q0:decide (a1<((rd_L2 l0 a0).length:Int))=false:=decide_eq_false i9;clear i9;have H':=zqm H;clear H
               go_wp2
               go_roundg k4
               (case measure=>have:=b1.out;have:=b2.out;have:=e7.out;have:=b3.out;omega);case rel=>exact⟨(wrap64 (a0+1)),zq7,H',⟨by have:=b1.out;have:=b2.out;have:=e7.out;have:=b3.out;omega⟩,zq12⟩
        ·rw [if_neg c7] at H;exact absurd H (by simp)
       ·rw [if_neg c6] at H;exact absurd H (by simp)
      ·rw [if_neg c5] at H;have s3:decide (a0<(l0.length:Int))=false:=decide_eq_false c5;clear c5;have H':=zqm H;clear H
       go_wp2
       go_loopg [79] k2 (fun kq u0 w'=> ∃(a2:Int),u0= .int .i64 a2∧Aside0 (impl_OrderOk.l2 kq l0 (l0.length:Int) (l0.length:Int) a2=some r)∧Aside0 (kq≤k2)∧Drawn0 w w')
       case atStart=>exact⟨(0),zq7,H',⟨Nat.le_refl _⟩,zq12⟩
       case round=>
        clear H';obtain⟨a2,rfl,HA,e8,⟨m3,rfl⟩⟩:=hrel
        cases gk with
        |zero=>exact absurd HA.out (by simp [impl_OrderOk.l2])
        |succ k3=>
         have H:=HA.out;clear HA;simp only [impl_OrderOk.l2] at H
         by_cases j1:a2<(l0.length:Int)
         ·rw [if_pos j1] at H;have r1:decide (a2<(l0.length:Int))=true:=decide_eq_true j1;clear j1;have H':=zqm H;clear H
          go_wp2
          go_loopg [83] k3 (fun kq u1 w'=> ∃(a3:Int),u1= .int .i64 a3∧Aside0 (impl_OrderOk.l3 kq l0 (l0.length:Int) a2 (l0.length:Int) a2 (l0.length:Int) a3=some r)∧Aside0 (kq≤k3)∧Drawn0 w w')
          case atStart=>exact⟨(0),zq7,H',⟨Nat.le_refl _⟩,zq12⟩
          case round=>
           clear H';obtain⟨a3,rfl,HA,b3,⟨m4,rfl⟩⟩:=hrel
           cases gk with
           |zero=>exact absurd HA.out (by simp [impl_OrderOk.l3])
           |succ k4=>
            have H:=HA.out;clear HA;simp only [impl_OrderOk.l3] at H
            by_cases j3:a3<(l0.length:Int)
            ·rw [if_pos j3] at H;have r2:decide (a3<(l0.length:Int))=true:=decide_eq_true j3;clear j3;have H':=zqm H;clear H
             go_wp2
             go_loopg [87] k4 (fun kq u2 w'=> ∃(a4:Int),u2= .int .i64 a4∧Aside0 (impl_OrderOk.l4 kq l0 (l0.length:Int) a2 a3 (l0.length:Int) a2 (l0.length:Int) a3 (l0.length:Int) a4=some r)∧Aside0 (kq≤k4)∧Drawn0 w w')
             case atStart=>exact⟨(0),zq7,H',⟨Nat.le_refl _⟩,zq12⟩
             case round=>
              clear H';obtain⟨a4,rfl,HA,h1,⟨m5,rfl⟩⟩:=hrel
              cases gk with
              |zero=>exact absurd HA.out (by simp [impl_OrderOk.l4])
              |succ k5=>
               have H:=HA.out;clear HA;simp only [impl_OrderOk.l4] at H
               by_cases j5:a4<(l0.length:Int)
               ·rw [if_pos j5] at H;have r3:decide (a4<(l0.length:Int))=true:=decide_eq_true j5;clear j5
                by_cases o0:0≤a2
                ·rw [if_pos o0] at H;have v2:decide (0≤a2)=true:=decide_eq_true o0;clear o0
                 by_cases o1:a2<(l0.length:Int)
                 ·rw [if_pos o1] at H;have v3:decide (a2<(l0.length:Int))=true:=decide_eq_true o1;clear o1
                  by_cases o2:0≤a3
                  ·rw [if_pos o2] at H;have v4:decide (0≤a3)=true:=decide_eq_true o2;clear o2
                   by_cases o3:a3<((rd_L2 l0 a2).length:Int)
                   ·rw [if_pos o3] at H;have v5:decide (a3<((rd_L2 l0 a2).length:Int))=true:=decide_eq_true o3;clear o3
                    by_cases h9:(rd (rd_L2 l0 a2) a3)=1
                    ·rw [if_pos h9] at H;have r4:((rd (rd_L2 l0 a2) a3)==1)=true:=beq_iff_eq.mpr h9;have r5:((rd (rd_L2 l0 a2) a3) !=1)=false:=bne_eq_false_iff_eq.mpr h9;clear h9
                     by_cases o4:a3<(l0.length:Int)
                     ·rw [if_pos o4] at H;have v6:decide (a3<(l0.length:Int))=true:=decide_eq_true o4;clear o4
                      by_cases o5:0≤a4
                      ·rw [if_pos o5] at H;have v7:decide (0≤a4)=true:=decide_eq_true o5;clear o5
                       by_cases o6:a4<((rd_L2 l0 a3).length:Int)
                       ·rw [if_pos o6] at H;have v8:decide (a4<((rd_L2 l0 a3).length:Int))=true:=decide_eq_true o6;clear o6
                        by_cases i0:(rd (rd_L2 l0 a3) a4)=1
                        ·rw [if_pos i0] at H;have r6:((rd (rd_L2 l0 a3) a4)==1)=true:=beq_iff_eq.mpr i0;have r7:((rd (rd_L2 l0 a3) a4) !=1)=false:=bne_eq_false_iff_eq.mpr i0;clear i0
                         by_cases o7:a4<((rd_L2 l0 a2).length:Int)
                         ·rw [if_pos o7] at H;have v9:decide (a4<((rd_L2 l0 a2).length:Int))=true:=decide_eq_true o7;clear o7
                          by_cases i1:(rd (rd_L2 l0 a2) a4)=1
                          ·rw [if_pos i1] at H;have r8:((rd (rd_L2 l0 a2) a4)==1)=true:=beq_iff_eq.mpr i1;have r9:((rd (rd_L2 l0 a2) a4) !=1)=false:=bne_eq_false_iff_eq.mpr i1;clear i1;have H':=zqm H;clear H;have b4:0≤(a2:Int):=zqo;have b6:a2<(l0.length:Int):=zqo;obtain⟨d5,h4,i3,e9,e1,a8,a7⟩:=at_L2 c2.out a2 b4 b6
                           cases e9
                           have c1:=zqm a7;have g4:=zqm a8;clear a7 a8;replace b4:=eq_true b4;replace b6:=eq_true b6;have b5:0≤(a3:Int):=zqo;have b7:a3<((rd_L2 l0 a2).length:Int):=zqo;obtain⟨k1,f0,g9⟩:=Kd.at_int c1.out a3 b5 b7
                           cases f0
                           replace b5:=eq_true b5;replace b7:=eq_true b7;have d1:0≤(a3:Int):=zqo;have d3:a3<(l0.length:Int):=zqo;obtain⟨g0,k7,k8,i5,j8,b9,b8⟩:=at_L2 c2.out a3 d1 d3;obtain rfl:d5=g0:=(by injection i5);have d6:=zqm b8;have i7:=zqm b9;clear b8 b9;replace d1:=eq_true d1;replace d3:=eq_true d3;have d2:0≤(a4:Int):=zqo;have d4:a4<((rd_L2 l0 a3).length:Int):=zqo;obtain⟨n0,i6,j9⟩:=Kd.at_int d6.out a4 d2 d4
                           cases i6
                           replace d2:=eq_true d2;replace d4:=eq_true d4;have f3:0≤(a2:Int):=zqo;have f7:a2<(l0.length:Int):=zqo;obtain⟨k6,p3,p7,l7,h0,e0,d8⟩:=at_L2 c2.out a2 f3 f7;obtain rfl:d5=k6:=(by injection l7);have g7:=zqm d8;have o9:=zqm e0;clear d8 e0;replace f3:=eq_true f3;replace f7:=eq_true f7;have ea_:=Option.some.inj (e1.symm.trans h0);injection ea_ with ea_ en_ ec_;subst ea_;subst ec_;clear en_;have f4:0≤(a4:Int):=zqo;have f8:a4<((rd_L2 l0 a2).length:Int):=zqo;obtain⟨p9,l8,p1⟩:=Kd.at_int g7.out a4 f4 f8
                           cases l8
                           replace f4:=eq_true f4;replace f8:=eq_true f8
                           go_wp2
                           go_roundg k5
                           (case measure=> exact zq91);case rel=>exact⟨(wrap64 (a4+1)),zq7,H',⟨zq91⟩,zq12⟩
                          ·rw [if_neg i1] at H;have r8:((rd (rd_L2 l0 a2) a4)==1)=false:=beq_eq_false_iff_ne.mpr i1;have r9:((rd (rd_L2 l0 a2) a4) !=1)=true:=bne_iff_ne.mpr i1;obtain rfl:=Option.some.inj H;have b4:0≤(a2:Int):=zqo;have b6:a2<(l0.length:Int):=zqo;obtain⟨d5,h4,i3,e9,e1,a8,a7⟩:=at_L2 c2.out a2 b4 b6
                           cases e9
                           have c1:=zqm a7;have g4:=zqm a8;clear a7 a8;replace b4:=eq_true b4;replace b6:=eq_true b6;have b5:0≤(a3:Int):=zqo;have b7:a3<((rd_L2 l0 a2).length:Int):=zqo;obtain⟨k1,f0,g9⟩:=Kd.at_int c1.out a3 b5 b7
                           cases f0
                           replace b5:=eq_true b5;replace b7:=eq_true b7;have d1:0≤(a3:Int):=zqo;have d3:a3<(l0.length:Int):=zqo;obtain⟨g0,k7,k8,i5,j8,b9,b8⟩:=at_L2 c2.out a3 d1 d3;obtain rfl:d5=g0:=(by injection i5);have d6:=zqm b8;have i7:=zqm b9;clear b8 b9;replace d1:=eq_true d1;replace d3:=eq_true d3;have d2:0≤(a4:Int):=zqo;have d4:a4<((rd_L2 l0 a3).length:Int):=zqo;obtain⟨n0,i6,j9⟩:=Kd.at_int d6.out a4 d2 d4
                           cases i6
                           replace d2:=eq_true d2;replace d4:=eq_true d4;have f3:0≤(a2:Int):=zqo;have f7:a2<(l0.length:Int):=zqo;obtain⟨k6,p3,p7,l7,h0,e0,d8⟩:=at_L2 c2.out a2 f3 f7;obtain rfl:d5=k6:=(by injection l7);have g7:=zqm d8;have o9:=zqm e0;clear d8 e0;replace f3:=eq_true f3;replace f7:=eq_true f7;have ea_:=Option.some.inj (e1.symm.trans h0);injection ea_ with ea_ en_ ec_;subst ea_;subst ec_;clear en_;have f4:0≤(a4:Int):=zqo;have f8:a4<((rd_L2 l0 a2).length:Int):=zqo;obtain⟨p9,l8,p1⟩:=Kd.at_int g7.out a4 f4 f8
                           cases l8
                           replace f4:=eq_true f4;replace f8:=eq_true f8
                           go_wp2
                           go_ret
                           exact⟨zq7,zq12⟩
                         ·rw [if_neg o7] at H;exact absurd H (by simp)
                        ·rw [if_neg i0] at H;have r6:((rd (rd_L2 l0 a3) a4)==1)=false:=beq_eq_false_iff_ne.mpr i0;have r7:((rd (rd_L2 l0 a3) a4) !=1)=true:=bne_iff_ne.mpr i0;have H':=zqm H;clear H;have b4:0≤(a2:Int):=zqo;have b6:a2<(l0.length:Int):=zqo;obtain⟨d5,h4,i3,e9,e1,a8,a7⟩:=at_L2 c2.out a2 b4 b6
                         cases e9
                         have c1:=zqm a7;have g4:=zqm a8;clear a7 a8;replace b4:=eq_true b4;replace b6:=eq_true b6;have b5:0≤(a3:Int):=zqo;have b7:a3<((rd_L2 l0 a2).length:Int):=zqo;obtain⟨k1,f0,g9⟩:=Kd.at_int c1.out a3 b5 b7
                         cases f0
                         replace b5:=eq_true b5;replace b7:=eq_true b7;have d1:0≤(a3:Int):=zqo;have d3:a3<(l0.length:Int):=zqo;obtain⟨g0,k7,k8,i5,j8,b9,b8⟩:=at_L2 c2.out a3 d1 d3;obtain rfl:d5=g0:=(by injection i5);have d6:=zqm b8;have i7:=zqm b9;clear b8 b9;replace d1:=eq_true d1;replace d3:=eq_true d3;have d2:0≤(a4:Int):=zqo;have d4:a4<((rd_L2 l0 a3).length:Int):=zqo;obtain⟨n0,i6,j9⟩:=Kd.at_int d6.out a4 d2 d4
                         cases i6
                         replace d2:=eq_true d2;replace d4:=eq_true d4
                         go_wp2
                         go_roundg k5
                         (case measure=> exact zq91);case rel=>exact⟨(wrap64 (a4+1)),zq7,H',⟨zq91⟩,zq12⟩
                       ·rw [if_neg o6] at H;exact absurd H (by simp)
                      ·rw [if_neg o5] at H;exact absurd H (by simp)
                     ·rw [if_neg o4] at H;exact absurd H (by simp)
                    ·rw [if_neg h9] at H;have r4:((rd (rd_L2 l0 a2) a3)==1)=false:=beq_eq_false_iff_ne.mpr h9;have r5:((rd (rd_L2 l0 a2) a3) !=1)=true:=bne_iff_ne.mpr h9;have H':=zqm H;clear H;have b4:0≤(a2:Int):=zqo;have b6:a2<(l0.length:Int):=zqo;obtain⟨d5,h4,i3,e9,e1,a8,a7⟩:=at_L2 c2.out a2 b4 b6
                     cases e9
                     have c1:=zqm a7;have g4:=zqm a8;clear a7 a8;replace b4:=eq_true b4;replace b6:=eq_true b6;have b5:0≤(a3:Int):=zqo;have b7:a3<((rd_L2 l0 a2).length:Int):=zqo;obtain⟨k1,f0,g9⟩:=Kd.at_int c1.out a3 b5 b7
                     cases f0
                     replace b5:=eq_true b5;replace b7:=eq_true b7
                     go_wp2
                     go_roundg k5
                     (case measure=> exact zq91);case rel=>exact⟨(wrap64 (a4+1)),zq7,H',⟨zq91⟩,zq12⟩
                   ·rw [if_neg o3] at H;exact absurd H (by simp)
                  ·rw [if_neg o2] at H;exact absurd H (by simp)
                 ·rw [if_neg o1] at H;exact absurd H (by simp)
                ·rw [if_neg o0] at H;exact absurd H (by simp)
               ·rw [if_neg j5] at H;have r3:decide (a4<(l0.length:Int))=false:=decide_eq_false j5;clear j5;have H':=zqm H;clear H
                go_wp2
                go_roundg k5
                (case measure=> exact zq91);case rel=>exact⟨(wrap64 (a3+1)),zq7,H',⟨zq91⟩,zq12⟩
            ·rw [if_neg j3] at H;have r2:decide (a3<(l0.length:Int))=false:=decide_eq_false j3;clear j3;have H':=zqm H;clear H
             go_wp2
             go_roundg k4
             (case measure=>have:=b1.out;have:=b2.out;have:=e8.out;have:=b3.out;omega);case rel=>exact⟨(wrap64 (a2+1)),zq7,H',⟨by have:=b1.out;have:=b2.out;have:=e8.out;have:=b3.out;omega⟩,zq12⟩
         ·rw [if_neg j1] at H;have r1:decide (a2<(l0.length:Int))=false:=decide_eq_false j1;clear j1;obtain rfl:=Option.some.inj H
          go_wp2
          go_ret
          exact⟨zq7,zq12⟩
end
section
attribute [local go_sem] max2_int min2_int max_two min_two max_three min_three max_four min_four
def laws_alive.f (k : Nat)  : Option (Bool) := (impl_OrderOk.f k (([(([1] : List Int))] : List (List Int)))).bind fun t522 => (if t522 = true then ((impl_OrderOk.f k (([(([0] : List Int))] : List (List Int)))).bind fun t529 => (some (!t529))) else (some false))
set_option maxHeartbeats 8000000 in
set_option maxRecDepth 100000 in
theorem laws_alive.calls (k : Nat)  (r : Bool) (w : World) (h : laws_alive.f k  = some r) :
  Calls Try.prog 18 #[] w fun e w' => e = .returned (.bool r) ∧ Below w.heap.size w w' := by
 have HB:=zqm (Below.refl w.heap.size w);have H:((impl_OrderOk.f k (([(([1]:List Int))]:List (List Int)))).bind fun a5=>(if a5=true then((impl_OrderOk.f k (([(([0]:List Int))]:List (List Int)))).bind fun a2=>(some (!a2))) else(some false)))=some r:=h;clear h;obtain⟨a3,b7⟩: ∃y_:List Int,y_=(([1]:List Int)):=⟨_,rfl⟩;replace H:((impl_OrderOk.f k (([a3]:List (List Int)))).bind fun a5=>(if a5=true then((impl_OrderOk.f k (([(([0]:List Int))]:List (List Int)))).bind fun a2=>(some (!a2))) else(some false)))=some r:=zqy b7 H;have b0:=zqm b7;clear b7;obtain⟨a4,b8⟩: ∃y_:List (List Int),y_=(([a3]:List (List Int))):=⟨_,rfl⟩;replace H:((impl_OrderOk.f k a4).bind fun a5=>(if a5=true then((impl_OrderOk.f k (([(([0]:List Int))]:List (List Int)))).bind fun a2=>(some (!a2))) else(some false)))=some r:=zqy b8 H;have b1:=zqm b8;clear b8;replace H:=Option.bind_eq_some_iff.mp H;obtain⟨a5,d1,H⟩:=H;(try dsimp only at H);have A1:=zqm d1;clear d1
 by_cases c2:a5=true
 ·subst c2;rw [if_pos rfl] at H;obtain⟨a8,b9⟩: ∃y_:List Int,y_=(([0]:List Int)):=⟨_,rfl⟩;replace H:((impl_OrderOk.f k (([a8]:List (List Int)))).bind fun a2=>(some (!a2)))=some r:=zqy b9 H;have c4:=zqm b9;clear b9;obtain⟨d0,c0⟩: ∃y_:List (List Int),y_=(([a8]:List (List Int))):=⟨_,rfl⟩;replace H:((impl_OrderOk.f k d0).bind fun a2=>(some (!a2)))=some r:=zqy c0 H;have c5:=zqm c0;clear c0;replace H:=Option.bind_eq_some_iff.mp H;obtain⟨a2,d2,H⟩:=H;(try dsimp only at H);have A3:=zqm d2;clear d2;obtain rfl:=Option.some.inj H
  go_enter Try.func18,Try.ntmps18
  go_wp2_with (first|((with_reducible refine gate_dst (N:=1) rfl ?_);(try(refine gate_guard (by rfl) ?_;dsimp only));refine Kd.R_lit (Kd.int .i64) _ 3 ?hg (N:=1) ?hd (xs:=([1]:List Int)) (inner:= [.int .i64 1]) (ok:=fun _=>True) (okp:=fun _=>True) ?hr ?hp (fun _ hk=>hk) trivial (Below.refl _ _) (Nat.le_refl _) (by simp) ?_;(case hd=>rfl);(case hg=>rfl);(case hr=> exact zq17);(case hp=> exact zq211);intro e1 w4 c1 hb hg_ hnew_;clear hg_ hnew_;(first|rw [← b0.out] at c1|(simp only [Int.reduceToNat] at c1;rw [← b0.out] at c1));have a1:=zqm (Kd.R_lower c1 (below_size zq0));replace HB:=zqm (below_step zq0 hb);clear hb c1;obtain⟨d3,d4,e3⟩:=Kd.R_slice a1.out;subst e3)|((with_reducible refine gate_dst (N:=2) rfl ?_);(try(refine gate_guard (by rfl) ?_;dsimp only));refine Kd.N_lit (Kd.slice 3 (Kd.int .i64)) _ 24 ?hg (N':=2) ?hd (xs:=([a3]:List (List Int))) (inner:= [.slice d3 a3.length d4]) (ok:=(fun _=>True)) (okp:=(fun _=>True)) ?hr ?hp (fun _ hk=>hk) ((show∀k_,w4.heap.size≤k_→(fun _=>True) k_ from fun k_ hk=>trivial) _ (Nat.le_refl _)) (Below.refl _ _) (Nat.le_refl _) (by simp) ?_;(case hd=>rfl);(case hg=>rfl);(case hr=> exact zq17);(case hp=>exact(Reps.one (show Kd.FK (Kd.slice 3 (Kd.int .i64)) _ _ a3 [.slice d3 a3.length d4] from (Kd.FK_slice_mk (Kd.R_reads' (Kd.R_mono (ok':=(fun _=>True)) (a1.out) (fun k_ hk=>trivial))).2.1 (Kd.R_F (Kd.R_mono (ok':=(fun _=>True)) (a1.out) (fun k_ hk=>trivial))))) (Reps.none _ _)));intro e2 w7 c3 hb hg_ hnew_;clear hg_ hnew_;(first|rw [← b1.out] at c3|(simp only [Int.reduceToNat] at c3;rw [← b1.out] at c3));have a0:=zqm (Kd.N_lower c3 (below_size zq0));replace HB:=zqm (below_step zq0 hb);clear a1;clear hb c3;obtain⟨b4,b5,e4⟩:=Kd.N_slice a0.out;subst e4)|((with_reducible refine gate_callee (f:=81) rfl ?_);refine goesL_ (some 3) rfl rfl Try.func81 zqk rfl #[.slice b4 a4.length b5] rfl zq1 ?_;(with_reducible refine(impl_OrderOk.calls k _ _ a4 true _ ?side1 ?side2 A1.out).mono ?_);(case side1=> exact zq176);(case side2=>exact(Kd.N_reads' a0.out).2.1);rintro e w' ⟨rfl,⟨nd,rfl⟩⟩;refine⟨_,rfl,?_⟩)|((with_reducible refine gate_dst (N:=5) rfl ?_);(try(refine gate_guard (by rfl) ?_;dsimp only));refine Kd.R_lit (Kd.int .i64) _ 3 ?hg (N:=5) ?hd (xs:=([0]:List Int)) (inner:= [.int .i64 0]) (ok:=fun _=>True) (okp:=fun _=>True) ?hr ?hp (fun _ hk=>hk) trivial (Below.refl _ _) (Nat.le_refl _) (by simp) ?_;(case hd=>rfl);(case hg=>rfl);(case hr=> exact zq17);(case hp=>exact(Reps.one (show Kd.M (Kd.int .i64) _ _ _ 0 [.int .i64 0] from rfl) (Reps.none _ _)));intro e9 e5 a6 hb hg_ hnew_;clear hg_ hnew_;(first|rw [← c4.out] at a6|(simp only [Int.reduceToNat] at a6;rw [← c4.out] at a6));replace a0:=zqm (Kd.N_elder' zq183 (Kd.R_base a6) hb);have a9:=zqm (Kd.R_lower a6 (below_size zq0));replace HB:=zqm (below_step zq0 hb);clear hb a6;obtain⟨c6,c8,d7⟩:=Kd.R_slice a9.out;subst d7)|((with_reducible refine gate_dst (N:=6) rfl ?_);(try(refine gate_guard (by rfl) ?_;dsimp only));refine Kd.N_lit (Kd.slice 3 (Kd.int .i64)) _ 24 ?hg (N':=6) ?hd (xs:=([a8]:List (List Int))) (inner:= [.slice c6 a8.length c8]) (ok:=(fun k_=>some k_≠(.slice b4 a4.length b5:Value).ownBlock)) (okp:=(fun k_=>some k_≠(.slice b4 a4.length b5:Value).ownBlock)) ?hr ?hp (fun _ hk=>hk) ((show∀k_,e5.heap.size≤k_→(fun k_=>some k_≠(.slice b4 a4.length b5:Value).ownBlock) k_ from fun k_ hk=>Kd.fresh' (Kd.N_lt zq183) k_ hk) _ (Nat.le_refl _)) (Below.refl _ _) (Nat.le_refl _) (by simp) ?_;(case hd=>rfl);(case hg=>rfl);(case hr=> exact zq17);(case hp=>exact(Reps.one (show Kd.FK (Kd.slice 3 (Kd.int .i64)) _ _ a8 [.slice c6 a8.length c8] from (Kd.FK_slice_mk (Kd.R_reads' (Kd.R_mono (ok':=(fun k_=>some k_≠(.slice b4 a4.length b5:Value).ownBlock)) (Kd.R_apart' (a9.out) (Kd.N_typed a0.out) (by decide)) (fun k_ hk=>hk.2))).2.1 (Kd.R_F (Kd.R_mono (ok':=(fun k_=>some k_≠(.slice b4 a4.length b5:Value).ownBlock)) (Kd.R_apart' (a9.out) (Kd.N_typed a0.out) (by decide)) (fun k_ hk=>hk.2))))) (Reps.none _ _)));intro f0 f1 a7 hb hg_ hnew_;clear hg_ hnew_;(first|rw [← c5.out] at a7|(simp only [Int.reduceToNat] at a7;rw [← c5.out] at a7));replace a0:=zqm (Kd.N_elder' zq183 (Kd.N_base a7) hb);have b6:=zqm (Kd.N_lower a7 (below_size zq0));replace HB:=zqm (below_step zq0 hb);clear a9;clear hb a7;obtain⟨e7,e8,d8⟩:=Kd.N_slice b6.out;subst d8)|(go_at_call 81;(with_reducible refine(impl_OrderOk.calls k _ _ d0 a2 _ ?side1 ?side2 A3.out).mono ?_);(case side1=>repeat(first|exact(Kd.N_reads' b6.out).2.2|(with_reducible refine Kd.C_alloc ?_ _)|(with_reducible refine Kd.C_drewN ?_ _)|(with_reducible refine Kd.C_drew ?_)));(case side2=>exact(Kd.N_reads' b6.out).2.1);rintro e w' ⟨rfl,⟨nd,rfl⟩⟩))
  go_ret
  exact⟨zq13,zq0⟩
 ·replace c2:=Bool.eq_false_iff.mpr c2;subst c2;rw [if_neg (show¬(false=true) by decide)] at H;obtain rfl:=Option.some.inj H
  go_enter Try.func18,Try.ntmps18
  go_wp2_with (first|((with_reducible refine gate_dst (N:=1) rfl ?_);(try(refine gate_guard (by rfl) ?_;dsimp only));refine Kd.R_lit (Kd.int .i64) _ 3 ?hg (N:=1) ?hd (xs:=([1]:List Int)) (inner:= [.int .i64 1]) (ok:=fun _=>True) (okp:=fun _=>True) ?hr ?hp (fun _ hk=>hk) trivial (Below.refl _ _) (Nat.le_refl _) (by simp) ?_;(case hd=>rfl);(case hg=>rfl);(case hr=> exact zq17);(case hp=> exact zq211);intro e1 e6 b2 hb hg_ hnew_;clear hg_ hnew_;(first|rw [← b0.out] at b2|(simp only [Int.reduceToNat] at b2;rw [← b0.out] at b2));have a1:=zqm (Kd.R_lower b2 (below_size zq0));replace HB:=zqm (below_step zq0 hb);clear hb b2;obtain⟨c7,c9,d9⟩:=Kd.R_slice a1.out;subst d9)|((with_reducible refine gate_dst (N:=2) rfl ?_);(try(refine gate_guard (by rfl) ?_;dsimp only));refine Kd.N_lit (Kd.slice 3 (Kd.int .i64)) _ 24 ?hg (N':=2) ?hd (xs:=([a3]:List (List Int))) (inner:= [.slice c7 a3.length c9]) (ok:=(fun _=>True)) (okp:=(fun _=>True)) ?hr ?hp (fun _ hk=>hk) ((show∀k_,e6.heap.size≤k_→(fun _=>True) k_ from fun k_ hk=>trivial) _ (Nat.le_refl _)) (Below.refl _ _) (Nat.le_refl _) (by simp) ?_;(case hd=>rfl);(case hg=>rfl);(case hr=> exact zq17);(case hp=>exact(Reps.one (show Kd.FK (Kd.slice 3 (Kd.int .i64)) _ _ a3 [.slice c7 a3.length c9] from (Kd.FK_slice_mk (Kd.R_reads' (Kd.R_mono (ok':=(fun _=>True)) (a1.out) (fun k_ hk=>trivial))).2.1 (Kd.R_F (Kd.R_mono (ok':=(fun _=>True)) (a1.out) (fun k_ hk=>trivial))))) (Reps.none _ _)));intro e2 f2 b3 hb hg_ hnew_;clear hg_ hnew_;(first|rw [← b1.out] at b3|(simp only [Int.reduceToNat] at b3;rw [← b1.out] at b3));have a0:=zqm (Kd.N_lower b3 (below_size zq0));replace HB:=zqm (below_step zq0 hb);clear a1;clear hb b3;obtain⟨d5,d6,e0⟩:=Kd.N_slice a0.out;subst e0)|((with_reducible refine gate_callee (f:=81) rfl ?_);refine goesL_ (some 3) rfl rfl Try.func81 zqk rfl #[.slice d5 a4.length d6] rfl zq1 ?_;(with_reducible refine(impl_OrderOk.calls k _ _ a4 false _ ?side1 ?side2 A1.out).mono ?_);(case side1=> exact zq176);(case side2=>exact(Kd.N_reads' a0.out).2.1);rintro e w' ⟨rfl,⟨nd,rfl⟩⟩;refine⟨_,rfl,?_⟩))
  go_ret
  exact⟨zq13,zq0⟩
end
end Go.Proofs.Ytcbjpdaogicibaa.Print
end
section
namespace Oml
section
universe u
structure OL (α : Type u) where
 le:α→α→Prop
 meet:α→α→α
 join:α→α→α
 neg:α→α
 bot:α
 le_refl: ∀a,le a a
 le_antisymm: ∀a b,le a b→le b a→a=b
 le_trans: ∀a b c,le a b→le b c→le a c
 meet_l: ∀a b,le (meet a b) a
 meet_r: ∀a b,le (meet a b) b
 le_meet: ∀a b c,le c a→le c b→le c (meet a b)
 join_l: ∀a b,le a (join a b)
 join_r: ∀a b,le b (join a b)
 join_le: ∀a b c,le a c→le b c→le (join a b) c
 neg_neg: ∀a,neg (neg a)=a
 neg_anti: ∀a b,le a b→le (neg b) (neg a)
 meet_neg: ∀a,meet a (neg a)=bot
 bot_le: ∀a,le bot a
namespace OL
variable {α : Type u} (L : OL α)
def top : α := L.neg L.bot
theorem le_top (a : α) : L.le a L.top := by
 have h := L.neg_anti _ _ (L.bot_le (L.neg a))
 rw [L.neg_neg] at h
 exact h
theorem neg_le_iff (a b : α) : L.le (L.neg a) b ↔ L.le (L.neg b) a := by
 constructor <;> intro h
 ·have:=L.neg_anti _ _ h;rwa [L.neg_neg] at this
 ·have:=L.neg_anti _ _ h;rwa [L.neg_neg] at this
theorem join_comm (a b : α) : L.join a b = L.join b a :=
 L.le_antisymm _ _ (L.join_le _ _ _ (L.join_r _ _) (L.join_l _ _)) (L.join_le _ _ _ (L.join_r _ _) (L.join_l _ _))
theorem meet_eq_l (a b : α) : L.meet a b = a ↔ L.le a b := by
 constructor
 ·intro h; rw [← h]; exact L.meet_r _ _
 ·intro h; exact L.le_antisymm _ _ (L.meet_l _ _) (L.le_meet _ _ _ (L.le_refl _) h)
theorem neg_meet (a b : α) : L.neg (L.meet a b) = L.join (L.neg a) (L.neg b) := by
 apply L.le_antisymm
 ·rw [L.neg_le_iff]
  exact L.le_meet _ _ _ (by rw [L.neg_le_iff];exact L.join_l _ _) (by rw [L.neg_le_iff];exact L.join_r _ _)
 ·exact L.join_le _ _ _ (L.neg_anti _ _ (L.meet_l _ _)) (L.neg_anti _ _ (L.meet_r _ _))
theorem join_neg (a : α) : L.join a (L.neg a) = L.top := by
 have := L.neg_meet a (L.neg a)
 rw [L.meet_neg, L.neg_neg, L.join_comm] at this
 exact this.symm
theorem meet_top (a : α) : L.meet a L.top = a := (L.meet_eq_l _ _).2 (L.le_top _)
def C (a b : α) : Prop := L.join (L.meet a b) (L.meet a (L.neg b)) = a
def Split (a b c : α) : Prop := L.meet a (L.join b c) = L.join (L.meet a b) (L.meet a c)
def Boolean : Prop := ∀ a b c, L.Split a b c
variable {L}
theorem Boolean.C (B : L.Boolean) (a b : α) : L.C a b := by
 have := B a b (L.neg b)
 unfold Split at this
 rw [L.join_neg, L.meet_top] at this
 exact this.symm
def lt (L : OL α) (a b : α) : Prop := L.le a b ∧ a ≠ b
end OL
end
section
def at1 (N : List Int) (a : Nat) : Int := N.getD a 0
def at2 (U : List (List Int)) (a b : Nat) : Int := (U.getD a []).getD b 0
def leB (U : List (List Int)) (a b : Nat) : Bool := at2 U a b == 1
def allN (n : Nat) (p : Nat → Bool) : Bool := (List.range n).all p
def findN (n : Nat) (p : Nat → Bool) : Option Nat := (List.range n).find? p
theorem allN_iff {n : Nat} {p : Nat → Bool} : allN n p = true ↔ ∀ i, i < n → p i = true := by
 simp [allN, List.all_eq_true]
theorem findN_some {n : Nat} {p : Nat → Bool} {i : Nat} (h : findN n p = some i) : i < n ∧ p i = true := by
 have h1:=List.find?_some h
 have h2:=List.mem_of_find?_eq_some h
 exact⟨by simpa using h2,h1⟩
theorem findN_none {n : Nat} {p : Nat → Bool} : findN n p = none ↔ ∀ i, i < n → p i = false := by
 unfold findN
 rw [List.find?_eq_none]
 constructor
 ·intro h i hi
  have:=h i (by simpa using hi)
  simpa using this
 ·intro h i hi
  have:=h i (by simpa using hi)
  simp [this]
theorem findN_first {n : Nat} {p : Nat → Bool} {i : Nat} (h : findN n p = some i) : ∀ j, j < i → p j = false := by
 unfold findN at h
 rw [List.find?_range_eq_some] at h
 intro j hj
 have:=h.2.2 j hj
 simpa using this
theorem findN_of {n : Nat} {p : Nat → Bool} {i : Nat} (hi : i < n) (h : p i = true) (hf : ∀ j, j < i → p j = false) : findN n p = some i := by
 unfold findN
 rw [List.find?_range_eq_some]
 exact⟨h,by simpa using hi,fun j hj=>by simp [hf j hj]⟩
theorem findN_uniq {n : Nat} {p : Nat → Bool} {i : Nat} (hi : i < n) (h : p i = true) (hu : ∀ j, j < n → p j = true → j = i) : findN n p = some i := by
 refine findN_of hi h fun j hj=>?_
 cases e:p j
 ·rfl
 ·have:=hu j (by omega) e;omega
structure Order (U : List (List Int)) : Prop where
 pos:1≤U.length
 small:U.length≤12
 row: ∀a,a<U.length→(U.getD a []).length=U.length
 bit: ∀a b,a<U.length→b<U.length→at2 U a b=0∨at2 U a b=1
 refl: ∀a,a<U.length→leB U a a=true
 anti: ∀a b,a<U.length→b<U.length→leB U a b=true→leB U b a=true→a=b
 trans: ∀a b c,a<U.length→b<U.length→c<U.length→leB U a b=true→leB U b c=true→leB U a c=true
def orderB (U : List (List Int)) : Bool :=
 decide (1≤U.length) && (decide (U.length≤12) && (allN U.length (fun a=>(U.getD a []).length==U.length && allN U.length fun b=>at2 U a b==0||at2 U a b==1) &&
  allN U.length fun a=>leB U a a && allN U.length fun b=>((a==b)||!(leB U a b && leB U b a)) && allN U.length fun c=>!(leB U a b && leB U b c)||leB U a c))
theorem orderB_iff {U : List (List Int)} : orderB U = true ↔ Order U := by
 unfold orderB
 simp only [Bool.and_eq_true,decide_eq_true_eq,allN_iff,Bool.or_eq_true,beq_iff_eq,Bool.not_eq_true']
 constructor
 ·rintro ⟨h1,h2,h3,h4⟩
  refine⟨h1,h2,fun a ha=>(h3 a ha).1,fun a b ha hb=>(h3 a ha).2 b hb,fun a ha=>(h4 a ha).1,fun a b ha hb k1 k2=>?_,fun a b c ha hb hc k1 k2=>?_⟩
  ·rcases ((h4 a ha).2 b hb).1 with e|e
   ·exact e
   ·rw [k1,k2] at e;exact absurd e (by simp)
  ·rcases ((h4 a ha).2 b hb).2 c hc with e|e
   ·rw [k1,k2] at e;exact absurd e (by simp)
   ·exact e
 ·intro O
  refine⟨O.pos,O.small,fun a ha=>⟨O.row a ha,fun b hb=>O.bit a b ha hb⟩,fun a ha=>⟨O.refl a ha,fun b hb=>⟨?_,fun c hc=>?_⟩⟩⟩
  ·by_cases e:a=b
   ·exact .inl e
   ·right
    cases k1:leB U a b <;> cases k2:leB U b a <;> simp
    exact e (O.anti a b ha hb k1 k2)
  ·cases k1:leB U a b <;> cases k2:leB U b c <;> simp
   exact O.trans a b c ha hb hc k1 k2
theorem Order.val {U : List (List Int)} (O : Order U) {a b : Nat} (ha : a < U.length) (hb : b < U.length) : at2 U a b = if leB U a b = true then 1 else 0 := by
 unfold leB
 rcases O.bit a b ha hb with e|e <;> simp [e]
def meetP (U : List (List Int)) (a b c : Nat) : Bool := leB U c a && (leB U c b && allN U.length fun d => !(leB U d a && leB U d b) || leB U d c)
def joinP (U : List (List Int)) (a b c : Nat) : Bool := leB U a c && (leB U b c && allN U.length fun d => !(leB U a d && leB U b d) || leB U c d)
def meetO (U : List (List Int)) (a b : Nat) : Option Nat := findN U.length (meetP U a b)
def joinO (U : List (List Int)) (a b : Nat) : Option Nat := findN U.length (joinP U a b)
def leastO (U : List (List Int)) : Option Nat := findN U.length fun a => allN U.length fun b => leB U a b
def optI (o : Option Nat) : Int := match o with | some m => (m : Int) | none => -1
theorem meetP_iff {U : List (List Int)} {a b c : Nat} : meetP U a b c = true ↔ leB U c a = true ∧ leB U c b = true ∧ ∀ d, d < U.length → leB U d a = true → leB U d b = true → leB U d c = true := by
 unfold meetP
 simp only [Bool.and_eq_true,allN_iff,Bool.or_eq_true,Bool.not_eq_true',Bool.and_eq_false_iff]
 constructor
 ·rintro ⟨h1,h2,h3⟩
  exact⟨h1,h2,fun d hd k1 k2=>by rcases h3 d hd with (e|e)|e <;> simp_all⟩
 ·rintro ⟨h1,h2,h3⟩
  refine⟨h1,h2,fun d hd=>?_⟩
  cases k1:leB U d a
  ·exact .inl (.inl rfl)
  ·cases k2:leB U d b
   ·exact .inl (.inr rfl)
   ·exact .inr (h3 d hd k1 k2)
theorem joinP_iff {U : List (List Int)} {a b c : Nat} : joinP U a b c = true ↔ leB U a c = true ∧ leB U b c = true ∧ ∀ d, d < U.length → leB U a d = true → leB U b d = true → leB U c d = true := by
 unfold joinP
 simp only [Bool.and_eq_true,allN_iff,Bool.or_eq_true,Bool.not_eq_true',Bool.and_eq_false_iff]
 constructor
 ·rintro ⟨h1,h2,h3⟩
  exact⟨h1,h2,fun d hd k1 k2=>by rcases h3 d hd with (e|e)|e <;> simp_all⟩
 ·rintro ⟨h1,h2,h3⟩
  refine⟨h1,h2,fun d hd=>?_⟩
  cases k1:leB U a d
  ·exact .inl (.inl rfl)
  ·cases k2:leB U b d
   ·exact .inl (.inr rfl)
   ·exact .inr (h3 d hd k1 k2)
theorem Order.meet_eq {U : List (List Int)} (O : Order U) {a b c : Nat} (hc : c < U.length) (h : meetP U a b c = true) : meetO U a b = some c := by
 refine findN_uniq hc h fun j hj e=>?_
 obtain⟨h1,h2,h3⟩:=meetP_iff.1 h
 obtain⟨k1,k2,k3⟩:=meetP_iff.1 e
 exact O.anti j c hj hc (h3 j hj k1 k2) (k3 c hc h1 h2)
theorem Order.join_eq {U : List (List Int)} (O : Order U) {a b c : Nat} (hc : c < U.length) (h : joinP U a b c = true) : joinO U a b = some c := by
 refine findN_uniq hc h fun j hj e=>?_
 obtain⟨h1,h2,h3⟩:=joinP_iff.1 h
 obtain⟨k1,k2,k3⟩:=joinP_iff.1 e
 exact O.anti j c hj hc (k3 c hc h1 h2) (h3 j hj k1 k2)
structure Logic (U : List (List Int)) (N : List Int) : Prop extends Order U where
 meets: ∀a b,a<U.length→b<U.length→(meetO U a b).isSome=true
 joins: ∀a b,a<U.length→b<U.length→(joinO U a b).isSome=true
 len:N.length=U.length
 ran: ∀a,a<U.length→0≤at1 N a∧at1 N a<U.length
 inv: ∀a,a<U.length→at1 N (at1 N a).toNat=a
 comp: ∀a,a<U.length→meetO U a (at1 N a).toNat=leastO U
 turn: ∀a b,a<U.length→b<U.length→leB U a b=true→leB U (at1 N b).toNat (at1 N a).toNat=true
def latticeB (U : List (List Int)) : Bool := orderB U && allN U.length fun a => allN U.length fun b => (meetO U a b).isSome && (joinO U a b).isSome
def logicB (U : List (List Int)) (N : List Int) : Bool :=
 latticeB U && (N.length==U.length && (allN U.length (fun a=>decide (0≤at1 N a) && decide (at1 N a<U.length)) &&
  allN U.length fun a=>at1 N (at1 N a).toNat==(a:Int) && (meetO U a (at1 N a).toNat==leastO U && allN U.length fun b=>!leB U a b||leB U (at1 N b).toNat (at1 N a).toNat)))
theorem latticeB_order {U : List (List Int)} (h : latticeB U = true) : Order U := by
 unfold latticeB at h
 exact orderB_iff.1 (Bool.and_eq_true_iff.1 h).1
theorem logicB_iff {U : List (List Int)} {N : List Int} : logicB U N = true ↔ Logic U N := by
 unfold logicB latticeB
 simp only [Bool.and_eq_true,decide_eq_true_eq,allN_iff,beq_iff_eq,Bool.or_eq_true,Bool.not_eq_true',orderB_iff]
 constructor
 ·rintro ⟨⟨h0,h1⟩,h2,h3,h4⟩
  refine { toOrder:=h0,meets:=fun a b ha hb=>(h1 a ha b hb).1,joins:=fun a b ha hb=>(h1 a ha b hb).2,len:=h2,ran:=h3,inv:=fun a ha=>(h4 a ha).1,comp:=fun a ha=>(h4 a ha).2.1,turn:=fun a b ha hb k=>?_ }
  rcases (h4 a ha).2.2 b hb with e|e
  ·rw [k] at e;exact absurd e (by simp)
  ·exact e
 ·intro L
  refine⟨⟨L.toOrder,fun a ha b hb=>⟨L.meets a b ha hb,L.joins a b ha hb⟩⟩,L.len,L.ran,fun a ha=>⟨L.inv a ha,L.comp a ha,fun b hb=>?_⟩⟩
  cases k:leB U a b
  ·exact .inl rfl
  ·exact .inr (L.turn a b ha hb k)
section
variable {U : List (List Int)} {N : List Int} (L : Logic U N)
def Logic.mt (a b : Fin U.length) : Fin U.length := ⟨(meetO U a b).get (L.meets a b a.2 b.2), (findN_some (Option.some_get _).symm).1⟩
def Logic.jn (a b : Fin U.length) : Fin U.length := ⟨(joinO U a b).get (L.joins a b a.2 b.2), (findN_some (Option.some_get _).symm).1⟩
def Logic.ng (a : Fin U.length) : Fin U.length := ⟨(at1 N a).toNat, by have := L.ran a a.2; omega⟩
theorem Logic.mt_eq (a b : Fin U.length) : meetO U a b = some (L.mt a b).1 := (Option.some_get _).symm
theorem Logic.jn_eq (a b : Fin U.length) : joinO U a b = some (L.jn a b).1 := (Option.some_get _).symm
theorem Logic.ng_eq (a : Fin U.length) : at1 N a = ((L.ng a).1 : Int) := by
 have := L.ran a a.2
 show at1 N a = (((at1 N a).toNat : Nat) : Int)
 omega
theorem Logic.mt_spec (a b : Fin U.length) : meetP U a b (L.mt a b) = true := (findN_some (L.mt_eq a b)).2
theorem Logic.jn_spec (a b : Fin U.length) : joinP U a b (L.jn a b) = true := (findN_some (L.jn_eq a b)).2
theorem Logic.ng_ng (a : Fin U.length) : L.ng (L.ng a) = a := by
 apply Fin.ext
 show (at1 N (at1 N a).toNat).toNat = a
 rw [L.inv a a.2]
 simp
include L in
theorem Logic.least_some : ∃ m, leastO U = some m := by
 have h0:0<U.length:=L.pos
 have:=L.comp 0 h0
 obtain⟨m,hm⟩:=Option.isSome_iff_exists.1 (L.meets 0 (at1 N 0).toNat h0 (by have:=L.ran 0 h0;omega))
 exact⟨m,by rw [← this,hm]⟩
def Logic.no : Fin U.length := ⟨(leastO U).get (by obtain ⟨m, h⟩ := L.least_some; rw [h]; rfl), (findN_some (Option.some_get _).symm).1⟩
theorem Logic.no_eq : leastO U = some L.no.1 := (Option.some_get _).symm
theorem Logic.no_le (b : Fin U.length) : leB U L.no b = true := allN_iff.1 (findN_some L.no_eq).2 b b.2
def Logic.ol : OL (Fin U.length) where
 le a b:=leB U a b=true
 meet:=L.mt
 join:=L.jn
 neg:=L.ng
 bot:=L.no
 le_refl a:=L.refl a a.2
 le_antisymm a b h k:=Fin.ext (L.anti a b a.2 b.2 h k)
 le_trans a b c h k:=L.trans a b c a.2 b.2 c.2 h k
 meet_l a b:=(meetP_iff.1 (L.mt_spec a b)).1
 meet_r a b:=(meetP_iff.1 (L.mt_spec a b)).2.1
 le_meet a b c h k:=(meetP_iff.1 (L.mt_spec a b)).2.2 c c.2 h k
 join_l a b:=(joinP_iff.1 (L.jn_spec a b)).1
 join_r a b:=(joinP_iff.1 (L.jn_spec a b)).2.1
 join_le a b c h k:=(joinP_iff.1 (L.jn_spec a b)).2.2 c c.2 h k
 neg_neg a:=L.ng_ng a
 neg_anti a b h:=L.turn a b a.2 b.2 h
 meet_neg a:=by
  apply Fin.ext
  have h:=L.comp a a.2
  have e1:=L.mt_eq a (L.ng a)
  rw [L.no_eq] at h
  have:some (L.mt a (L.ng a)).1=some L.no.1:=e1.symm.trans h
  exact Option.some.inj this
 bot_le a:=L.no_le a
end
end
end Oml
end
section
namespace Go.Proofs.Ytcbjpdaogicibaa.Print
open Oml
def turnL (U : List (List Int)) : List (List Int) := (List.range U.length).map fun a => (List.range U.length).map fun b => at2 U b a
end Go.Proofs.Ytcbjpdaogicibaa.Print
end
section
namespace Go.Proofs.Ytcbjpdaogicibaa.Print
open Go.RowKit Go.Proofs.YtcbjpdaogicibaaW.PrintWords Go.Proofs.YtcbjpdaogicibaaW.PrintLast Go.Proofs.YtcbjpdaogicibaaW.PrintMore
open Oml
def tabI (n : Nat) (f : Nat → Nat → Int) : List (List Int) := (List.range n).map fun a => (List.range n).map fun b => f a b
def mI (U : List (List Int)) (a b : Nat) : Int := optI (meetO U a b)
def jI (U : List (List Int)) (a b : Nat) : Int := optI (joinO U a b)
def rowT (f : Nat → Nat → Int) (a b : Nat) : List Int := (List.range b).map fun b => f a b
def tabT (n : Nat) (f : Nat → Nat → Int) (a : Nat) : List (List Int) := (List.range a).map fun a => rowT f a n
theorem rowT_succ (f : Nat → Nat → Int) (a b : Nat) : rowT f a (b + 1) = rowT f a b ++ [f a b] := by simp [rowT, List.range_succ]
theorem tabT_succ (n : Nat) (f : Nat → Nat → Int) (a : Nat) : tabT n f (a + 1) = tabT n f a ++ [rowT f a n] := by simp [tabT, List.range_succ]
theorem rowT_length (f : Nat → Nat → Int) (a b : Nat) : (rowT f a b).length = b := by simp [rowT]
theorem tabT_length (n : Nat) (f : Nat → Nat → Int) (a : Nat) : (tabT n f a).length = a := by simp [tabT]
theorem tabI_length (n : Nat) (f : Nat → Nat → Int) : (tabI n f).length = n := by simp [tabI]
theorem wrap_small {x : Int} (h0 : 0 ≤ x) (h : x < 1000000) : wrap64 x = x := by unfold wrap64; omega
theorem reads_one {W : World} {p : Addr} {v : Value} {row : List Int} (h : W.cell? p = some v) : ReadsRow (fun x cs => x = row ∧ cs = [v]) 1 W (some p) 1 [row] := by
 refine⟨rfl,by omega,fun _=>⟨p,rfl,fun j q hq=>?_⟩⟩
 have hj:j=0:=by
  rcases j with _|j
  ·rfl
  ·simp at hq
 subst hj
 have hq':row=q:=by simpa using hq
 refine⟨[v],rfl,⟨hq'.symm,rfl⟩,fun i u hu=>?_⟩
 rcases i with _|i
 ·have:v=u:=by simpa using hu
  subst this
  simpa [Addr.add] using h
 ·simp at hu
theorem grown_cell {W w1 : World} {row : Option Nat} (hg : W.grownBy w1 row) {p : Addr} {v : Value} (h : W.cell? p = some v) (hne : some p.block ≠ row) : w1.cell? p = some v := by
 have:=hg.block p.block (World.block_lt_of_cell? W p h) hne
 unfold World.cell? at*
 rw [this];exact h
theorem infoInt : (Try.prog.info? 3).map (fun i => (i.zero, i.size, i.bytes)) = some (some (.int .i64 0), 1, 8) := by kernel_rfl
theorem infoRow : (Try.prog.info? 24).map (fun i => (i.zero, i.size, i.bytes)) = some (some (.slice none 0 0), 1, 24) := by kernel_rfl
def AlgAt (W : World) (g : Nat) (U A O : List (List Int)) (N : List Int) (no yes : Int) : Prop :=
 ∃A0 c0 A1 c1 A2 c2 A3 c3,W.heap[g]? =some (.cells #[.slice A0 U.length c0,.slice A1 A.length c1,.slice A2 O.length c2,.slice A3 N.length c3,.int .i64 no,.int .i64 yes] 74 (0,0))∧
  (U.length≤c0∧A.length≤c1∧O.length≤c2∧N.length≤c3)∧Kd.C (Kd.slice 3 (Kd.int .i64)) W A0 U.length U∧Kd.C (Kd.slice 3 (Kd.int .i64)) W A1 A.length A∧Kd.C (Kd.slice 3 (Kd.int .i64)) W A2 O.length O∧Kd.C (Kd.int .i64) W A3 N.length N
def AlgOf (W : World) (g : Nat) (U : List (List Int)) (N : List Int) : Prop :=
 AlgAt W g U (tabI U.length (mI U)) (tabI U.length (jI U)) N (optI (leastO U)) (at1 N (optI (leastO U)).toNat)
theorem AlgAt.below {W W1 : World} {g : Nat} {U A O : List (List Int)} {N : List Int} {no yes : Int} (h : AlgAt W g U A O N no yes) (hb : Below W.heap.size W W1) : AlgAt W1 g U A O N no yes := by
 obtain⟨A0,c0,A1,c1,A2,c2,A3,c3,h1,hc,k0,k1,k2,k3⟩:=h
 exact⟨A0,c0,A1,c1,A2,c2,A3,c3,blk_below h1 hb,hc,Kd.C_below k0 hb,Kd.C_below k1 hb,Kd.C_below k2 hb,Kd.C_below k3 hb⟩
theorem ints_cell {W : World} {A : Option Addr} {n : Nat} {xs : List Int} (h : Kd.C (Kd.int .i64) W A n xs) (i : Int) (h0 : 0 ≤ i) (h1 : i < n) : ∃ ad, A = some ad ∧ W.cell? (ad.add i.toNat) = some (.int .i64 (at1 xs i.toNat)) := Kd.at_int h i h0 h1
theorem rows_cell {W : World} {A : Option Addr} {n : Nat} {xs : List (List Int)} (h : Kd.C (Kd.slice 3 (Kd.int .i64)) W A n xs) (i : Int) (h0 : 0 ≤ i) (h1 : i < n) :
 ∃ad Ar cr,A=some ad∧W.cell? (ad.add i.toNat)=some (.slice Ar (xs.getD i.toNat []).length cr)∧(xs.getD i.toNat []).length≤cr∧Kd.C (Kd.int .i64) W Ar (xs.getD i.toNat []).length (xs.getD i.toNat []):=by
 obtain⟨ad,c,e,_,hK,hc0⟩:=Kd.C_get h ([]:List Int) i h0 h1
 have hc: ∀j u,c[j]? =some u→W.cell? (ad.add (i.toNat*1+j))=some u:=hc0
 obtain⟨Ar,cr,rfl,l0,g0⟩:=hK
 exact⟨ad,Ar,cr,e,by have hq:=hc 0 _ rfl;rwa [Nat.mul_one,Nat.add_zero] at hq,l0,g0⟩
theorem mat_cell {W : World} {A : Option Addr} {n : Nat} {xs : List (List Int)} (h : Kd.C (Kd.slice 3 (Kd.int .i64)) W A n xs) (hr : ∀ a, a < n → (xs.getD a []).length = n) (a b : Int) (ha : 0 ≤ a) (ha' : a < n) (hb : 0 ≤ b) (hb' : b < n) :
 ∃ad ad' cr,A=some ad∧W.cell? (ad.add a.toNat)=some (.slice (some ad') n cr)∧W.cell? (ad'.add b.toNat)=some (.int .i64 (at2 xs a.toNat b.toNat))∧n≤cr:=by
 obtain⟨ad,Ar,cr,e,hc,hl,hk⟩:=rows_cell h a ha ha'
 have hn:=hr a.toNat (by omega)
 rw [hn] at hc hl hk
 obtain⟨ad',e',hc'⟩:=ints_cell hk b hb hb'
 subst e'
 exact⟨ad,ad',cr,e,hc,hc',hl⟩
theorem tabI_row (n : Nat) (f : Nat → Nat → Int) : ∀ a, a < n → ((tabI n f).getD a []).length = n := by
 intro a ha
 simp [tabI, List.getD_eq_getElem?_getD, ha]
theorem tabI_at (n : Nat) (f : Nat → Nat → Int) (a b : Nat) (ha : a < n) (hb : b < n) : at2 (tabI n f) a b = f a b := by
 simp [at2, tabI, List.getD_eq_getElem?_getD, ha, hb]
theorem tab_cell {W : World} {A : Option Addr} {n m : Nat} {f : Nat → Nat → Int} (h : Kd.C (Kd.slice 3 (Kd.int .i64)) W A m (tabI n f)) (a b : Int) (ha : 0 ≤ a) (ha' : a < n) (hb : 0 ≤ b) (hb' : b < n) :
 ∃ad ad' cr,A=some ad∧W.cell? (ad.add a.toNat)=some (.slice (some ad') n cr)∧W.cell? (ad'.add b.toNat)=some (.int .i64 (f a.toNat b.toNat))∧n≤cr:=by
 have hm:(tabI n f).length=m:=Kd.C_len h
 rw [tabI_length] at hm
 subst hm
 obtain⟨ad,ad',cr,h1,h2,h3,h4⟩:=mat_cell h (tabI_row n f) a b ha ha' hb hb'
 rw [tabI_at n f _ _ (by omega) (by omega)] at h3
 exact⟨ad,ad',cr,h1,h2,h3,h4⟩
theorem cell_up {w W : World} {B : Nat} {a : Addr} {v : Value} (h : w.cell? a = some v) (hb : Below B w W) (hB : B = w.heap.size) : W.cell? a = some v := by
 subst hB
 exact(hb.cell (World.block_lt_of_cell? w a h)).trans h
def ToldPost (U : List (List Int)) (N : List Int) (w : World) (e : Ending) (w' : World) : Prop :=
 Below w.heap.size w w'∧((logicB U N=true∧ ∃g,e= .returned (.pointer (some ⟨g,0,none⟩))∧w.heap.size≤g∧AlgOf w' g U N)∨(logicB U N=false∧e= .returned (.pointer none)))
end Go.Proofs.Ytcbjpdaogicibaa.Print
end
section
namespace Go.Proofs.Ytcbjpdaogicibaa.Print
open Go.RowKit Go.Proofs.YtcbjpdaogicibaaW.PrintWords Go.Proofs.YtcbjpdaogicibaaW.PrintLast Go.Proofs.YtcbjpdaogicibaaW.PrintMore
section
attribute [local go_sem] max2_int min2_int max_two min_two max_three min_three max_four min_four
mutual
def impl_LeastOf.l0 : Nat → List (List Int) → Int → Int → Option (Int × Bool)
 | 0, _, _, _ => none
 | k + 1, x12, x13, x14 => if x14 < x13 then (if 0 ≤ x14 then (if x14 < (x12.length : Int) then (impl_LeastOf.l1 k x14 true x12 x13 x14 (rd_L2 x12 x14) ((rd_L2 x12 x14).length : Int) 0) else (none)) else (none)) else (some ((-1), false))
def impl_LeastOf.l1 : Nat → Int → Bool → List (List Int) → Int → Int → List Int → Int → Int → Option (Int × Bool)
 | 0, _, _, _, _, _, _, _, _ => none
 | k + 1, x4, x6, x12, x13, x14, x19, x20, x21 => if x21 < x20 then (if 0 ≤ x21 then (if x21 < (x19.length : Int) then (if x6 = true then (impl_LeastOf.l1 k x4 ((rd x19 x21) == 1) x12 x13 x14 x19 x20 (wrap64 (x21 + 1))) else (impl_LeastOf.l1 k x4 false x12 x13 x14 x19 x20 (wrap64 (x21 + 1)))) else (none)) else (none)) else (if x6 = true then (some (x4, true)) else (impl_LeastOf.l0 k x12 x13 (wrap64 (x14 + 1))))
end
def impl_LeastOf.f (k : Nat) (l0 : List (List Int)) : Option (Int × Bool) := (impl_OrderOk.f k l0).bind fun t409 => (if t409 = true then (impl_LeastOf.l0 k l0 (l0.length : Int) 0) else (some ((-1), false)))
set_option maxHeartbeats 8000000 in
set_option maxRecDepth 100000 in
theorem impl_LeastOf.calls (k : Nat) (A0 : Option Addr) (c0 : Nat) (l0 : List (List Int)) (r1 : Int) (r2 : Bool) (w : World) (hr0 : Kd.C (Kd.slice 3 (Kd.int .i64)) w A0 l0.length l0) (hc0 : l0.length ≤ c0) (h : impl_LeastOf.f k l0 = some (r1, r2)) :
  Calls Try.prog 85 #[.slice A0 l0.length c0] w fun e w' => e = .returned (.tuple #[.int .i64 r1, .bool r2]) ∧ Drawn0 w w' := by
 have b7:=zqm hr0;have c1:=zqm hc0;clear hr0 hc0;have H:((impl_OrderOk.f k l0).bind fun b0=>(if b0=true then(impl_LeastOf.l0 k l0 (l0.length:Int) 0) else(some ((-1),false))))=some (r1,r2):=h;clear h;replace H:=Option.bind_eq_some_iff.mp H;obtain⟨b0,b9,H⟩:=H;replace H:(if b0=true then(impl_LeastOf.l0 k l0 (l0.length:Int) 0) else(some ((-1),false)))=some (r1,r2):=H;have A2:=zqm b9;clear b9
 by_cases c3:b0=true
 ·subst c3;(have H1:(impl_LeastOf.l0 k l0 (l0.length:Int) 0)=some (r1,r2):=by rw [if_pos rfl] at H;exact H);clear H;have H:=H1;clear H1;have H':=zqm H;clear H
  go_enter Try.func85,Try.ntmps85
  go_wp2_with (first|((with_reducible refine gate_callee (f:=81) rfl ?_);refine goesL_ (some 10) rfl rfl Try.func81 zqk rfl #[.slice A0 l0.length c0] rfl zq1 ?_;(with_reducible refine(impl_OrderOk.calls k _ _ l0 true _ ?side1 ?side2 A2.out).mono ?_);(case side1=> exact zq180);(case side2=>exact c1.out);rintro e w' ⟨rfl,⟨nd,rfl⟩⟩;refine⟨_,rfl,?_⟩))
  go_loopg [14] k (fun kq d6 w'=> ∃(a0:Int),d6= .int .i64 a0∧Aside0 (impl_LeastOf.l0 kq l0 (l0.length:Int) a0=some (r1,r2))∧Aside0 (kq≤k)∧Drawn0 w w')
  case atStart=>exact⟨(0),zq7,H',⟨Nat.le_refl _⟩,zq12⟩
  case round=>
   clear H';obtain⟨a0,rfl,HA,a5,⟨m1,rfl⟩⟩:=hrel
   cases gk with
   |zero=>exact absurd HA.out (by simp [impl_LeastOf.l0])
   |succ k1=>
    have H:=HA.out;clear HA;simp only [impl_LeastOf.l0] at H
    by_cases c4:a0<(l0.length:Int)
    ·rw [if_pos c4] at H;have c2:decide (a0<(l0.length:Int))=true:=decide_eq_true c4;clear c4
     by_cases c5:0≤a0
     ·rw [if_pos c5] at H;have d9:decide (0≤a0)=true:=decide_eq_true c5;clear c5
      by_cases c6:a0<(l0.length:Int)
      ·rw [if_pos c6] at H;have e0:decide (a0<(l0.length:Int))=true:=decide_eq_true c6;clear c6;have H':=zqm H;clear H;have b2:0≤(a0:Int):=zqo;have b3:a0<(l0.length:Int):=zqo;obtain⟨d8,d4,d5,d1,d3,a9,a8⟩:=at_L2 b7.out a0 b2 b3
       cases d1
       have a7:=zqm a8;have d2:=zqm a9;clear a8 a9;replace b2:=eq_true b2;replace b3:=eq_true b3
       go_wp2
       go_loopg [6,21] k1 (fun kq v6 d7 w'=> ∃(a4:Bool) (a1:Int),v6= .bool a4∧d7= .int .i64 a1∧Aside0 (impl_LeastOf.l1 kq a0 a4 l0 (l0.length:Int) a0 (rd_L2 l0 a0) ((rd_L2 l0 a0).length:Int) a1=some (r1,r2))∧Aside0 (kq≤k1)∧Drawn0 w w')
       case atStart=>exact⟨(true),(0),zq7,zq7,H',⟨Nat.le_refl _⟩,zq12⟩
       case round=>
        clear H';obtain⟨a4,a1,rfl,rfl,HA,a6,⟨m2,rfl⟩⟩:=hrel
        cases gk with
        |zero=>exact absurd HA.out (by simp [impl_LeastOf.l1])
        |succ k2=>
         have H:=HA.out;clear HA;simp only [impl_LeastOf.l1] at H
         by_cases c7:a1<((rd_L2 l0 a0).length:Int)
         ·rw [if_pos c7] at H;have d0:decide (a1<((rd_L2 l0 a0).length:Int))=true:=decide_eq_true c7;clear c7
          by_cases c8:0≤a1
          ·rw [if_pos c8] at H;have e1:decide (0≤a1)=true:=decide_eq_true c8;clear c8
           by_cases c9:a1<((rd_L2 l0 a0).length:Int)
           ·rw [if_pos c9] at H;have e2:decide (a1<((rd_L2 l0 a0).length:Int))=true:=decide_eq_true c9;clear c9
            by_cases b4:a4=true
            ·subst b4;(have H1:(impl_LeastOf.l1 k2 a0 ((rd (rd_L2 l0 a0) a1)==1) l0 (l0.length:Int) a0 (rd_L2 l0 a0) ((rd_L2 l0 a0).length:Int) (wrap64 (a1+1)))=some (r1,r2):=by rw [if_pos rfl] at H;exact H);clear H;have H:=H1;clear H1;have H':=zqm H;clear H;have a2:0≤(a1:Int):=zqo;have a3:a1<((rd_L2 l0 a0).length:Int):=zqo;obtain⟨b8,b1,b6⟩:=Kd.at_int a7.out a1 a2 a3
             cases b1
             replace a2:=eq_true a2;replace a3:=eq_true a3
             go_wp2
             go_roundg k2
             (case measure=> exact zq204);case rel=>exact⟨(((rd (rd_L2 l0 a0) a1)==1)),(wrap64 (a1+1)),zq7,zq7,H',⟨zq204⟩,zq12⟩
            ·replace b4:=Bool.eq_false_iff.mpr b4;subst b4;(have H1:(impl_LeastOf.l1 k2 a0 false l0 (l0.length:Int) a0 (rd_L2 l0 a0) ((rd_L2 l0 a0).length:Int) (wrap64 (a1+1)))=some (r1,r2):=by rw [if_neg (show¬(false=true) by decide)] at H;exact H);clear H;have H:=H1;clear H1;have H':=zqm H;clear H;have a2:0≤(a1:Int):=zqo;have a3:a1<((rd_L2 l0 a0).length:Int):=zqo;obtain⟨b8,b1,b6⟩:=Kd.at_int a7.out a1 a2 a3
             cases b1
             replace a2:=eq_true a2;replace a3:=eq_true a3
             go_wp2
             go_roundg k2
             (case measure=> exact zq204);case rel=>exact⟨(false),(wrap64 (a1+1)),zq7,zq7,H',⟨zq204⟩,zq12⟩
           ·rw [if_neg c9] at H;exact absurd H (by simp)
          ·rw [if_neg c8] at H;exact absurd H (by simp)
         ·rw [if_neg c7] at H;have d0:decide (a1<((rd_L2 l0 a0).length:Int))=false:=decide_eq_false c7;clear c7
          by_cases b5:a4=true
          ·subst b5;(have H1:(some (a0,true))=some (r1,r2):=by rw [if_pos rfl] at H;exact H);clear H;have H:=H1;clear H1;simp only [Option.some.injEq,Prod.mk.injEq] at H;obtain⟨rfl,rfl⟩:=H
           go_wp2
           go_ret2
           exact⟨zq7,zq12⟩
          ·replace b5:=Bool.eq_false_iff.mpr b5;subst b5;(have H1:(impl_LeastOf.l0 k2 l0 (l0.length:Int) (wrap64 (a0+1)))=some (r1,r2):=by rw [if_neg (show¬(false=true) by decide)] at H;exact H);clear H;have H:=H1;clear H1;have H':=zqm H;clear H
           go_wp2
           go_roundg k2
           (case measure=> exact zq204);case rel=>exact⟨(wrap64 (a0+1)),zq7,H',⟨zq204⟩,zq12⟩
      ·rw [if_neg c6] at H;exact absurd H (by simp)
     ·rw [if_neg c5] at H;exact absurd H (by simp)
    ·rw [if_neg c4] at H;have c2:decide (a0<(l0.length:Int))=false:=decide_eq_false c4;clear c4;simp only [Option.some.injEq,Prod.mk.injEq] at H;obtain⟨rfl,rfl⟩:=H
     go_wp2
     go_ret2
     exact⟨zq7,zq12⟩
 ·replace c3:=Bool.eq_false_iff.mpr c3;subst c3;(have H1:(some ((-1),false))=some (r1,r2):=by rw [if_neg (show¬(false=true) by decide)] at H;exact H);clear H;have H:=H1;clear H1;simp only [Option.some.injEq,Prod.mk.injEq] at H;obtain⟨rfl,rfl⟩:=H
  go_enter Try.func85,Try.ntmps85
  go_wp2_with (first|((with_reducible refine gate_callee (f:=81) rfl ?_);refine goesL_ (some 10) rfl rfl Try.func81 zqk rfl #[.slice A0 l0.length c0] rfl zq1 ?_;(with_reducible refine(impl_OrderOk.calls k _ _ l0 false _ ?side1 ?side2 A2.out).mono ?_);(case side1=> exact zq180);(case side2=>exact c1.out);rintro e w' ⟨rfl,⟨nd,rfl⟩⟩;refine⟨_,rfl,?_⟩))
  go_ret2
  exact⟨zq7,zq12⟩
end
section
attribute [local go_sem] max2_int min2_int max_two min_two max_three min_three max_four min_four
mutual
def impl_turned.l0 : Nat → List (List Int) → List (List Int) → Int → Int → Option ((List (List Int)))
 | 0, _, _, _, _ => none
 | k + 1, x0, x3, x10, x11 => if x11 < x10 then (if 0 ≤ (x0.length : Int) then (if ((x0.length : Int) : Int).toNat ≤ 35184372088832 then (if 0 ≤ x11 then (if x11 < (x3.length : Int) then (impl_turned.l1 k x0 (x3.set (x11 : Int).toNat (List.replicate ((x0.length : Int) : Int).toNat 0)) x11 x10 x11 (x0.length : Int) 0) else (none)) else (none)) else (none)) else (none)) else (some x3)
def impl_turned.l1 : Nat → List (List Int) → List (List Int) → Int → Int → Int → Int → Int → Option ((List (List Int)))
 | 0, _, _, _, _, _, _, _ => none
 | k + 1, x0, x3, x4, x10, x11, x21, x22 => if x22 < x21 then (if 0 ≤ x4 then (if x4 < (x3.length : Int) then (if 0 ≤ x22 then (if x22 < (x0.length : Int) then (if x4 < ((rd_L2 x0 x22).length : Int) then (if x22 < ((rd_L2 x3 x4).length : Int) then (impl_turned.l1 k x0 (x3.set (x4 : Int).toNat ((rd_L2 x3 x4).set (x22 : Int).toNat (rd (rd_L2 x0 x22) x4))) x4 x10 x11 x21 (wrap64 (x22 + 1))) else (none)) else (none)) else (none)) else (none)) else (none)) else (none)) else (impl_turned.l0 k x0 x3 x10 (wrap64 (x11 + 1)))
end
def impl_turned.f (k : Nat) (l0 : List (List Int)) : Option ((List (List Int))) := if 0 ≤ (l0.length : Int) then (if ((l0.length : Int) : Int).toNat ≤ 11728124029610 then (impl_turned.l0 k l0 (List.replicate ((l0.length : Int) : Int).toNat []) (l0.length : Int) 0) else (none)) else (none)
def impl_turned.T9 : Bool × List (List Nat × List Nat) := (true, [([], []), ([], []), ([0, 1], [0, 1]), ([2], [2]), ([], []), ([], []), ([], []), ([5, 6], [5, 6]), ([7], [7]), ([], []), ([8, 9], [8, 9]), ([10], [10]), ([3, 4, 0, 1, 2, 3, 4, 5, 6, 7, 8, 9, 10, 11], [3, 4]), ([12, 11, 0, 1, 2, 3, 4, 5, 6, 7, 8, 9, 10, 11], [11, 12])])
def impl_turned.B9 : List Nat := [0, 0, 3, 7, 0, 0, 0, 96, 224, 0, 992, 2016, 4095, 8191]
theorem impl_turned.tab9 : rtab .any (opsOf Try.f133 9) = impl_turned.T9 := by kernel_rfl
theorem impl_turned.bits9 : waitsOk impl_turned.T9.2 impl_turned.B9 = true := by kernel_rfl
set_option maxHeartbeats 8000000 in
set_option maxRecDepth 100000 in
theorem impl_turned.calls (k : Nat) (A0 : Option Addr) (c0 : Nat) (l0 : List (List Int)) (r : List (List Int)) (w : World) (hr0 : Kd.C (Kd.slice 3 (Kd.int .i64)) w A0 l0.length l0) (hc0 : l0.length ≤ c0) (h : impl_turned.f k l0 = some r) :
  Calls Try.prog 133 #[.slice A0 l0.length c0] w fun e w' => ∃ v0_ : Value, e = .returned (v0_) ∧ Kd.S (Kd.slice 3 (Kd.int .i64)) 24 w' w.heap.size (fun _ => True) v0_ r ∧ Below w.heap.size w w' := by
 have l2:=zqm hr0;have o3:=zqm hc0;clear hr0 hc0;have HB:=zqm (Below.refl w.heap.size w);have H:(if 0≤(l0.length:Int) then(if((l0.length:Int):Int).toNat≤11728124029610 then(impl_turned.l0 k l0 (List.replicate ((l0.length:Int):Int).toNat []) (l0.length:Int) 0) else(none)) else(none))=some r:=h;clear h
 by_cases c2:0≤(l0.length:Int)
 ·rw [if_pos c2] at H;have m8:=eq_true c2;have m9:decide (0≤(l0.length:Int))=true:=decide_eq_true c2;clear c2
  by_cases c3:((l0.length:Int):Int).toNat≤11728124029610
  ·rw [if_pos c3] at H;have n0:=eq_true c3;have n1:decide (((l0.length:Int):Int).toNat≤11728124029610)=true:=decide_eq_true c3;clear c3;obtain⟨i6,d0⟩: ∃y_:List (List Int),y_=(List.replicate ((l0.length:Int):Int).toNat []):=⟨_,rfl⟩;replace H:(impl_turned.l0 k l0 i6 (l0.length:Int) 0)=some r:=zqy d0 H;have f0:=zqm d0;clear d0;have H':=zqm H;clear H
   go_enter Try.func133,Try.ntmps133
   go_wp2_with (first|((with_reducible refine gate_dst (N:=8) rfl ?_);refine Kd.S_make (Kd.slice 3 (Kd.int .i64)) _ 24 rfl (N:=8) rfl 23 _ _ rfl (l0.length:Int) rfl rfl Try.underlying23 (.slice none 0 0) 24 info24 rfl (by decide) (by omega) [] (ok:=fun _=>True) (okp:=fun _=>True) ⟨_,rfl,Kd.R_nil _ _ _ _ _⟩ (fun _ hk=>hk) trivial (zqo) (Nat.le_trans (Nat.mul_le_mul_right _ (zqo:(l0.length:Int).toNat≤11728124029610)) (by omega)) (Below.refl _ _) (Nat.le_refl _) ?_;intro k4 w4 d8 hb hg_ hnew_;clear hg_ hnew_;(first|rw [← f0.out] at d8|(simp only [Int.reduceToNat] at d8;rw [← f0.out] at d8));have i8:=zqm (Kd.S_lower d8 (below_size zq0));replace HB:=zqm (below_step zq0 hb);clear hb d8))
   go_loopg [11] k (fun kq l5 w'=> ∃(a3:List (List Int)) (a0:Int),l5= .int .i64 a0∧Aside0 (impl_turned.l0 kq l0 a3 (l0.length:Int) a0=some r)∧Aside0 (kq≤k)∧Aside0 (Kd.S (Kd.slice 3 (Kd.int .i64)) 24 w' w.heap.size (fun _=>True) k4 a3)∧Aside0 (Below w.heap.size w w'))
   case atStart=>exact⟨(i6),(0),zq7,H',⟨Nat.le_refl _⟩,⟨zqfS i8.out⟩,⟨zq0⟩⟩
   case round=>
    clear H';obtain⟨a3,a0,rfl,HA,e8,HO_3,HB⟩:=hrel
    cases gk with
    |zero=>exact absurd HA.out (by simp [impl_turned.l0])
    |succ k1=>
     have H:=HA.out;clear HA;simp only [impl_turned.l0] at H
     by_cases c6:a0<(l0.length:Int)
     ·rw [if_pos c6] at H;have j5:decide (a0<(l0.length:Int))=true:=decide_eq_true c6;clear c6
      by_cases c7:0≤(l0.length:Int)
      ·rw [if_pos c7] at H;have n2:=eq_true c7;have n3:decide (0≤(l0.length:Int))=true:=decide_eq_true c7;clear c7
       by_cases c8:((l0.length:Int):Int).toNat≤35184372088832
       ·rw [if_pos c8] at H;have n4:=eq_true c8;have n5:decide (((l0.length:Int):Int).toNat≤35184372088832)=true:=decide_eq_true c8;clear c8;obtain⟨e5,d1⟩: ∃y_:List Int,y_=(List.replicate ((l0.length:Int):Int).toNat 0):=⟨_,rfl⟩;replace H:(if 0≤a0 then(if a0<(a3.length:Int) then(impl_turned.l1 k1 l0 (a3.set (a0:Int).toNat e5) a0 (l0.length:Int) a0 (l0.length:Int) 0) else(none)) else(none))=some r:=zqy d1 H;have f1:=zqm d1;clear d1
        by_cases c9:0≤a0
        ·rw [if_pos c9] at H;have n6:decide (0≤a0)=true:=decide_eq_true c9;clear c9
         by_cases f3:a0<(a3.length:Int)
         ·rw [if_pos f3] at H;have m0:decide (a0<(a3.length:Int))=true:=decide_eq_true f3;clear f3;obtain⟨e6,d2⟩: ∃y_:List (List Int),y_=(a3.set (a0:Int).toNat e5):=⟨_,rfl⟩;replace H:(impl_turned.l1 k1 l0 e6 a0 (l0.length:Int) a0 (l0.length:Int) 0)=some r:=zqy d2 H;have i9:=zqm d2;clear d2;have H':=zqm H;clear H
          go_wp2_with (first|((with_reducible refine gate_dst (N:=18) rfl ?_);refine Kd.R_make (Kd.int .i64) _ 3 rfl (N:=18) rfl 24 _ _ rfl (l0.length:Int) rfl rfl Try.underlying24 (.int .i64 0) 8 info3 rfl (by decide) (by omega) 0 (ok:=fun _=>True) (okp:=fun _=>True) rfl (fun _ hk=>hk) trivial (zqo) (Nat.le_trans (Nat.mul_le_mul_right _ (zqo:(l0.length:Int).toNat≤35184372088832)) (by omega)) (Below.refl _ _) (Nat.le_refl _) ?_;intro b4 i4 b3 hb hg_ hnew_;clear hg_ hnew_;(first|rw [← f1.out] at b3|(simp only [Int.reduceToNat] at b3;rw [← f1.out] at b3));replace HO_3:=zqm (Kd.S_elder' (zqfS HO_3.out) (Kd.R_base b3) hb);have c4:=zqm (Kd.R_lower b3 (below_size zq0));replace HB:=zqm (below_step zq0 hb);clear hb b3;have i0:0≤(a0:Int):=zqo;have i2:(a0:Int)<((a3.length:Int):Int):=zqo;obtain⟨a8,e0,g8,h0,j9,o0,g4⟩:=Kd.S_form HO_3.out (by omega);(first|cases g8|(injection g8 with ea_ en_ ec_;(first|subst ea_|(injection ea_ with ea_;subst ea_));subst ec_;clear en_));have GB11:=zqm h0;have GG11:=zqm g4;clear h0 j9 g4;obtain⟨_,n7,hcl11,hM11,g0,hfr11,_,_⟩:=Kd.S_elem HO_3.out [] (a0:Int) i0 i2;obtain⟨l7,rfl,l3⟩:=hM11;have h7:=g0 0 _ rfl;have h4:=hfr11 0;(try simp only [show ((Kd.slice 3 (Kd.int .i64))).sz=1 from rfl,Nat.mul_one,Nat.add_zero] at h7);(try simp only [show ((Kd.slice 3 (Kd.int .i64))).sz=1 from rfl,Nat.mul_one,Nat.add_zero] at h4);clear hcl11 g0 hfr11;replace i0:=eq_true i0;replace i2:=eq_true i2;have n_:=zqm (Kd.S_mono (ok':=(fun k_=>some k_≠(b4:Value).ownBlock)) HO_3.out (fun k_ hk=>hk.2));clear HO_3;have HO_3:=n_;clear n_;have HX14:=zqm (show Kd.S (Kd.slice 3 (Kd.int .i64)) 24 i4 w.heap.size (fun k_=>((fun _=>True)) k_∧ ¬((fun k_=>some k_=(b4:Value).ownBlock)) k_) (.slice (some ⟨a8,0,none⟩) a3.length e0) a3 from zq228);obtain⟨oki14,n8,hcl14,hM14,g1,hfr14,hoki14,hH14⟩:=Kd.S_elem HX14.out [] (a0:Int) (zqo) (by have h_:(a0:Int)<((a3.length:Int):Int):=zqo;first|exact h_|(have e_:=(Kd.S_reads' HO_3.out).1;omega)|simpa using h_);obtain⟨l8,rfl,l4⟩:=hM14;have HP14:=Kd.S_seg hH14 (zqo) (by have h_:(a0:Int)<((a3.length:Int):Int):=zqo;first|exact h_|(have e_:=(Kd.S_reads' HO_3.out).1;omega)|simpa using h_) (seg:= [b4]) (j:=0) (show 1≤1 from by decide) (x':=e5) (Kd.M_row (Kd.R_mono (Kd.R_tight rfl (Kd.R_mono (ok':=fun k_=>((fun _=>True)) k_∧k_≠a8) (Kd.R_apart' (c4.out) (Kd.S_typed HO_3.out) (by decide)) (fun k_ hk=>⟨trivial,fun e_=>(hk.2) (by rw [e_];rfl)⟩))) (fun _ h_=>Or.inr (h_)))) (fun _ hk=>hk) (fun k_ hk_=>((Kd.R_mono (ok':=fun k_=>((fun _=>True)) k_∧k_≠a8) (Kd.R_apart' (c4.out) (Kd.S_typed HO_3.out) (by decide)) (fun k_ hk=>⟨trivial,fun e_=>(hk.2) (by rw [e_];rfl)⟩))).1 k_ hk_.symm);have h8:=g1 0 _ rfl;(try simp only [show ((Kd.slice 3 (Kd.int .i64))).sz=1 from rfl,Nat.mul_one,Nat.add_zero] at h8);have h5:=hfr14 0;(try simp only [show ((Kd.slice 3 (Kd.int .i64))).sz=1 from rfl,Nat.mul_one,Nat.add_zero] at h5);clear hcl14 g1 hfr14 hoki14 hH14;(try simp only [show ((Kd.slice 3 (Kd.int .i64))).sz=1 from rfl,Nat.mul_one,Nat.add_zero] at HP14))|((with_reducible refine gate_store (t:=24) (p:=19) rfl ?_);refine store_event (t:=24) (p:=19) (v:=?vo_w15) (w1:=(i4.setCell ⟨a8,(a0:Int).toNat,none⟩ (b4))) ?hg ?ho ?hn ?hr ?_;(case ho=>rfl);(case hg=>rfl);(case hn=>rfl);(case hr=>first|(go_simp;done)|(go_simp;rfl)|(obtain⟨a_,c_,e_⟩:=Kd.R_slice (Aside0.out ‹Aside0 (Kd.R _ _ _ _ _ b4 _)›);rw [e_];first|(go_simp;done)|(go_simp;rfl)));intro i5 hw;have hg:i4.grownBy i5 (some a8):=(by rw [hw];exact HP14.2);have hp_:Kd.S (Kd.slice 3 (Kd.int .i64)) 24 i5 w.heap.size (fun _=>True) (.slice (some ⟨a8,0,none⟩) a3.length e0) e6:=(by rw [hw,i9.out];exact HP14.1);clear HP14;replace HO_3:=zqm (hp_);replace HB:=zqm ((by rw [hw];exact below_set (HB.out) GB11.out:Below w.heap.size w i5));clear c4;clear hg hw hp_))
          go_loopg [22] k1 (fun kq l6 w'=> ∃(a2:List (List Int)) (a1:Int),l6= .int .i64 a1∧Aside0 (impl_turned.l1 kq l0 a2 a0 (l0.length:Int) a0 (l0.length:Int) a1=some r)∧Aside0 (kq≤k1)∧Aside0 (Kd.S (Kd.slice 3 (Kd.int .i64)) 24 w' w.heap.size (fun _=>True) (.slice (some ⟨a8,0,none⟩) a3.length e0) a2)∧Aside0 (Below w.heap.size w w'))
          case atStart=>exact⟨(e6),(0),zq7,H',⟨Nat.le_refl _⟩,⟨zqfS HO_3.out⟩,⟨zq0⟩⟩
          case round=>
           clear H';obtain⟨a2,a1,rfl,HA,e9,HO_3,HB⟩:=hrel;have a9:=(Kd.S_reads' HO_3.out).1;rw [a9] at HO_3;(try simp only [a9])
           cases gk with
           |zero=>exact absurd HA.out (by simp [impl_turned.l1])
           |succ k2=>
            have H:=HA.out;clear HA;simp only [impl_turned.l1] at H
            by_cases b6:a1<(l0.length:Int)
            ·rw [if_pos b6] at H;have j4:decide (a1<(l0.length:Int))=true:=decide_eq_true b6;clear b6
             by_cases f4:0≤a0
             ·rw [if_pos f4] at H;have m1:decide (0≤a0)=true:=decide_eq_true f4;clear f4
              by_cases f5:a0<(a2.length:Int)
              ·rw [if_pos f5] at H;have m2:decide (a0<(a2.length:Int))=true:=decide_eq_true f5;clear f5
               by_cases f6:0≤a1
               ·rw [if_pos f6] at H;have m3:decide (0≤a1)=true:=decide_eq_true f6;clear f6
                by_cases f7:a1<(l0.length:Int)
                ·rw [if_pos f7] at H;have m4:decide (a1<(l0.length:Int))=true:=decide_eq_true f7;clear f7
                 by_cases f8:a0<((rd_L2 l0 a1).length:Int)
                 ·rw [if_pos f8] at H;have m5:decide (a0<((rd_L2 l0 a1).length:Int))=true:=decide_eq_true f8;clear f8
                  by_cases f9:a1<((rd_L2 a2 a0).length:Int)
                  ·rw [if_pos f9] at H;have m6:decide (a1<((rd_L2 a2 a0).length:Int))=true:=decide_eq_true f9;clear f9;obtain⟨e7,d3⟩: ∃y_:List Int,y_=((rd_L2 a2 a0).set (a1:Int).toNat (rd (rd_L2 l0 a1) a0)):=⟨_,rfl⟩;replace H:(impl_turned.l1 k2 l0 (a2.set (a0:Int).toNat e7) a0 (l0.length:Int) a0 (l0.length:Int) (wrap64 (a1+1)))=some r:=zqy d3 H;have j0:=zqm d3;clear d3;obtain⟨i7,d4⟩: ∃y_:List (List Int),y_=(a2.set (a0:Int).toNat e7):=⟨_,rfl⟩;replace H:(impl_turned.l1 k2 l0 i7 a0 (l0.length:Int) a0 (l0.length:Int) (wrap64 (a1+1)))=some r:=zqy d4 H;have j1:=zqm d4;clear d4;have H':=zqm H;clear H;(try go_wp2);replace HO_3:=zqm (Kd.S_drew HO_3.out);replace HB:=zqm (below_drew1 HB.out);have d5:0≤(a0:Int):=zqo;have d6:a0<(a2.length:Int):=zqo;obtain⟨j2,k8,g6,j6,a4,b9,b7⟩:=at_L2 (Kd.S_reads' HO_3.out).2.2 a0 d5 d6;obtain rfl:(⟨a8,0,none⟩:Addr)=j2:=(by injection j6);obtain⟨m7,h3,h2,d7⟩:=Kd.S_get HO_3.out [] a0 d5 (by first|exact d6|exact zqo|(have e_:=(Kd.S_reads' HO_3.out).1;omega));obtain⟨k7,rfl,b2⟩:=h2;have a5:=d7 0 _ rfl;rw [Nat.add_zero,show ((Kd.slice 3 (Kd.int .i64))).sz=1 from rfl,Nat.mul_one] at a5;replace a5:=Option.some.inj (a5.symm.trans a4);rw [a5] at b2;have b1:=zqm (show Kd.R (Kd.int .i64) 3 _ _ _ _ (rd_L2 a2 a0) from b2);clear a5 b2;have HX419_0:=zqm a4;clear d7 h3;(first|simp only [add_plain] at a4|simp only [add_at] at a4|simp only [Addr.add,Nat.zero_add] at a4|skip);have g3:=zqm b7;have k5:=zqm b9;clear b7 b9;replace d5:=eq_true d5;replace d6:=eq_true d6;have e1:0≤(a1:Int):=zqo;have e3:a1<(l0.length:Int):=zqo;obtain⟨j3,k9,g7,j7,a6,c1,b8⟩:=at_L2 l2.out a1 e1 e3;have hw420_0:=a6
                   cases j7
                   replace a6:=(HB.out.cell (World.block_lt_of_cell? w _ a6)).trans a6;have b5:=zqm b8;have k6:=zqm c1;clear b8 c1;replace e1:=eq_true e1;replace e3:=eq_true e3;have e2:0≤(a0:Int):=zqo;have e4:a0<((rd_L2 l0 a1).length:Int):=zqo;obtain⟨f2,j8,a7⟩:=Kd.at_int b5.out a0 e2 e4;have hw421_0:=a7
                   cases j8
                   replace a7:=(HB.out.cell (World.block_lt_of_cell? w _ a7)).trans a7;replace e2:=eq_true e2;replace e4:=eq_true e4;have i1:0≤(a1:Int):=zqo;have i3:(a1:Int)<(((rd_L2 a2 a0).length:Int):Int):=zqo;obtain⟨k3,o2,g9,h1,k0,o1,g5⟩:=Kd.R_form b1.out (by omega);(first|cases g9|(injection g9 with ea_ en_ ec_;(first|subst ea_|(injection ea_ with ea_;subst ea_));subst ec_;clear en_));have GB23:=zqm h1;have GG23:=zqm g5;clear h1 k0 g5;obtain⟨h9,h6⟩:=Kd.R_celln 0 b1.out (a1:Int) i1 i3;replace i1:=eq_true i1;replace i3:=eq_true i3;have hq25:(a0:Int)<(a2.length:Int):=(by have h_:(a0:Int)<((a2.length:Int):Int):=zqo;first|exact h_|(have e_:=(Kd.S_reads' HO_3.out).1;omega)|simpa only [List.length_set,List.length_set] using h_);obtain⟨oki25,n9,hcl25,hM25,g2,hok25,hbk25⟩:=Kd.S_borrow HO_3.out [] (a0:Int) (zqo) hq25;obtain⟨l9,rfl,b0⟩:=hM25;have c5:=g2 0 _ rfl;rw [Nat.add_zero,show ((Kd.slice 3 (Kd.int .i64))).sz=1 from rfl,Nat.mul_one] at c5;replace c5:=Option.some.inj (c5.symm.trans HX419_0.out);subst c5;clear g2 hcl25;replace b0:=(show Kd.R (Kd.int .i64) 3 _ _ _ _ (rd_L2 a2 a0) from b0);have HP25:=Kd.R_putg b0 (a1:Int) (rd (rd_L2 l0 a1) a0);rw [← j0.out] at HP25;have d9:=hbk25 HP25.2 (fun k_ e_=>by injection e_ with e_;subst e_;exact b0.1 _ rfl) (x':=e7) (Kd.M_row HP25.1);rw [← j1.out] at d9;have HQ25:=zqm d9;clear HP25 d9 hbk25 hok25;refine start_ (n:=14) (S:=fun w'=>w'.cell? ⟨a8,(a0).toNat,none⟩=some (.slice (some ⟨k3,0,none⟩) (rd_L2 a2 a0).length g6)∧w'.cell? (j3.add (a1).toNat)=some (.slice (some f2) (rd_L2 l0 a1).length g7)∧w'.cell? (f2.add (a0).toNat)=some (.int .i64 (rd (rd_L2 l0 a1) a0))) (ds:= [13]) (zqb 14 0) zqk rfl rfl ⟨a4,((HB.out.cell (World.block_lt_of_cell? w _ hw420_0)).trans hw420_0),((HB.out.cell (World.block_lt_of_cell? w _ hw421_0)).trans hw421_0)⟩ (fun hHeld=>?_);refine with_tabW impl_turned.tab9 impl_turned.bits9 (fun HT_ HW_=>?_);generalize wr.drew=o4 at HO_3 HB GG23 b1 HQ25 g3 b5 HX419_0 h6 h9 a4 a6 a7 hHeld ⊢;refine zqp 0 25 (zqb 14 1) HT_ ?_;refine zqp 1 26 (zqb 14 3) HT_ ?_;refine zqp 2 27 (zqb 14 7) HT_ ?_;refine zqp 4 29 (zqb 14 23) HT_ ?_;refine zqp 5 30 (zqb 14 55) HT_ ?_;refine zqp 6 31 (zqb 14 119) HT_ ?_;refine zqp 7 32 (zqb 14 247) HT_ ?_;refine zqp 9 34 (zqb 14 759) HT_ ?_;refine zqw 3 28 (zqb 14 767) HT_ HW_ hHeld ?_;refine zqw 8 33 (zqb 14 1023) HT_ HW_ hHeld ?_;refine zqp 10 35 (zqb 14 2047) HT_ ?_;refine zqw 11 36 (zqb 14 4095) HT_ HW_ hHeld ?_;refine zqp 12 37 (zqb 14 8191) HT_ ?_;refine last_ (i:=13) (N:=none) (zqb 14 16383) rfl rfl (one_of HT_.out zqk) (by decide) (fun K hK=>?_);refine skip_ (w1:=?_) (by rfl) rfl ?_ ?_;rotate_left
                   ·go_simp;rfl
                   refine hK.out _ _ ?_;clear hK K;refine done_ (done_of HT_.out zqk) ?_;(try go_wp2);(try simp only [← a9])
                   go_roundg k2
                   (case measure=> exact zq208);case rel=>exact⟨(i7),(wrap64 (a1+1)),zq7,H',⟨zq208⟩,⟨by(try simp only [a9]);refine zqfS ?_;exact HQ25.out⟩,⟨by repeat(first|(with_reducible first|exact HB.out|apply below_alloc|apply pw_below_drewN|apply below_drew1|refine below_set ?_ GB23.out)|exact HB.out)⟩⟩
                  ·rw [if_neg f9] at H;exact absurd H (by simp)
                 ·rw [if_neg f8] at H;exact absurd H (by simp)
                ·rw [if_neg f7] at H;exact absurd H (by simp)
               ·rw [if_neg f6] at H;exact absurd H (by simp)
              ·rw [if_neg f5] at H;exact absurd H (by simp)
             ·rw [if_neg f4] at H;exact absurd H (by simp)
            ·rw [if_neg b6] at H;have j4:decide (a1<(l0.length:Int))=false:=decide_eq_false b6;clear b6;have H':=zqm H;clear H
             go_wp2
             (try simp only [← a9])
             go_roundg k2
             (case measure=> exact zq208);case rel=>exact⟨(a2),(wrap64 (a0+1)),zq7,H',⟨zq208⟩,⟨by(try simp only [a9]);refine zqfS ?_;exact HO_3.out⟩,⟨zq0⟩⟩
         ·rw [if_neg f3] at H;exact absurd H (by simp)
        ·rw [if_neg c9] at H;exact absurd H (by simp)
       ·rw [if_neg c8] at H;exact absurd H (by simp)
      ·rw [if_neg c7] at H;exact absurd H (by simp)
     ·rw [if_neg c6] at H;have j5:decide (a0<(l0.length:Int))=false:=decide_eq_false c6;clear c6;obtain rfl:=Option.some.inj H
      go_wp2
      go_ret
      exact⟨_,zq13,zqfS HO_3.out,zq0⟩
  ·rw [if_neg c3] at H;exact absurd H (by simp)
 ·rw [if_neg c2] at H;exact absurd H (by simp)
end
section
attribute [local go_sem] max2_int min2_int max_two min_two max_three min_three max_four min_four
mutual
def impl_meet.l0 : Nat → List (List Int) → Int → Int → Int → Int → Option (Int)
 | 0, _, _, _, _, _ => none
 | k + 1, x0, x1, x2, x11, x12 => if x12 < x11 then (if 0 ≤ x12 then (if x12 < (x0.length : Int) then (if 0 ≤ x1 then (if x1 < ((rd_L2 x0 x12).length : Int) then (if (rd (rd_L2 x0 x12) x1) = 0 then (impl_meet.j1 k x0 x1 x2 x12 x11 x12 true) else (if 0 ≤ x2 then (if x2 < ((rd_L2 x0 x12).length : Int) then (impl_meet.j1 k x0 x1 x2 x12 x11 x12 ((rd (rd_L2 x0 x12) x2) == 0)) else (none)) else (none))) else (none)) else (none)) else (none)) else (none)) else (some (-1))
def impl_meet.j1 : Nat → List (List Int) → Int → Int → Int → Int → Int → Bool → Option (Int)
 | 0, _, _, _, _, _, _, _ => none
 | k + 1, x0, x1, x2, x7, x11, x12, x32 => if x32 = true then (impl_meet.l0 k x0 x1 x2 x11 (wrap64 (x12 + 1))) else (impl_meet.l1 k x0 x1 x2 x7 true x11 x12 (x0.length : Int) 0)
def impl_meet.l1 : Nat → List (List Int) → Int → Int → Int → Bool → Int → Int → Int → Int → Option (Int)
 | 0, _, _, _, _, _, _, _, _, _ => none
 | k + 1, x0, x1, x2, x7, x8, x11, x12, x34, x35 => if x35 < x34 then (if x8 = true then (if 0 ≤ x35 then (if x35 < (x0.length : Int) then (if 0 ≤ x1 then (if x1 < ((rd_L2 x0 x35).length : Int) then (if (rd (rd_L2 x0 x35) x1) = 0 then (impl_meet.l1 k x0 x1 x2 x7 true x11 x12 x34 (wrap64 (x35 + 1))) else (if 0 ≤ x2 then (if x2 < ((rd_L2 x0 x35).length : Int) then (if (rd (rd_L2 x0 x35) x2) = 0 then (impl_meet.l1 k x0 x1 x2 x7 true x11 x12 x34 (wrap64 (x35 + 1))) else (if 0 ≤ x7 then (if x7 < ((rd_L2 x0 x35).length : Int) then (impl_meet.l1 k x0 x1 x2 x7 ((rd (rd_L2 x0 x35) x7) == 1) x11 x12 x34 (wrap64 (x35 + 1))) else (none)) else (none))) else (none)) else (none))) else (none)) else (none)) else (none)) else (none)) else (impl_meet.l1 k x0 x1 x2 x7 false x11 x12 x34 (wrap64 (x35 + 1)))) else (if x8 = true then (some x7) else (impl_meet.l0 k x0 x1 x2 x11 (wrap64 (x12 + 1))))
end
def impl_meet.f (k : Nat) (l0 : List (List Int)) (a1 : Int) (a2 : Int) : Option (Int) := impl_meet.l0 k l0 a1 a2 (l0.length : Int) 0
set_option maxHeartbeats 8000000 in
set_option maxRecDepth 100000 in
theorem impl_meet.calls (k : Nat) (A0 : Option Addr) (c0 : Nat) (l0 : List (List Int)) (a1 : Int) (a2 : Int) (r : Int) (w : World) (hr0 : Kd.C (Kd.slice 3 (Kd.int .i64)) w A0 l0.length l0) (hc0 : l0.length ≤ c0) (h : impl_meet.f k l0 a1 a2 = some r) :
  Calls Try.prog 134 #[.slice A0 l0.length c0, .int .i64 a1, .int .i64 a2] w fun e w' => e = .returned (.int .i64 r) ∧ Drawn0 w w' := by
 have d3:=zqm hr0;have o7:=zqm hc0;clear hr0 hc0;have H:(impl_meet.l0 k l0 a1 a2 (l0.length:Int) 0)=some r:=h;clear h;have H':=zqm H;clear H
 go_enter Try.func134,Try.ntmps134
 go_wp2
 go_loopg [12] k (fun kq m9 w'=> ∃(a3:Int),m9= .int .i64 a3∧Aside0 (impl_meet.l0 kq l0 a1 a2 (l0.length:Int) a3=some r)∧Aside0 (kq≤k)∧Drawn0 w w')
 case atStart=>exact⟨(0),zq7,H',⟨Nat.le_refl _⟩,zq12⟩
 case round=>
  clear H';obtain⟨a3,rfl,HA,b0,⟨m1,rfl⟩⟩:=hrel
  cases gk with
  |zero=>exact absurd HA.out (by simp [impl_meet.l0])
  |succ k1=>
   have H:=HA.out;clear HA;simp only [impl_meet.l0] at H
   by_cases c4:a3<(l0.length:Int)
   ·rw [if_pos c4] at H;have l4:decide (a3<(l0.length:Int))=true:=decide_eq_true c4;clear c4;have j4:=zqm H;clear H
    go_upto_region 4 with (fail)
    go_cut [32] (fun n0 wc=> ∃(kq:Nat) (d8:Bool),n0= .bool d8∧Aside0 (impl_meet.j1 kq l0 a1 a2 a3 (l0.length:Int) a3 d8=some r)∧Aside0 (kq≤k1)∧Drawn0 w wc)
    case first=>
     have H:=j4.out;clear j4
     by_cases c6:0≤a3
     ·rw [if_pos c6] at H;have j7:decide (0≤a3)=true:=decide_eq_true c6;clear c6;(first|rw [j7]|(simp only [i64_w,i32_w];rw [j7])|skip)
      by_cases c7:a3<(l0.length:Int)
      ·rw [if_pos c7] at H;have o4:decide (a3<(l0.length:Int))=true:=decide_eq_true c7;clear c7
       by_cases c8:0≤a1
       ·rw [if_pos c8] at H;have o5:decide (0≤a1)=true:=decide_eq_true c8;clear c8
        by_cases c9:a1<((rd_L2 l0 a3).length:Int)
        ·rw [if_pos c9] at H;have o6:decide (a1<((rd_L2 l0 a3).length:Int))=true:=decide_eq_true c9;clear c9
         by_cases d9:(rd (rd_L2 l0 a3) a1)=0
         ·rw [if_pos d9] at H;have k5:((rd (rd_L2 l0 a3) a1)==0)=true:=beq_iff_eq.mpr d9;have k6:((rd (rd_L2 l0 a3) a1) !=0)=false:=bne_eq_false_iff_eq.mpr d9;clear d9;have H':=zqm H;clear H;have b9:0≤(a3:Int):=zqo;have c5:a3<(l0.length:Int):=zqo;obtain⟨g8,j2,j5,f6,f1,b4,b2⟩:=at_L2 d3.out a3 b9 c5
          cases f6
          have d5:=zqm b2;have i3:=zqm b4;clear b2 b4;replace b9:=eq_true b9;replace c5:=eq_true c5;have c1:0≤(a1:Int):=zqo;have d0:a1<((rd_L2 l0 a3).length:Int):=zqo;obtain⟨j9,f7,i7⟩:=Kd.at_int d5.out a1 c1 d0
          cases f7
          replace c1:=eq_true c1;replace d0:=eq_true d0
          go_wp2
          go_meet
          case rel=>exact⟨_,(true),zq7,H',⟨by have:=b0.out;first|omega|exact Nat.le_refl _⟩,zq12⟩
         ·rw [if_neg d9] at H;have k5:((rd (rd_L2 l0 a3) a1)==0)=false:=beq_eq_false_iff_ne.mpr d9;have k6:((rd (rd_L2 l0 a3) a1) !=0)=true:=bne_iff_ne.mpr d9
          by_cases h0:0≤a2
          ·rw [if_pos h0] at H;have n4:decide (0≤a2)=true:=decide_eq_true h0;clear h0
           by_cases h1:a2<((rd_L2 l0 a3).length:Int)
           ·rw [if_pos h1] at H;have n5:decide (a2<((rd_L2 l0 a3).length:Int))=true:=decide_eq_true h1;clear h1;have H':=zqm H;clear H;have b9:0≤(a3:Int):=zqo;have c5:a3<(l0.length:Int):=zqo;obtain⟨g8,j2,j5,f6,f1,b4,b2⟩:=at_L2 d3.out a3 b9 c5
            cases f6
            have d5:=zqm b2;have i3:=zqm b4;clear b2 b4;replace b9:=eq_true b9;replace c5:=eq_true c5;have c1:0≤(a1:Int):=zqo;have d0:a1<((rd_L2 l0 a3).length:Int):=zqo;obtain⟨j9,f7,i7⟩:=Kd.at_int d5.out a1 c1 d0
            cases f7
            replace c1:=eq_true c1;replace d0:=eq_true d0;have g0:0≤(a3:Int):=zqo;have g4:a3<(l0.length:Int):=zqo;obtain⟨k0,m5,m7,l5,i8,e9,e7⟩:=at_L2 d3.out a3 g0 g4;obtain rfl:g8=k0:=(by injection l5);have i5:=zqm e7;have l9:=zqm e9;clear e7 e9;replace g0:=eq_true g0;replace g4:=eq_true g4;have ea_:=Option.some.inj (f1.symm.trans i8);injection ea_ with ea_ en_ ec_;subst ea_;subst ec_;clear en_;have g1:0≤(a2:Int):=zqo;have g5:a2<((rd_L2 l0 a3).length:Int):=zqo;obtain⟨n2,l6,m2⟩:=Kd.at_int i5.out a2 g1 g5
            cases l6
            replace g1:=eq_true g1;replace g5:=eq_true g5
            go_wp2
            go_meet
            case rel=>exact⟨_,(((rd (rd_L2 l0 a3) a2)==0)),zq7,H',⟨by have:=b0.out;first|omega|exact Nat.le_refl _⟩,zq12⟩
           ·rw [if_neg h1] at H;exact absurd H (by simp)
          ·rw [if_neg h0] at H;exact absurd H (by simp)
        ·rw [if_neg c9] at H;exact absurd H (by simp)
       ·rw [if_neg c8] at H;exact absurd H (by simp)
      ·rw [if_neg c7] at H;exact absurd H (by simp)
     ·rw [if_neg c6] at H;exact absurd H (by simp)
    case rest=>
     clear j4;obtain⟨kq,d8,rfl,HA,b7,⟨mc4,rfl⟩⟩:=hcut
     cases kq with
     |zero=>exact absurd HA.out (by simp [impl_meet.j1])
     |succ j8=>
      have H:=HA.out;clear HA;simp only [impl_meet.j1] at H
      by_cases h2:d8=true
      ·subst h2;rw [if_pos rfl] at H;have H':=zqm H;clear H
       go_wp2
       go_roundg j8
       (case measure=>have:=b0.out;have:=b7.out;omega);case rel=>exact⟨(wrap64 (a3+1)),zq7,H',⟨by have:=b0.out;have:=b7.out;omega⟩,zq12⟩
      ·replace h2:=Bool.eq_false_iff.mpr h2;subst h2;rw [if_neg (show¬(false=true) by decide)] at H;have H':=zqm H;clear H
       go_wp2
       go_loopg [8,35] j8 (fun kq v8 n1 w'=> ∃(e4:Bool) (a0:Int),v8= .bool e4∧n1= .int .i64 a0∧Aside0 (impl_meet.l1 kq l0 a1 a2 a3 e4 (l0.length:Int) a3 (l0.length:Int) a0=some r)∧Aside0 (kq≤j8)∧Drawn0 w w')
       case atStart=>exact⟨(true),(0),zq7,zq7,H',⟨Nat.le_refl _⟩,zq12⟩
       case round=>
        clear H';obtain⟨e4,a0,rfl,rfl,HA,b8,⟨m3,rfl⟩⟩:=hrel
        cases gk with
        |zero=>exact absurd HA.out (by simp [impl_meet.l1])
        |succ k3=>
         have H:=HA.out;clear HA;simp only [impl_meet.l1] at H
         by_cases e6:a0<(l0.length:Int)
         ·rw [if_pos e6] at H;have k7:decide (a0<(l0.length:Int))=true:=decide_eq_true e6;clear e6
          by_cases h3:e4=true
          ·subst h3;rw [if_pos rfl] at H
           by_cases h4:0≤a0
           ·rw [if_pos h4] at H;have n6:decide (0≤a0)=true:=decide_eq_true h4;clear h4
            by_cases h5:a0<(l0.length:Int)
            ·rw [if_pos h5] at H;have n7:decide (a0<(l0.length:Int))=true:=decide_eq_true h5;clear h5
             by_cases h6:0≤a1
             ·rw [if_pos h6] at H;have n8:decide (0≤a1)=true:=decide_eq_true h6;clear h6
              by_cases h7:a1<((rd_L2 l0 a0).length:Int)
              ·rw [if_pos h7] at H;have n9:decide (a1<((rd_L2 l0 a0).length:Int))=true:=decide_eq_true h7;clear h7
               by_cases e0:(rd (rd_L2 l0 a0) a1)=0
               ·rw [if_pos e0] at H;have k8:((rd (rd_L2 l0 a0) a1)==0)=true:=beq_iff_eq.mpr e0;have k9:((rd (rd_L2 l0 a0) a1) !=0)=false:=bne_eq_false_iff_eq.mpr e0;clear e0;have H':=zqm H;clear H;have a6:0≤(a0:Int):=zqo;have a8:a0<(l0.length:Int):=zqo;obtain⟨d4,f4,f5,e2,b6,a5,a4⟩:=at_L2 d3.out a0 a6 a8
                cases e2
                have b1:=zqm a4;have e5:=zqm a5;clear a4 a5;replace a6:=eq_true a6;replace a8:=eq_true a8;have a7:0≤(a1:Int):=zqo;have a9:a1<((rd_L2 l0 a0).length:Int):=zqo;obtain⟨g9,e3,f2⟩:=Kd.at_int b1.out a1 a7 a9
                cases e3
                replace a7:=eq_true a7;replace a9:=eq_true a9
                go_wp2
                go_roundg k3
                (case measure=> exact zq145);case rel=>exact⟨(true),(wrap64 (a0+1)),zq7,zq7,H',⟨zq145⟩,zq12⟩
               ·rw [if_neg e0] at H;have k8:((rd (rd_L2 l0 a0) a1)==0)=false:=beq_eq_false_iff_ne.mpr e0;have k9:((rd (rd_L2 l0 a0) a1) !=0)=true:=bne_iff_ne.mpr e0
                by_cases h8:0≤a2
                ·rw [if_pos h8] at H;have o0:decide (0≤a2)=true:=decide_eq_true h8;clear h8
                 by_cases h9:a2<((rd_L2 l0 a0).length:Int)
                 ·rw [if_pos h9] at H;have o1:decide (a2<((rd_L2 l0 a0).length:Int))=true:=decide_eq_true h9;clear h9
                  by_cases e1:(rd (rd_L2 l0 a0) a2)=0
                  ·rw [if_pos e1] at H;have l2:((rd (rd_L2 l0 a0) a2)==0)=true:=beq_iff_eq.mpr e1;have l3:((rd (rd_L2 l0 a0) a2) !=0)=false:=bne_eq_false_iff_eq.mpr e1;clear e1;have H':=zqm H;clear H;have a6:0≤(a0:Int):=zqo;have a8:a0<(l0.length:Int):=zqo;obtain⟨d4,f4,f5,e2,b6,a5,a4⟩:=at_L2 d3.out a0 a6 a8
                   cases e2
                   have b1:=zqm a4;have e5:=zqm a5;clear a4 a5;replace a6:=eq_true a6;replace a8:=eq_true a8;have a7:0≤(a1:Int):=zqo;have a9:a1<((rd_L2 l0 a0).length:Int):=zqo;obtain⟨g9,e3,f2⟩:=Kd.at_int b1.out a1 a7 a9
                   cases e3
                   replace a7:=eq_true a7;replace a9:=eq_true a9;have c2:0≤(a0:Int):=zqo;have d1:a0<(l0.length:Int):=zqo;obtain⟨f3,j3,j6,f8,d7,b5,b3⟩:=at_L2 d3.out a0 c2 d1;obtain rfl:d4=f3:=(by injection f8);have d6:=zqm b3;have i4:=zqm b5;clear b3 b5;replace c2:=eq_true c2;replace d1:=eq_true d1;have ea_:=Option.some.inj (b6.symm.trans d7);injection ea_ with ea_ en_ ec_;subst ea_;subst ec_;clear en_;have c3:0≤(a2:Int):=zqo;have d2:a2<((rd_L2 l0 a0).length:Int):=zqo;obtain⟨k2,f9,i9⟩:=Kd.at_int d6.out a2 c3 d2
                   cases f9
                   replace c3:=eq_true c3;replace d2:=eq_true d2
                   go_wp2
                   go_roundg k3
                   (case measure=> exact zq145);case rel=>exact⟨(true),(wrap64 (a0+1)),zq7,zq7,H',⟨zq145⟩,zq12⟩
                  ·rw [if_neg e1] at H;have l2:((rd (rd_L2 l0 a0) a2)==0)=false:=beq_eq_false_iff_ne.mpr e1;have l3:((rd (rd_L2 l0 a0) a2) !=0)=true:=bne_iff_ne.mpr e1
                   by_cases i0:0≤a3
                   ·rw [if_pos i0] at H;have o2:decide (0≤a3)=true:=decide_eq_true i0;clear i0
                    by_cases i1:a3<((rd_L2 l0 a0).length:Int)
                    ·rw [if_pos i1] at H;have o3:decide (a3<((rd_L2 l0 a0).length:Int))=true:=decide_eq_true i1;clear i1;have H':=zqm H;clear H;have a6:0≤(a0:Int):=zqo;have a8:a0<(l0.length:Int):=zqo;obtain⟨d4,f4,f5,e2,b6,a5,a4⟩:=at_L2 d3.out a0 a6 a8
                     cases e2
                     have b1:=zqm a4;have e5:=zqm a5;clear a4 a5;replace a6:=eq_true a6;replace a8:=eq_true a8;have a7:0≤(a1:Int):=zqo;have a9:a1<((rd_L2 l0 a0).length:Int):=zqo;obtain⟨g9,e3,f2⟩:=Kd.at_int b1.out a1 a7 a9
                     cases e3
                     replace a7:=eq_true a7;replace a9:=eq_true a9;have c2:0≤(a0:Int):=zqo;have d1:a0<(l0.length:Int):=zqo;obtain⟨f3,j3,j6,f8,d7,b5,b3⟩:=at_L2 d3.out a0 c2 d1;obtain rfl:d4=f3:=(by injection f8);have d6:=zqm b3;have i4:=zqm b5;clear b3 b5;replace c2:=eq_true c2;replace d1:=eq_true d1;have ea_:=Option.some.inj (b6.symm.trans d7);injection ea_ with ea_ en_ ec_;subst ea_;subst ec_;clear en_;have c3:0≤(a2:Int):=zqo;have d2:a2<((rd_L2 l0 a0).length:Int):=zqo;obtain⟨k2,f9,i9⟩:=Kd.at_int d6.out a2 c3 d2
                     cases f9
                     replace c3:=eq_true c3;replace d2:=eq_true d2;have g2:0≤(a0:Int):=zqo;have g6:a0<(l0.length:Int):=zqo;obtain⟨k4,m6,m8,l7,j0,f0,e8⟩:=at_L2 d3.out a0 g2 g6;obtain rfl:d4=k4:=(by injection l7);have i6:=zqm e8;have m0:=zqm f0;clear e8 f0;replace g2:=eq_true g2;replace g6:=eq_true g6;have ea_:=Option.some.inj (b6.symm.trans j0);injection ea_ with ea_ en_ ec_;subst ea_;subst ec_;clear en_;have g3:0≤(a3:Int):=zqo;have g7:a3<((rd_L2 l0 a0).length:Int):=zqo;obtain⟨n3,l8,m4⟩:=Kd.at_int i6.out a3 g3 g7
                     cases l8
                     replace g3:=eq_true g3;replace g7:=eq_true g7
                     go_wp2
                     go_roundg k3
                     (case measure=> exact zq145);case rel=>exact⟨(((rd (rd_L2 l0 a0) a3)==1)),(wrap64 (a0+1)),zq7,zq7,H',⟨zq145⟩,zq12⟩
                    ·rw [if_neg i1] at H;exact absurd H (by simp)
                   ·rw [if_neg i0] at H;exact absurd H (by simp)
                 ·rw [if_neg h9] at H;exact absurd H (by simp)
                ·rw [if_neg h8] at H;exact absurd H (by simp)
              ·rw [if_neg h7] at H;exact absurd H (by simp)
             ·rw [if_neg h6] at H;exact absurd H (by simp)
            ·rw [if_neg h5] at H;exact absurd H (by simp)
           ·rw [if_neg h4] at H;exact absurd H (by simp)
          ·replace h3:=Bool.eq_false_iff.mpr h3;subst h3;rw [if_neg (show¬(false=true) by decide)] at H;have H':=zqm H;clear H
           go_wp2
           go_roundg k3
           (case measure=> exact zq145);case rel=>exact⟨(false),(wrap64 (a0+1)),zq7,zq7,H',⟨zq145⟩,zq12⟩
         ·rw [if_neg e6] at H;have k7:decide (a0<(l0.length:Int))=false:=decide_eq_false e6;clear e6
          by_cases i2:e4=true
          ·subst i2;rw [if_pos rfl] at H;obtain rfl:=Option.some.inj H
           go_wp2
           go_ret
           exact⟨zq7,zq12⟩
          ·replace i2:=Bool.eq_false_iff.mpr i2;subst i2;rw [if_neg (show¬(false=true) by decide)] at H;have H':=zqm H;clear H
           go_wp2
           go_roundg k3
           (case measure=> exact zq145);case rel=>exact⟨(wrap64 (a3+1)),zq7,H',⟨zq145⟩,zq12⟩
   ·rw [if_neg c4] at H;have l4:decide (a3<(l0.length:Int))=false:=decide_eq_false c4;clear c4;obtain rfl:=Option.some.inj H
    go_wp2
    go_ret
    exact⟨zq7,zq12⟩
end
section
attribute [local go_sem] max2_int min2_int max_two min_two max_three min_three max_four min_four
mutual
def impl_LatticeOk.l0 : Nat → List (List Int) → List (List Int) → Int → Int → Option (Bool)
 | 0, _, _, _, _ => none
 | k + 1, x0, x3, x12, x13 => if x13 < x12 then (impl_LatticeOk.l1 k x0 x3 x13 x12 x13 (x0.length : Int) 0) else (some true)
def impl_LatticeOk.l1 : Nat → List (List Int) → List (List Int) → Int → Int → Int → Int → Int → Option (Bool)
 | 0, _, _, _, _, _, _, _ => none
 | k + 1, x0, x3, x4, x12, x13, x17, x18 => if x18 < x17 then ((impl_meet.f k x0 x4 x18).bind fun t439 => (if t439 < 0 then (some false) else ((impl_meet.f k x3 x4 x18).bind fun t440 => (if t440 < 0 then (some false) else (impl_LatticeOk.l1 k x0 x3 x4 x12 x13 x17 (wrap64 (x18 + 1))))))) else (impl_LatticeOk.l0 k x0 x3 x12 (wrap64 (x13 + 1)))
end
def impl_LatticeOk.f (k : Nat) (l0 : List (List Int)) : Option (Bool) := (impl_OrderOk.f k l0).bind fun t435 => (if t435 = true then ((impl_turned.f k l0).bind fun t436 => (impl_LatticeOk.l0 k l0 t436 (l0.length : Int) 0)) else (some false))
set_option maxHeartbeats 8000000 in
set_option maxRecDepth 100000 in
theorem impl_LatticeOk.calls (k : Nat) (A0 : Option Addr) (c0 : Nat) (l0 : List (List Int)) (r : Bool) (w : World) (hr0 : Kd.C (Kd.slice 3 (Kd.int .i64)) w A0 l0.length l0) (hc0 : l0.length ≤ c0) (h : impl_LatticeOk.f k l0 = some r) :
  Calls Try.prog 132 #[.slice A0 l0.length c0] w fun e w' => e = .returned (.bool r) ∧ Below w.heap.size w w' := by
 have a6:=zqm hr0;have a5:=zqm hc0;clear hr0 hc0;have HB:=zqm (Below.refl w.heap.size w);have H:((impl_OrderOk.f k l0).bind fun a8=>(if a8=true then((impl_turned.f k l0).bind fun a2=>(impl_LatticeOk.l0 k l0 a2 (l0.length:Int) 0)) else(some false)))=some r:=h;clear h;replace H:=Option.bind_eq_some_iff.mp H;obtain⟨a8,b6,H⟩:=H;(try dsimp only at H);have A2:=zqm b6;clear b6
 by_cases c3:a8=true
 ·subst c3;rw [if_pos rfl] at H;replace H:=Option.bind_eq_some_iff.mp H;obtain⟨a2,b7,H⟩:=H;(try dsimp only at H);have A4:=zqm b7;clear b7;have H':=zqm H;clear H
  go_enter Try.func132,Try.ntmps132
  go_wp2_with (first|((with_reducible refine gate_callee (f:=81) rfl ?_);refine goesL_ (some 7) rfl rfl Try.func81 zqk rfl #[.slice A0 l0.length c0] rfl zq1 ?_;(with_reducible refine(impl_OrderOk.calls k _ _ l0 true _ ?side1 ?side2 A2.out).mono ?_);(case side1=> exact zq147);(case side2=>exact a5.out);rintro e w' ⟨rfl,⟨nd,rfl⟩⟩;refine⟨_,rfl,?_⟩)|((with_reducible refine gate_callee (f:=133) rfl ?_);refine goesL_ (some 10) rfl rfl Try.func133 zqk rfl #[.slice A0 l0.length c0] rfl zq1 ?_;(with_reducible refine(impl_turned.calls k _ _ l0 a2 _ ?side1 ?side2 A4.out).mono ?_);(case side1=> exact zq147);(case side2=>exact a5.out);rintro e w5 ⟨b2,rfl,b9,hb⟩;refine⟨_,rfl,?_⟩;have b3:=zqm (Kd.S_lower b9 (below_size zq0));replace HB:=zqm (below_step zq0 hb);clear hb b9))
  go_loopg [13] k (fun kq d0 w'=> ∃(a0:Int),d0= .int .i64 a0∧Aside0 (impl_LatticeOk.l0 kq l0 a2 (l0.length:Int) a0=some r)∧Aside0 (kq≤k)∧Aside0 (Kd.S (Kd.slice 3 (Kd.int .i64)) 24 w' w.heap.size (fun _=>True) b2 a2)∧Aside0 (Below w.heap.size w w'))
  case atStart=>exact⟨(0),zq7,H',⟨Nat.le_refl _⟩,⟨zqfS b3.out⟩,⟨zq0⟩⟩
  case round=>
   clear H';obtain⟨a0,rfl,HA,a9,HO_3,HB⟩:=hrel
   cases gk with
   |zero=>exact absurd HA.out (by simp [impl_LatticeOk.l0])
   |succ k1=>
    have H:=HA.out;clear HA;simp only [impl_LatticeOk.l0] at H
    by_cases c6:a0<(l0.length:Int)
    ·rw [if_pos c6] at H;have c1:decide (a0<(l0.length:Int))=true:=decide_eq_true c6;clear c6;have H':=zqm H;clear H
     go_wp2
     go_loopg [18] k1 (fun kq d1 w'=> ∃(a1:Int),d1= .int .i64 a1∧Aside0 (impl_LatticeOk.l1 kq l0 a2 a0 (l0.length:Int) a0 (l0.length:Int) a1=some r)∧Aside0 (kq≤k1)∧Aside0 (Kd.S (Kd.slice 3 (Kd.int .i64)) 24 w' w.heap.size (fun _=>True) b2 a2)∧Aside0 (Below w.heap.size w w'))
     case atStart=>exact⟨(0),zq7,H',⟨Nat.le_refl _⟩,⟨zqfS HO_3.out⟩,⟨zq0⟩⟩
     case round=>
      clear H';obtain⟨a1,rfl,HA,b0,HO_3,HB⟩:=hrel
      cases gk with
      |zero=>exact absurd HA.out (by simp [impl_LatticeOk.l1])
      |succ k2=>
       have H:=HA.out;clear HA;simp only [impl_LatticeOk.l1] at H
       by_cases c7:a1<(l0.length:Int)
       ·rw [if_pos c7] at H;have c2:decide (a1<(l0.length:Int))=true:=decide_eq_true c7;clear c7;replace H:=Option.bind_eq_some_iff.mp H;obtain⟨a3,b8,H⟩:=H;(try dsimp only at H);have A8:=zqm b8;clear b8
        by_cases c9:a3<0
        ·rw [if_pos c9] at H;have c4:decide (a3<0)=true:=decide_eq_true c9;clear c9;obtain rfl:=Option.some.inj H
         go_wp2_with (first|((with_reducible refine gate_callee (f:=134) rfl ?_);refine goesL_ (some 24) rfl rfl Try.func134 zqk rfl #[.slice A0 l0.length c0,.int .i64 a0,.int .i64 a1] rfl zq1 ?_;(with_reducible refine(impl_meet.calls k2 _ _ l0 a0 a1 a3 _ ?side1 ?side2 A8.out).mono ?_);(case side1=> exact zq30);(case side2=>exact a5.out);rintro e w' ⟨rfl,⟨nd,rfl⟩⟩;refine⟨_,rfl,?_⟩))
         go_ret
         exact⟨zq13,zq0⟩
        ·rw [if_neg c9] at H;have c4:decide (a3<0)=false:=decide_eq_false c9;clear c9;replace H:=Option.bind_eq_some_iff.mp H;obtain⟨a4,b1,H⟩:=H;(try dsimp only at H);have b5:=zqm b1;clear b1
         by_cases a7:a4<0
         ·rw [if_pos a7] at H;have b4:decide (a4<0)=true:=decide_eq_true a7;clear a7;obtain rfl:=Option.some.inj H
          go_wp2_with (first|((with_reducible refine gate_callee (f:=134) rfl ?_);refine goesL_ (some 24) rfl rfl Try.func134 zqk rfl #[.slice A0 l0.length c0,.int .i64 a0,.int .i64 a1] rfl zq1 ?_;(with_reducible refine(impl_meet.calls k2 _ _ l0 a0 a1 a3 _ ?side1 ?side2 A8.out).mono ?_);(case side1=> exact zq30);(case side2=>exact a5.out);rintro e w' ⟨rfl,⟨nd,rfl⟩⟩;refine⟨_,rfl,?_⟩;obtain⟨d2,d4,c5⟩:=Kd.S_slice HO_3.out;subst c5)|(go_at_call 134;(with_reducible refine(impl_meet.calls k2 _ _ a2 a0 a1 a4 _ ?side1 ?side2 b5.out).mono ?_);(case side1=> exact zq174);(case side2=>exact(Kd.S_reads' HO_3.out).2.1);rintro e w' ⟨rfl,⟨nd,rfl⟩⟩))
          go_ret
          exact⟨zq13,zq0⟩
         ·rw [if_neg a7] at H;have b4:decide (a4<0)=false:=decide_eq_false a7;clear a7;have H':=zqm H;clear H
          go_wp2_with (first|((with_reducible refine gate_callee (f:=134) rfl ?_);refine goesL_ (some 24) rfl rfl Try.func134 zqk rfl #[.slice A0 l0.length c0,.int .i64 a0,.int .i64 a1] rfl zq1 ?_;(with_reducible refine(impl_meet.calls k2 _ _ l0 a0 a1 a3 _ ?side1 ?side2 A8.out).mono ?_);(case side1=> exact zq30);(case side2=>exact a5.out);rintro e w' ⟨rfl,⟨nd,rfl⟩⟩;refine⟨_,rfl,?_⟩;obtain⟨d3,d5,c8⟩:=Kd.S_slice HO_3.out;subst c8)|(go_at_call 134;(with_reducible refine(impl_meet.calls k2 _ _ a2 a0 a1 a4 _ ?side1 ?side2 b5.out).mono ?_);(case side1=> exact zq174);(case side2=>exact(Kd.S_reads' HO_3.out).2.1);rintro e w' ⟨rfl,⟨nd,rfl⟩⟩))
          go_roundg k2
          (case measure=> exact zq246);case rel=>exact⟨(wrap64 (a1+1)),zq7,H',⟨zq246⟩,⟨zqfS HO_3.out⟩,⟨zq0⟩⟩
       ·rw [if_neg c7] at H;have c2:decide (a1<(l0.length:Int))=false:=decide_eq_false c7;clear c7;have H':=zqm H;clear H
        go_wp2
        go_roundg k2
        (case measure=> exact zq246);case rel=>exact⟨(wrap64 (a0+1)),zq7,H',⟨zq246⟩,⟨zqfS HO_3.out⟩,⟨zq0⟩⟩
    ·rw [if_neg c6] at H;have c1:decide (a0<(l0.length:Int))=false:=decide_eq_false c6;clear c6;obtain rfl:=Option.some.inj H
     go_wp2
     go_ret
     exact⟨zq13,zq0⟩
 ·replace c3:=Bool.eq_false_iff.mpr c3;subst c3;rw [if_neg (show¬(false=true) by decide)] at H;obtain rfl:=Option.some.inj H
  go_enter Try.func132,Try.ntmps132
  go_wp2_with (first|((with_reducible refine gate_callee (f:=81) rfl ?_);refine goesL_ (some 7) rfl rfl Try.func81 zqk rfl #[.slice A0 l0.length c0] rfl zq1 ?_;(with_reducible refine(impl_OrderOk.calls k _ _ l0 false _ ?side1 ?side2 A2.out).mono ?_);(case side1=> exact zq147);(case side2=>exact a5.out);rintro e w' ⟨rfl,⟨nd,rfl⟩⟩;refine⟨_,rfl,?_⟩))
  go_ret
  exact⟨zq13,zq0⟩
end
section
attribute [local go_sem] max2_int min2_int max_two min_two max_three min_three max_four min_four
def impl_isAnswer.f (l0 : List (List Int)) (a1 : Int) : Option (Bool) := if a1 ≥ 0 then (some (decide (a1 < (l0.length : Int)))) else (some false)
set_option maxHeartbeats 8000000 in
set_option maxRecDepth 100000 in
theorem impl_isAnswer.calls (A0 : Option Addr) (c0 : Nat) (l0 : List (List Int)) (a1 : Int) (r : Bool) (w : World) (hr0 : Kd.C (Kd.slice 3 (Kd.int .i64)) w A0 l0.length l0) (hc0 : l0.length ≤ c0) (h : impl_isAnswer.f l0 a1 = some r) :
  Calls Try.prog 135 #[.slice A0 l0.length c0, .int .i64 a1] w fun e w' => e = .returned (.bool r) ∧ Drawn0 w w' := by
 have HR0 := Aside0.mk hr0
 have HC0 := Aside0.mk hc0
 clear hr0 hc0
 have H : (if a1 ≥ 0 then (some (decide (a1 < (l0.length : Int)))) else (some false)) = some r := h
 clear h
 by_cases c3 : a1 ≥ 0
 ·rw [if_pos c3] at H
  have c3b0 : decide (0 ≤ a1) = true := decide_eq_true c3
  clear c3
  obtain rfl := Option.some.inj H
  go_enter Try.func135, Try.ntmps135
  go_wp2
  go_ret
  exact ⟨zq209, by repeat (first | exact Drawn0.refl _ | apply Drawn0.step)⟩
 ·rw [if_neg c3] at H
  have c3b0 : decide (0 ≤ a1) = false := decide_eq_false c3
  clear c3
  obtain rfl := Option.some.inj H
  go_enter Try.func135, Try.ntmps135
  go_wp2
  go_ret
  exact ⟨zq209, by repeat (first | exact Drawn0.refl _ | apply Drawn0.step)⟩
end
end Go.Proofs.Ytcbjpdaogicibaa.Print
end
section
namespace Go.Proofs.Ytcbjpdaogicibaa.Print
open Go.RowKit Go.Proofs.YtcbjpdaogicibaaW.PrintWords Go.Proofs.YtcbjpdaogicibaaW.PrintLast Go.Proofs.YtcbjpdaogicibaaW.PrintMore
open Oml
structure ToldFacts (k : Nat) (U : List (List Int)) : Prop where
 lat:impl_LatticeOk.f k U=some (latticeB U)
 turn:latticeB U=true→impl_turned.f k U=some (turnL U)
 meet:latticeB U=true→ ∀a b:Nat,a<U.length→b<U.length→impl_meet.f k U a b=some (mI U a b)
 join:latticeB U=true→ ∀a b:Nat,a<U.length→b<U.length→impl_meet.f k (turnL U) a b=some (jI U a b)
 least:latticeB U=true→impl_LeastOf.f k U=some (optI (leastO U),(leastO U).isSome)
set_option maxHeartbeats 1000000 in
set_option maxRecDepth 100000 in
theorem told_flat (k : Nat) (A0 : Option Addr) (c0 : Nat) (U : List (List Int)) (A1 : Option Addr) (c1 : Nat) (N : List Int) (w : World)
 (hr0:Kd.C (Kd.slice 3 (Kd.int .i64)) w A0 U.length U) (hc0:U.length≤c0) (hr1:Kd.C (Kd.int .i64) w A1 N.length N) (hc1:N.length≤c1) (hLat:impl_LatticeOk.f k U=some false):
 Calls Try.prog 70 #[.agg #[.slice A0 U.length c0,.slice A1 N.length c1]] w fun e w'=>e= .returned (.pointer none)∧Below w.heap.size w w':=by
 have hu30:=Try.underlying26
 have HR0:=zqm hr0
 have HLat:=zqm hLat
 clear hr0 hLat hr1
 go_enter Try.func70,Try.ntmps70
 go_wp2_with (first|((with_reducible refine gate_dst (N:=1) rfl ?_);refine box_event ?hg (N:=1) ?hd (cs:= #[.slice A0 U.length c0,.slice A1 N.length c1]) (t:=26) ?hr ?_;(case hd=>rfl);(case hg=>rfl);(case hr=>first|(go_simp;done)|(go_simp;rfl));intro gb hg_gb w1 hbox_gb hb;have HB:=zqm hb;have hx0:w1.cell? ⟨gb,0,none⟩=some (.slice A0 U.length c0):=(blk_cell hbox_gb 0).trans rfl;have hx1:w1.cell? ⟨gb,1,none⟩=some (.slice A1 N.length c1):=(blk_cell hbox_gb 1).trans rfl;have HX:=zqm hbox_gb;clear hbox_gb hb hg_gb)|(go_at_call 132;(with_reducible refine(impl_LatticeOk.calls k _ _ U false _ ?s1 ?s2 HLat.out).mono ?_);(case s1=>exact Kd.C_below HR0.out HB.out);(case s2=>assumption);rintro e w2 ⟨rfl,hb⟩;have hbox:=blk_below HX.out hb;have hy0:w2.cell? ⟨gb,0,none⟩=some (.slice A0 U.length c0):=(blk_cell hbox 0).trans rfl;have hy1:w2.cell? ⟨gb,1,none⟩=some (.slice A1 N.length c1):=(blk_cell hbox 1).trans rfl;have HB2:=zqm (below_step HB.out hb);have HX2:=zqm hbox;clear hbox hb hx0 hx1 HX HB))
 go_ret
 exact⟨rfl,HB2.out⟩
set_option maxHeartbeats 1000000 in
set_option maxRecDepth 100000 in
theorem told_long (k : Nat) (A0 : Option Addr) (c0 : Nat) (U : List (List Int)) (A1 : Option Addr) (c1 : Nat) (N : List Int) (w : World)
 (hr0:Kd.C (Kd.slice 3 (Kd.int .i64)) w A0 U.length U) (hc0:U.length≤c0) (hr1:Kd.C (Kd.int .i64) w A1 N.length N) (hc1:N.length≤c1) (hLat:impl_LatticeOk.f k U=some true) (hl:N.length≠U.length):
 Calls Try.prog 70 #[.agg #[.slice A0 U.length c0,.slice A1 N.length c1]] w fun e w'=>e= .returned (.pointer none)∧Below w.heap.size w w':=by
 have hu30:=Try.underlying26
 have HR0:=zqm hr0
 have HLat:=zqm hLat
 have hne:((N.length:Int) !=(U.length:Int))=true:=by rw [bne_iff_ne];omega
 clear hr0 hLat hr1 hl
 go_enter Try.func70,Try.ntmps70
 go_wp2_with (first|((with_reducible refine gate_dst (N:=1) rfl ?_);refine box_event ?hg (N:=1) ?hd (cs:= #[.slice A0 U.length c0,.slice A1 N.length c1]) (t:=26) ?hr ?_;(case hd=>rfl);(case hg=>rfl);(case hr=>first|(go_simp;done)|(go_simp;rfl));intro gb hg_gb w1 hbox_gb hb;have HB:=zqm hb;have hx0:w1.cell? ⟨gb,0,none⟩=some (.slice A0 U.length c0):=(blk_cell hbox_gb 0).trans rfl;have hx1:w1.cell? ⟨gb,1,none⟩=some (.slice A1 N.length c1):=(blk_cell hbox_gb 1).trans rfl;have HX:=zqm hbox_gb;clear hbox_gb hb hg_gb)|(go_at_call 132;(with_reducible refine(impl_LatticeOk.calls k _ _ U true _ ?s1 ?s2 HLat.out).mono ?_);(case s1=>exact Kd.C_below HR0.out HB.out);(case s2=>assumption);rintro e w2 ⟨rfl,hb⟩;have hbox:=blk_below HX.out hb;have hy0:w2.cell? ⟨gb,0,none⟩=some (.slice A0 U.length c0):=(blk_cell hbox 0).trans rfl;have hy1:w2.cell? ⟨gb,1,none⟩=some (.slice A1 N.length c1):=(blk_cell hbox 1).trans rfl;have HB2:=zqm (below_step HB.out hb);have HX2:=zqm hbox;clear hbox hb hx0 hx1 HX HB))
 go_ret
 exact⟨rfl,HB2.out⟩
def impl_told.T15 : Bool × List (List Nat × List Nat) := (true, [([], []), ([], []), ([], []), ([2], [2]), ([3], [3]), ([4], [4]), ([], []), ([6], [6]), ([5, 7], [5, 7]), ([], []), ([9], [9]), ([10], [10]), ([11], [11]), ([], []), ([13], [13]), ([12, 14, 8], [12, 14]), ([0, 0, 2, 3, 4, 5, 6, 7, 8, 12, 15], [0]), ([16, 0, 2, 3, 4, 5, 6, 7, 8, 12, 15], [16]), ([17, 8, 15, 0, 2, 3, 4, 5, 6, 7, 8, 12, 15], [8, 17]), ([1, 0, 1, 2, 3, 4, 5, 6, 7, 8, 9, 10, 11, 12, 13, 14, 15, 16, 17, 18], [1]), ([19, 0, 1, 2, 3, 4, 5, 6, 7, 8, 9, 10, 11, 12, 13, 14, 15, 16, 17, 18], [19]), ([20, 15, 18, 0, 1, 2, 3, 4, 5, 6, 7, 8, 9, 10, 11, 12, 13, 14, 15, 16, 17, 18], [15, 20])])
def impl_told.B15 : List Nat := [0, 0, 0, 4, 12, 28, 0, 64, 252, 0, 512, 1536, 3584, 0, 8192, 32764, 65533, 131069, 262141, 524287, 1048575, 2097151]
theorem impl_told.tab15 : rtab .any (opsOf Try.f70 15) = impl_told.T15 := by kernel_rfl
theorem impl_told.bits15 : waitsOk impl_told.T15.2 impl_told.B15 = true := by kernel_rfl
def impl_told.T34 : Bool × List (List Nat × List Nat) := (true, [([], []), ([], []), ([1], [1]), ([], []), ([3], [3]), ([4], [4]), ([5], [5]), ([2, 6], [2, 6]), ([7], [7]), ([0, 0, 1, 2, 3, 4, 5, 6, 7, 8], [0]), ([9, 0, 1, 2, 3, 4, 5, 6, 7, 8], [9]), ([10, 8, 0, 1, 2, 3, 4, 5, 6, 7, 8], [8, 10])])
def impl_told.B34 : List Nat := [0, 0, 2, 0, 8, 24, 56, 126, 254, 511, 1023, 2047]
theorem impl_told.tab34 : rtab .any (opsOf Try.f70 34) = impl_told.T34 := by kernel_rfl
theorem impl_told.bits34 : waitsOk impl_told.T34.2 impl_told.B34 = true := by kernel_rfl
theorem optI_inj {a b : Option Nat} (h : optI a = optI b) : a = b := by
 cases a <;> cases b <;> simp [optI] at h ⊢ <;> omega
def Ok3 (U : List (List Int)) (N : List Int) (i : Nat) : Prop := 0 ≤ at1 N i ∧ at1 N i < U.length ∧ at1 N (at1 N i).toNat = i ∧ meetO U i (at1 N i).toNat = leastO U
def Ok5 (U : List (List Int)) (N : List Int) (i j : Nat) : Prop := leB U i j = true → leB U (at1 N j).toNat (at1 N i).toNat = true
theorem logicB_no3 {U : List (List Int)} {N : List Int} {a : Nat} (ha : a < U.length) (h : ¬ Ok3 U N a) : logicB U N = false := by
 rw [Bool.eq_false_iff]
 intro hl
 have L:=logicB_iff.1 hl
 exact h ⟨(L.ran a ha).1,(L.ran a ha).2,L.inv a ha,L.comp a ha⟩
theorem logicB_no5 {U : List (List Int)} {N : List Int} {a b : Nat} (ha : a < U.length) (hb : b < U.length) (h : ¬ Ok5 U N a b) : logicB U N = false := by
 rw [Bool.eq_false_iff]
 intro hl
 have L:=logicB_iff.1 hl
 exact h (L.turn a b ha hb)
theorem logicB_yes {U : List (List Int)} {N : List Int} (h1 : latticeB U = true) (h2 : N.length = U.length) (h3 : ∀ i, i < U.length → Ok3 U N i) (h5 : ∀ i, i < U.length → ∀ j, j < U.length → Ok5 U N i j) : logicB U N = true := by
 have O:=latticeB_order h1
 unfold latticeB at h1
 simp only [Bool.and_eq_true,allN_iff] at h1
 exact logicB_iff.2 { toOrder:=O,meets:=fun a b ha hb=>(h1.2 a ha b hb).1,joins:=fun a b ha hb=>(h1.2 a ha b hb).2,len:=h2,ran:=fun a ha=>⟨(h3 a ha).1,(h3 a ha).2.1⟩,inv:=fun a ha=>(h3 a ha).2.2.1,comp:=fun a ha=>(h3 a ha).2.2.2,turn:=fun a b ha hb=>h5 a ha b hb }
set_option maxHeartbeats 16000000 in
set_option maxRecDepth 100000 in
theorem told_walk (k : Nat) (A0 : Option Addr) (c0 : Nat) (U : List (List Int)) (A1 : Option Addr) (c1 : Nat) (N : List Int) (w : World)
 (hr0:Kd.C (Kd.slice 3 (Kd.int .i64)) w A0 U.length U) (hc0:U.length≤c0) (hr1:Kd.C (Kd.int .i64) w A1 N.length N) (hc1:N.length≤c1) (hF:ToldFacts k U) (hl:N.length=U.length) (hlat:latticeB U=true):
 Calls Try.prog 70 #[.agg #[.slice A0 U.length c0,.slice A1 N.length c1]] w (ToldPost U N w):=by
 have hu30:=Try.underlying26
 have hu70:=Try.underlying74
 have HR0:=zqm hr0
 have HR1:=zqm hr1
 have HL:=zqm hl
 have HLat:=zqm (hlat ▸ hF.lat)
 have HTurn:=zqm (hF.turn hlat)
 have HF:=zqm hF
 have HLB:=zqm hlat
 have HSM:=zqm (latticeB_order hlat).small
 have hne:((N.length:Int) !=(U.length:Int))=false:=by rw [hl];simp
 clear hr0 hr1 hl hF hlat
 go_enter Try.func70,Try.ntmps70
 go_wp2_with (first|((with_reducible refine gate_dst (N:=1) rfl ?_);refine box_event ?hg (N:=1) ?hd (cs:= #[.slice A0 U.length c0,.slice A1 N.length c1]) (t:=26) ?hr ?_;(case hd=>rfl);(case hg=>rfl);(case hr=> exact zq17);intro gb hg_gb w1 hbox_gb hb;have HB:=zqm hb;have hx0:w1.cell? ⟨gb,0,none⟩=some (.slice A0 U.length c0):=(blk_cell hbox_gb 0).trans rfl;have hx1:w1.cell? ⟨gb,1,none⟩=some (.slice A1 N.length c1):=(blk_cell hbox_gb 1).trans rfl;have HX:=zqm hbox_gb;clear hbox_gb hb hg_gb)|(go_at_call 132;(with_reducible refine(impl_LatticeOk.calls k _ _ U true _ ?s1 ?s2 HLat.out).mono ?_);(case s1=> exact zq61);(case s2=>assumption);rintro e w2 ⟨rfl,hb⟩;have hbox:=blk_below HX.out hb;have hy0:w2.cell? ⟨gb,0,none⟩=some (.slice A0 U.length c0):=(blk_cell hbox 0).trans rfl;have hy1:w2.cell? ⟨gb,1,none⟩=some (.slice A1 N.length c1):=(blk_cell hbox 1).trans rfl;have HB2:=zqm (below_step HB.out hb);have HX2:=zqm hbox;clear hbox hb hx0 hx1 HX HB)|((with_reducible refine gate_dst (N:=33) rfl ?_);refine box_event ?hg (N:=33) ?hd (cs:= #[.slice A0 U.length c0,.slice none 0 0,.slice none 0 0,.slice A1 N.length c1,.int .i64 0,.int .i64 0]) (t:=74) ?hr ?_;(case hd=>rfl);(case hg=>rfl);(case hr=> exact zq17);intro g hg_g w3 hbox_g hb;have HB3:=zqm (below_step HB2.out hb);have HG3:=zqm hbox_g;have HGE:=zqm ((by rw [hg_g];exact below_size HB2.out):w.heap.size≤g);have hbox:=blk_below HX2.out hb;have HNE:=zqm ((by rw [hg_g];exact Nat.ne_of_lt (blk_lt HX2.out)):gb≠g);have hz0:w3.cell? ⟨gb,0,none⟩=some (.slice A0 U.length c0):=(blk_cell hbox 0).trans rfl;have hz1:w3.cell? ⟨gb,1,none⟩=some (.slice A1 N.length c1):=(blk_cell hbox 1).trans rfl;have HX3:=zqm hbox;clear hbox hb hbox_g hg_g hy0 hy1 HX2 HB2)|(go_at_call 133;(with_reducible refine(impl_turned.calls k _ _ U (turnL U) _ ?s1 ?s2 HTurn.out).mono ?_);(case s1=>exact Kd.C_below HR0.out HB3.out);(case s2=>assumption);rintro e w4 ⟨vo,rfl,ho,hb⟩;have HB4:=zqm (below_step HB3.out hb);have HG4:=zqm (blk_below HG3.out hb);have hbox:=blk_below HX3.out hb;have hq0:w4.cell? ⟨gb,0,none⟩=some (.slice A0 U.length c0):=(blk_cell hbox 0).trans rfl;have hq1:w4.cell? ⟨gb,1,none⟩=some (.slice A1 N.length c1):=(blk_cell hbox 1).trans rfl;have HX4:=zqm hbox;obtain⟨Ao,co,rfl⟩:=Kd.S_slice ho;have HOv:=zqm ((Kd.S_reads' ho).2.1);have hlt_:=blk_lt HG3.out;have HOr:=zqm (show Kd.R (Kd.slice 3 (Kd.int .i64)) 24 w4 w.heap.size (fun k_=>(k_≠g∧some k_≠(Value.slice none 0 0).ownBlock)∧some k_≠(Value.slice none 0 0).ownBlock) (.slice Ao (turnL U).length co) (turnL U) from Kd.R_mono (Kd.R_lower (Kd.R_bound (Kd.S_R ho)) (below_size HB3.out)) (fun k_ hk=>⟨⟨by have:=hk.2.1;omega,by simp [Value.ownBlock]⟩,by simp [Value.ownBlock]⟩));clear hbox hb hz0 hz1 HX3 HB3 HG3 ho hlt_))
 go_loopg [40] (U.length+1) (fun kq v40 W=> ∃(a:Nat) (vA vO:Value),v40= .int .i64 a∧Aside0 (a+kq=U.length+1)∧Aside0 (a≤U.length)∧Aside0 (W.heap[g]? =some (.cells #[.slice A0 U.length c0,vA,vO,.slice A1 N.length c1,.int .i64 (0),.int .i64 (0)] 74 (0,0)))∧Aside0 (Kd.R (Kd.slice 3 (Kd.int .i64)) 24 W w.heap.size (fun k_=>True∧some k_≠vO.ownBlock) vA (tabT U.length (mI U) a))∧Aside0 (Kd.R (Kd.slice 3 (Kd.int .i64)) 24 W w.heap.size (fun k_=>True∧some k_≠vA.ownBlock) vO (tabT U.length (jI U) a))∧Aside0 (W.heap[gb]? =some (.cells #[.slice A0 U.length c0,.slice A1 N.length c1] 26 (0,0)))∧Aside0 (Kd.R (Kd.slice 3 (Kd.int .i64)) 24 W w.heap.size (fun k_=>(k_≠g∧some k_≠vO.ownBlock)∧some k_≠vA.ownBlock) (.slice Ao (turnL U).length co) (turnL U))∧Aside0 (Below w.heap.size w W))
 case atStart=>exact⟨0,.slice none 0 0,.slice none 0 0,rfl,⟨by omega⟩,⟨by omega⟩,⟨HG4.out⟩,⟨Kd.R_nil _ _ _ _ _⟩,⟨Kd.R_nil _ _ _ _ _⟩,⟨HX4.out⟩,⟨HOr.out⟩,⟨HB4.out⟩⟩
 case round=>
  clear HG4 HX4 HB4 HOr hq0 hq1
  obtain⟨a,vA,vO,rfl,HK,HK2,HG,HA,HO,HX,HOr,HB⟩:=hrel
  cases gk with
  |zero=>exact absurd HK.out (by have:=HK2.out;omega)
  |succ kn=>
  have hq0:wr.cell? ⟨gb,0,none⟩=some (.slice A0 U.length c0):=(blk_cell HX.out 0).trans rfl
  have hq1:wr.cell? ⟨gb,1,none⟩=some (.slice A1 N.length c1):=(blk_cell HX.out 1).trans rfl
  by_cases hlt:a<U.length
  ·have hlt':decide (a<U.length)=true:=decide_eq_true hlt
   have HLT:=zqm hlt
   clear hlt
   go_wp2_with (first|((with_reducible refine gate_dst (N:=43) rfl ?_);refine Kd.R_lit (Kd.int .i64) _ 3 ?hg (N:=43) ?hd (xs:=([]:List Int)) (inner:= []) (ok:=fun _=>True) (okp:=fun _=>True) ?hr ?hp (fun _ hk=>hk) trivial (Below.refl _ _) (Nat.le_refl _) (by simp) ?_;(case hd=>rfl);(case hg=>rfl);(case hr=> exact zq17);(case hp=>exact(Reps.none _ _));intro va wa ho hb hg_ hnew_;clear hg_;have HBa:=zqm hb;have HVa:=zqm ho;have hr0:wa.cell? ⟨gb,0,none⟩=some (.slice A0 U.length c0):=(blk_cell (blk_below HX.out hb) 0).trans rfl;clear ho hb hnew_)|((with_reducible refine gate_dst (N:=44) rfl ?_);refine Kd.R_lit (Kd.int .i64) _ 3 ?hg (N:=44) ?hd (xs:=([]:List Int)) (inner:= []) (ok:=fun _=>True) (okp:=fun _=>True) ?hr ?hp (fun _ hk=>hk) trivial (Below.refl _ _) (Nat.le_refl _) (by simp) ?_;(case hd=>rfl);(case hg=>rfl);(case hr=> exact zq17);(case hp=>exact(Reps.none _ _));intro vb wb ho hb hg_ hnew_;clear hg_;have HBi:=zqm (below_step HBa.out hb);have hr1:wb.cell? ⟨gb,0,none⟩=some (.slice A0 U.length c0):=(blk_cell (blk_below HX.out HBi.out) 0).trans rfl;have HVO:=zqm (Kd.R_mono (Kd.R_lower (Kd.R_newR ho HVa.out) (below_size HBa.out)) (fun k_ hk=>hk));have HVA:=zqm (Kd.R_mono (Kd.R_elder HVa.out ho hb) (fun k_ hk=>hk));clear ho hb hnew_ HVa HBa hr0))
   obtain⟨wo,rfl⟩: ∃wo:World,wo=wr:=⟨_,rfl⟩
   have HOC:=zqm (Kd.R_reads' HOr.out).2.2
   clear hr1 hq0 hq1
   go_loopg [6,7,48] (U.length+1) (fun kj v6 v7 v48 W=> ∃(b:Nat),v48= .int .i64 b∧Aside0 (b+kj=U.length+1)∧Aside0 (b≤U.length)∧Aside0 (Kd.R (Kd.int .i64) 3 W wo.heap.size (fun k_=>True∧some k_≠v7.ownBlock) v6 (rowT (mI U) a b))∧Aside0 (Kd.R (Kd.int .i64) 3 W wo.heap.size (fun k_=>True∧some k_≠v6.ownBlock) v7 (rowT (jI U) a b))∧Aside0 (Below wo.heap.size wo W))
   case atStart=>exact⟨0,rfl,⟨by omega⟩,⟨by omega⟩,⟨HVA.out⟩,⟨HVO.out⟩,⟨HBi.out⟩⟩
   case round=>
    clear HVA HVO HBi
    obtain⟨b,rfl,HKj,HKj2,HVA,HVO,HBi⟩:=hrel
    cases gk with
    |zero=>exact absurd HKj.out (by have:=HKj2.out;omega)
    |succ kj=>
    have hs0:wr.cell? ⟨gb,0,none⟩=some (.slice A0 U.length c0):=(blk_cell (blk_below HX.out HBi.out) 0).trans rfl
    by_cases hltb:b<U.length
    ·have hltb':decide (b<U.length)=true:=decide_eq_true hltb
     have HLTb:=zqm hltb
     clear hltb
     have HM1:=zqm (HF.out.meet HLB.out a b HLT.out HLTb.out)
     have HM2:=zqm (HF.out.join HLB.out a b HLT.out HLTb.out)
     go_wp2_with (first|(go_at_call 134;(first|(with_reducible refine(impl_meet.calls k _ _ U a b (mI U a b) _ ?s1 ?s2 HM1.out).mono ?_)|(with_reducible refine(impl_meet.calls k _ _ (turnL U) a b (jI U a b) _ ?s1 ?s2 HM2.out).mono ?_));(case s1=>(repeat(first|exact Kd.C_below HR0.out (below_step HB.out HBi.out)|exact Kd.C_below HOC.out HBi.out|exact Kd.C_below HR0.out (below_step HB.out HBj.out)|exact Kd.C_below HOC.out HBj.out|refine Kd.C_alloc ?_ _|refine Kd.C_drewN ?_ _)));(case s2=>first|assumption|exact HOv.out);rintro e w' ⟨rfl,⟨nd,rfl⟩⟩)|(at_builtin;refine Kd.R_append (Kd.int .i64) (w0:=wo) wo.heap.size rfl (.tmp 51) (.tmp 57) 24 3 (.int .i64 0) 8 rfl Try.underlying24 infoInt rfl (by decide) (by omega) u6 (rowT (mI U) a b) (mI U a b) [.int .i64 ((mI U a b))] (fun k_=>True∧some k_≠(u7:Value).ownBlock) (fun _=>False) rfl rfl ?aP (fun _ hk=>hk.elim) ?aF ?aO ?aB ?aS ?aL ?_;(case aP=>exact rfl);(case aF=>exact fun k_ hk=>⟨trivial,Kd.fresh_ok (Kd.R_drewN HVO.out _) k_ hk⟩);(case aO=>exact Kd.R_drewN HVA.out _);(case aB=>exact pw_below_drewN HBi.out _);(case aS=>exact below_size (pw_below_drewN HBi.out _));(case aL=>have:=HLTb.out;have:=HSM.out;rw [rowT_length];omega);intro va2 w5 ho hb hg hat;rw [← rowT_succ] at ho;have HBj:=zqm hb;have HVA2:=zqm ho;have HVO2:=zqm (Kd.R_after (Kd.R_drewN HVO.out _) hg hat);have hs1:w5.cell? ⟨gb,0,none⟩=some (.slice A0 U.length c0):=(blk_cell (blk_below HX.out HBj.out) 0).trans rfl;clear ho hb hg hat HVA HVO HBi hs0)|(at_builtin;refine Kd.R_append (Kd.int .i64) (w0:=wo) wo.heap.size rfl (.tmp 59) (.tmp 64) 24 3 (.int .i64 0) 8 rfl Try.underlying24 infoInt rfl (by decide) (by omega) u7 (rowT (jI U) a b) (jI U a b) [.int .i64 ((jI U a b))] (fun k_=>True∧some k_≠(va2:Value).ownBlock) (fun _=>False) rfl rfl ?aP (fun _ hk=>hk.elim) ?aF ?aO ?aB ?aS ?aL ?_;(case aP=>exact rfl);(case aF=>exact fun k_ hk=>⟨trivial,Kd.fresh_ok (Kd.R_drewN HVA2.out _) k_ hk⟩);(case aO=>exact Kd.R_drewN HVO2.out _);(case aB=>exact pw_below_drewN HBj.out _);(case aS=>exact below_size (pw_below_drewN HBj.out _));(case aL=>have:=HLTb.out;have:=HSM.out;rw [rowT_length];omega);intro vo2 w6 ho hb hg hat;rw [← rowT_succ] at ho;have HBk:=zqm hb;have HVO3:=zqm ho;have HVA3:=zqm (Kd.R_after (Kd.R_drewN HVA2.out _) hg hat);clear ho hb hg hat HVA2 HVO2 HBj hs1))
     go_roundg kj
     case measure=>omega
     case rel=>exact⟨b+1,by rw [wrap_small (by omega) (by have:=HLTb.out;have:=HSM.out;omega)];go_num,⟨by have:=HKj.out;omega⟩,⟨by have:=HLTb.out;omega⟩,⟨HVA3.out⟩,⟨HVO3.out⟩,⟨HBk.out⟩⟩
    ·have hltb':decide (b<U.length)=false:=decide_eq_false hltb
     obtain rfl:b=U.length:=by have:=HKj2.out;omega
     clear hltb
     obtain⟨AA,cA,rfl⟩:=Kd.R_slice HA.out
     obtain⟨AO,cO,rfl⟩:=Kd.R_slice HO.out
     obtain⟨Aa,ca,rfl⟩:=Kd.R_slice HVA.out
     obtain⟨Ab,cb,rfl⟩:=Kd.R_slice HVO.out
     have HrA:=zqm (show Kd.R (Kd.int .i64) 3 wr w.heap.size (fun k_=>some k_≠(Value.slice AO (tabT U.length (jI U) a).length cO).ownBlock∧some k_≠(Value.slice AA (tabT U.length (mI U) a).length cA).ownBlock) (.slice Aa (rowT (mI U) a U.length).length ca) (rowT (mI U) a U.length) from Kd.R_mono (Kd.R_lower (Kd.R_newR (Kd.R_newR HVA.out HA.out) HO.out) (below_size HB.out)) (fun k_ hk=>⟨hk.2,hk.1.2⟩))
     have HrO:=zqm (show Kd.R (Kd.int .i64) 3 wr w.heap.size (fun k_=>some k_≠(Value.slice AO (tabT U.length (jI U) a).length cO).ownBlock∧some k_≠(Value.slice AA (tabT U.length (mI U) a).length cA).ownBlock) (.slice Ab (rowT (jI U) a U.length).length cb) (rowT (jI U) a U.length) from Kd.R_mono (Kd.R_lower (Kd.R_newR (Kd.R_newR HVO.out HA.out) HO.out) (below_size HB.out)) (fun k_ hk=>⟨hk.2,hk.1.2⟩))
     have HAr:=zqm (Kd.R_below HA.out HBi.out)
     have HOr2:=zqm (Kd.R_below HO.out HBi.out)
     have HVr:=zqm (Kd.R_below HOr.out HBi.out)
     have HBr:=zqm (below_step HB.out HBi.out)
     have HXr:=zqm (blk_below HX.out HBi.out)
     have hG:=blk_below HG.out HBi.out
     have hg1:wr.cell? ⟨g,1,none⟩=some (.slice AA (tabT U.length (mI U) a).length cA):=(blk_cell hG 1).trans rfl
     have hg2:wr.cell? ⟨g,2,none⟩=some (.slice AO (tabT U.length (jI U) a).length cO):=(blk_cell hG 2).trans rfl
     have HGr:=zqm hG
     have ha11:a<12:=by have:=HLT.out;have:=HSM.out;omega
     clear hG HVA HVO hs0 HA HO HOr HB HX HG HOC
     go_wp2_with fail
     refine start_ (n:=22) (S:=(fun w'=>w'.cell? ⟨g,1,none⟩=some (.slice AA (tabT U.length (mI U) a).length cA)∧w'.cell? ⟨g,2,none⟩=some (.slice AO (tabT U.length (jI U) a).length cO))) (ds:= [18,21]) (zqb 22 0) zqk rfl rfl ⟨hg1,hg2⟩ (fun hHeld=>?_)
     refine with_tabW impl_told.tab15 impl_told.bits15 (fun HT_ HW_=>?_)
     generalize hwd:wr.drew=wd at hHeld ⊢
     have HWD:=zqm hwd;clear hwd
     replace HrA:=zqm (HWD.out ▸ (Kd.R_drew HrA.out))
     replace HrO:=zqm (HWD.out ▸ (Kd.R_drew HrO.out))
     replace HAr:=zqm (HWD.out ▸ (Kd.R_drew HAr.out))
     replace HOr2:=zqm (HWD.out ▸ (Kd.R_drew HOr2.out))
     replace HVr:=zqm (HWD.out ▸ (Kd.R_drew HVr.out))
     replace HBr:=zqm (HWD.out ▸ (below_drew HBr.out))
     replace HXr:=zqm (HWD.out ▸ (blk_drew HXr.out))
     replace HGr:=zqm (HWD.out ▸ (blk_drew HGr.out))
     refine zqp 0 67 (zqb 22 1) HT_ ?_
     refine zqp 1 68 (zqb 22 3) HT_ ?_
     refine zqp 2 69 (zqb 22 7) HT_ ?_
     refine zqp 3 70 (zqb 22 15) HT_ ?_
     refine zqp 4 71 (zqb 22 31) HT_ ?_
     refine zqp 6 73 (zqb 22 95) HT_ ?_
     refine zqp 9 76 (zqb 22 607) HT_ ?_
     refine zqp 10 77 (zqb 22 1631) HT_ ?_
     refine zqp 11 78 (zqb 22 3679) HT_ ?_
     refine zqp 13 80 (zqb 22 11871) HT_ ?_
     refine zqw 5 72 (zqb 22 11903) HT_ HW_ hHeld ?_
     refine zqw 12 79 (zqb 22 15999) HT_ HW_ hHeld ?_
     refine join_ (σ:=Nat × Nat × Option Addr × Nat × Option Addr × Nat) 6 (zqb 22 65535) (fun s=> [(74,.slice (some ⟨s.1,0,none⟩) 1 1),(75,.slice s.2.2.1 (tabT U.length (mI U) (a+1)).length s.2.2.2.1),(81,.slice (some ⟨s.2.1,0,none⟩) 1 1),(82,.slice s.2.2.2.2.1 (tabT U.length (jI U) (a+1)).length s.2.2.2.2.2)]) (fun s W=>W.heap[g]? =some (.cells #[.slice A0 U.length c0,.slice AA (tabT U.length (mI U) a).length cA,.slice AO (tabT U.length (jI U) a).length cO,.slice A1 N.length c1,.int .i64 (0),.int .i64 (0)] 74 (0,0))∧W.heap[gb]? =some (.cells #[.slice A0 U.length c0,.slice A1 N.length c1] 26 (0,0))∧Kd.R (Kd.slice 3 (Kd.int .i64)) 24 W w.heap.size (fun k_=>True∧some k_≠(Value.slice s.2.2.2.2.1 (tabT U.length (jI U) (a+1)).length s.2.2.2.2.2).ownBlock) (.slice s.2.2.1 (tabT U.length (mI U) (a+1)).length s.2.2.2.1) (tabT U.length (mI U) (a+1))∧Kd.R (Kd.slice 3 (Kd.int .i64)) 24 W w.heap.size (fun k_=>True∧some k_≠(Value.slice s.2.2.1 (tabT U.length (mI U) (a+1)).length s.2.2.2.1).ownBlock) (.slice s.2.2.2.2.1 (tabT U.length (jI U) (a+1)).length s.2.2.2.2.2) (tabT U.length (jI U) (a+1))∧Kd.R (Kd.slice 3 (Kd.int .i64)) 24 W w.heap.size (fun k_=>(k_≠g∧some k_≠(Value.slice s.2.2.1 (tabT U.length (mI U) (a+1)).length s.2.2.2.1).ownBlock)∧some k_≠(Value.slice s.2.2.2.2.1 (tabT U.length (jI U) (a+1)).length s.2.2.2.2.2).ownBlock) (.slice Ao (turnL U).length co) (turnL U)∧Below w.heap.size w W) ?cont (fun hC=>?_)
     rotate_left
     refine two_ (i:=7) (j:=14) (Ni:=some 74) (Nj:=some 81) (zqb 22 16127) (zqb 22 32383) rfl rfl rfl rfl zqk (by decide) (by decide) (fun K hK=>?_) (fun K hK=>?_)
     ·skip
      refine event_step (w1:=World.alloc (wd) (.cells #[.slice Aa (rowT (mI U) a U.length).length ca] 24)) (v:= .slice (some ⟨wd.heap.size,0,none⟩) 1 1) (by rfl) ?hr1 ?_
      case hr1=>first|(go_simp;done)|(go_simp;rfl)
      refine hK.out _ _ ⟨(blk_cell (blk_alloc HGr.out _) 1).trans rfl,(blk_cell (blk_alloc HGr.out _) 2).trans rfl⟩ (fun hHeld1=>?_)
      clear hK K
      (try simp only [Act.put,List.setIfInBounds_toArray,List.set_cons_zero,List.set_cons_succ])
      refine two_ (i:=8) (j:=14) (Ni:=some 75) (Nj:=some 81) (zqb 22 16383) (zqb 22 32511) rfl rfl rfl rfl zqk (by decide) (by decide) (fun K hK=>?_) (fun K hK=>?_)
      ·skip
       refine Kd.R_append_rows_step (Kd.slice 3 (Kd.int .i64)) (Rr:=fun x_ cs_=>x_=rowT (mI U) a U.length∧cs_= [.slice Aa (rowT (mI U) a U.length).length ca]) (w0:=w) w.heap.size (by rfl) (.tmp 72) (.tmp 74) 23 24 (.slice none 0 0) 24 rfl Try.underlying23 infoRow rfl (by decide) (by omega) (.slice AA (tabT U.length (mI U) a).length cA) (tabT U.length (mI U) a) [rowT (mI U) a U.length] _ 1 1 (fun k_=>True∧some k_≠(.slice AO (tabT U.length (jI U) a).length cO:Value).ownBlock) (fun k_=>some k_≠(.slice AO (tabT U.length (jI U) a).length cO:Value).ownBlock∧some k_≠(.slice AA (tabT U.length (mI U) a).length cA:Value).ownBlock) rfl rfl zq233 (reads_one zq159) ?aK2 (fun k_ hk=>⟨⟨trivial,hk.1⟩,hk.2⟩) ?aF2 zq72 (below_size zq72) (by rw [tabT_length];omega) ?_
       case aK2=>rintro x_ cs_ ⟨rfl,rfl⟩;exact⟨_,rfl,zq237⟩
       case aF2=>exact fun k_ hk=>⟨trivial,Kd.fresh_ok zq181 k_ hk⟩
       intro v7 w7 ho hb hg hat
       rw [← tabT_succ] at ho
       obtain⟨A7,c7,rfl⟩:=Kd.R_slice ho
       have HB7:=zqm hb
       have HA7:=zqm ho
       have HO7:=zqm (Kd.R_after zq181 hg hat)
       have HrO7:=zqm (Kd.R_after zq238 hg hat)
       have HV7:=zqm (Kd.R_after zq236 hg hat)
       have hg0:=Kd.R_lt HAr.out
       have HG7:=zqm (blk_grown (g:=g) (o:= .cells #[.slice A0 U.length c0,.slice AA (tabT U.length (mI U) a).length cA,.slice AO (tabT U.length (jI U) a).length cO,.slice A1 N.length c1,.int .i64 (0),.int .i64 (0)] 74 (0,0)) zq225 hg (Kd.R_ne HAr.out HGr.out (by decide)))
       have HX7:=zqm (blk_grown (g:=gb) (o:= .cells #[.slice A0 U.length c0,.slice A1 N.length c1] 26 (0,0)) zq227 hg (Kd.R_ne HAr.out HXr.out (by decide)))
       clear ho hb hg hat hg0
       refine hK.out _ _ ⟨(blk_cell HG7.out 1).trans rfl,(blk_cell HG7.out 2).trans rfl⟩ (fun hHeld7=>?_)
       clear hK K
       (try simp only [Act.put,List.setIfInBounds_toArray,List.set_cons_zero,List.set_cons_succ])
       refine one_ (i:=14) (N:=some 81) (zqb 22 32767) rfl rfl (one_of HT_.out zqk) (by decide) (fun K hK=>?_)
       refine event_step (w1:=World.alloc (w7) (.cells #[.slice Ab (rowT (jI U) a U.length).length cb] 24)) (v:= .slice (some ⟨w7.heap.size,0,none⟩) 1 1) (by rfl) ?hr3 ?_
       case hr3=>first|(go_simp;done)|(go_simp;rfl)
       refine hK.out _ _ ⟨(blk_cell (blk_alloc HG7.out _) 1).trans rfl,(blk_cell (blk_alloc HG7.out _) 2).trans rfl⟩ (fun hHeld3=>?_)
       clear hK K
       (try simp only [Act.put,List.setIfInBounds_toArray,List.set_cons_zero,List.set_cons_succ])
       refine one_ (i:=15) (N:=some 82) (zqb 22 65535) rfl rfl (one_of HT_.out zqk) (by decide) (fun K hK=>?_)
       refine Kd.R_append_rows_step (Kd.slice 3 (Kd.int .i64)) (Rr:=fun x_ cs_=>x_=rowT (jI U) a U.length∧cs_= [.slice Ab (rowT (jI U) a U.length).length cb]) (w0:=w) w.heap.size (by rfl) (.tmp 79) (.tmp 81) 23 24 (.slice none 0 0) 24 rfl Try.underlying23 infoRow rfl (by decide) (by omega) (.slice AO (tabT U.length (jI U) a).length cO) (tabT U.length (jI U) a) [rowT (jI U) a U.length] _ 1 1 (fun k_=>True∧some k_≠(.slice A7 (tabT U.length (mI U) (a+1)).length c7:Value).ownBlock) (fun k_=>some k_≠(.slice AO (tabT U.length (jI U) a).length cO:Value).ownBlock∧some k_≠(.slice A7 (tabT U.length (mI U) (a+1)).length c7:Value).ownBlock) rfl rfl zq234 (reads_one zq159) ?aK4 (fun k_ hk=>⟨⟨trivial,hk.2⟩,hk.1⟩) ?aF4 zq72 (below_size zq72) (by rw [tabT_length];omega) ?_
       case aK4=>rintro x_ cs_ ⟨rfl,rfl⟩;exact⟨_,rfl,zq230⟩
       case aF4=>exact fun k_ hk=>⟨trivial,Kd.fresh_ok zq185 k_ hk⟩
       intro v8 w8 ho hb hg hat
       rw [← tabT_succ] at ho
       obtain⟨A8,c8,rfl⟩:=Kd.R_slice ho
       have HB8:=zqm hb
       have HO8:=zqm ho
       have HA8:=zqm (Kd.R_after zq185 hg hat)
       have HV8:=zqm (Kd.R_after (Kd.R_mono (ok':=fun k_=>(k_≠g∧some k_≠(Value.slice A7 (tabT U.length (mI U) (a+1)).length c7).ownBlock)∧some k_≠(Value.slice AO (tabT U.length (jI U) a).length cO).ownBlock) zq235 (fun k_ (hk:(k_≠g∧some k_≠(Value.slice AO (tabT U.length (jI U) a).length cO).ownBlock)∧some k_≠(Value.slice A7 (tabT U.length (mI U) (a+1)).length c7).ownBlock)=>⟨⟨hk.1.1,hk.2⟩,hk.1.2⟩)) hg hat)
       have HG8:=zqm (blk_grown (g:=g) (o:= .cells #[.slice A0 U.length c0,.slice AA (tabT U.length (mI U) a).length cA,.slice AO (tabT U.length (jI U) a).length cO,.slice A1 N.length c1,.int .i64 (0),.int .i64 (0)] 74 (0,0)) zq224 hg (Kd.R_ne HO7.out HG7.out (by decide)))
       have HX8:=zqm (blk_grown (g:=gb) (o:= .cells #[.slice A0 U.length c0,.slice A1 N.length c1] 26 (0,0)) zq226 hg (Kd.R_ne HO7.out HX7.out (by decide)))
       clear ho hb hg hat
       refine hK.out _ _ ⟨(blk_cell HG8.out 1).trans rfl,(blk_cell HG8.out 2).trans rfl⟩ (fun hHeld8=>?_)
       clear hK K
       (try simp only [Act.put,List.setIfInBounds_toArray,List.set_cons_zero,List.set_cons_succ])
       exact hC ⟨wd.heap.size,w7.heap.size,A7,c7,A8,c8⟩ w8 ⟨HG8.out,HX8.out,HA8.out,HO8.out,HV8.out,HB8.out⟩
      ·skip
       refine event_step (w1:=World.alloc (World.alloc wd (.cells #[.slice Aa (rowT (mI U) a U.length).length ca] 24)) (.cells #[.slice Ab (rowT (jI U) a U.length).length cb] 24)) (v:= .slice (some ⟨wd.heap.size+1,0,none⟩) 1 1) (by rfl) ?hr5 ?_
       case hr5=>first|(go_simp;done)|(go_simp;rfl)
       refine hK.out _ _ ⟨(blk_cell (blk_alloc (blk_alloc HGr.out _) _) 1).trans rfl,(blk_cell (blk_alloc (blk_alloc HGr.out _) _) 2).trans rfl⟩ (fun hHeld2=>?_)
       clear hK K
       (try simp only [Act.put,List.setIfInBounds_toArray,List.set_cons_zero,List.set_cons_succ])
       refine one_ (i:=8) (N:=some 75) (zqb 22 32767) rfl rfl (one_of HT_.out zqk) (by decide) (fun K hK=>?_)
       refine Kd.R_append_rows_step (Kd.slice 3 (Kd.int .i64)) (Rr:=fun x_ cs_=>x_=rowT (mI U) a U.length∧cs_= [.slice Aa (rowT (mI U) a U.length).length ca]) (w0:=w) w.heap.size (by rfl) (.tmp 72) (.tmp 74) 23 24 (.slice none 0 0) 24 rfl Try.underlying23 infoRow rfl (by decide) (by omega) (.slice AA (tabT U.length (mI U) a).length cA) (tabT U.length (mI U) a) [rowT (mI U) a U.length] _ 1 1 (fun k_=>True∧some k_≠(.slice AO (tabT U.length (jI U) a).length cO:Value).ownBlock) (fun k_=>some k_≠(.slice AO (tabT U.length (jI U) a).length cO:Value).ownBlock∧some k_≠(.slice AA (tabT U.length (mI U) a).length cA:Value).ownBlock) rfl rfl zq233 (reads_one zq159) ?aK6 (fun k_ hk=>⟨⟨trivial,hk.1⟩,hk.2⟩) ?aF6 zq72 (below_size zq72) (by rw [tabT_length];omega) ?_
       case aK6=>rintro x_ cs_ ⟨rfl,rfl⟩;exact⟨_,rfl,zq237⟩
       case aF6=>exact fun k_ hk=>⟨trivial,Kd.fresh_ok zq181 k_ hk⟩
       intro v7 w7 ho hb hg hat
       rw [← tabT_succ] at ho
       obtain⟨A7,c7,rfl⟩:=Kd.R_slice ho
       have HB7:=zqm hb
       have HA7:=zqm ho
       have HO7:=zqm (Kd.R_after zq181 hg hat)
       have HrO7:=zqm (Kd.R_after zq238 hg hat)
       have HV7:=zqm (Kd.R_after zq236 hg hat)
       have hg0:=Kd.R_lt HAr.out
       have HG7:=zqm (blk_grown (g:=g) (o:= .cells #[.slice A0 U.length c0,.slice AA (tabT U.length (mI U) a).length cA,.slice AO (tabT U.length (jI U) a).length cO,.slice A1 N.length c1,.int .i64 (0),.int .i64 (0)] 74 (0,0)) zq225 hg (Kd.R_ne HAr.out HGr.out (by decide)))
       have HX7:=zqm (blk_grown (g:=gb) (o:= .cells #[.slice A0 U.length c0,.slice A1 N.length c1] 26 (0,0)) zq227 hg (Kd.R_ne HAr.out HXr.out (by decide)))
       have hcy:w7.cell? ⟨wd.heap.size+1,0,none⟩=some (.slice Ab (rowT (jI U) a U.length).length cb):=grown_cell hg (by first|(go_simp;done)|(simp;done)) (by intro e_;have:=hg0 _ e_.symm;simp at this;omega)
       clear ho hb hg hat hg0
       refine hK.out _ _ ⟨(blk_cell HG7.out 1).trans rfl,(blk_cell HG7.out 2).trans rfl⟩ (fun hHeld7=>?_)
       clear hK K
       (try simp only [Act.put,List.setIfInBounds_toArray,List.set_cons_zero,List.set_cons_succ])
       refine one_ (i:=15) (N:=some 82) (zqb 22 65535) rfl rfl (one_of HT_.out zqk) (by decide) (fun K hK=>?_)
       refine Kd.R_append_rows_step (Kd.slice 3 (Kd.int .i64)) (Rr:=fun x_ cs_=>x_=rowT (jI U) a U.length∧cs_= [.slice Ab (rowT (jI U) a U.length).length cb]) (w0:=w) w.heap.size (by rfl) (.tmp 79) (.tmp 81) 23 24 (.slice none 0 0) 24 rfl Try.underlying23 infoRow rfl (by decide) (by omega) (.slice AO (tabT U.length (jI U) a).length cO) (tabT U.length (jI U) a) [rowT (jI U) a U.length] _ 1 1 (fun k_=>True∧some k_≠(.slice A7 (tabT U.length (mI U) (a+1)).length c7:Value).ownBlock) (fun k_=>some k_≠(.slice AO (tabT U.length (jI U) a).length cO:Value).ownBlock∧some k_≠(.slice A7 (tabT U.length (mI U) (a+1)).length c7:Value).ownBlock) rfl rfl zq234 (reads_one zq159) ?aK7 (fun k_ hk=>⟨⟨trivial,hk.2⟩,hk.1⟩) ?aF7 zq72 (below_size zq72) (by rw [tabT_length];omega) ?_
       case aK7=>rintro x_ cs_ ⟨rfl,rfl⟩;exact⟨_,rfl,zq230⟩
       case aF7=>exact fun k_ hk=>⟨trivial,Kd.fresh_ok zq185 k_ hk⟩
       intro v8 w8 ho hb hg hat
       rw [← tabT_succ] at ho
       obtain⟨A8,c8,rfl⟩:=Kd.R_slice ho
       have HB8:=zqm hb
       have HO8:=zqm ho
       have HA8:=zqm (Kd.R_after zq185 hg hat)
       have HV8:=zqm (Kd.R_after (Kd.R_mono (ok':=fun k_=>(k_≠g∧some k_≠(Value.slice A7 (tabT U.length (mI U) (a+1)).length c7).ownBlock)∧some k_≠(Value.slice AO (tabT U.length (jI U) a).length cO).ownBlock) zq235 (fun k_ (hk:(k_≠g∧some k_≠(Value.slice AO (tabT U.length (jI U) a).length cO).ownBlock)∧some k_≠(Value.slice A7 (tabT U.length (mI U) (a+1)).length c7).ownBlock)=>⟨⟨hk.1.1,hk.2⟩,hk.1.2⟩)) hg hat)
       have HG8:=zqm (blk_grown (g:=g) (o:= .cells #[.slice A0 U.length c0,.slice AA (tabT U.length (mI U) a).length cA,.slice AO (tabT U.length (jI U) a).length cO,.slice A1 N.length c1,.int .i64 (0),.int .i64 (0)] 74 (0,0)) zq224 hg (Kd.R_ne HO7.out HG7.out (by decide)))
       have HX8:=zqm (blk_grown (g:=gb) (o:= .cells #[.slice A0 U.length c0,.slice A1 N.length c1] 26 (0,0)) zq226 hg (Kd.R_ne HO7.out HX7.out (by decide)))
       clear ho hb hg hat
       refine hK.out _ _ ⟨(blk_cell HG8.out 1).trans rfl,(blk_cell HG8.out 2).trans rfl⟩ (fun hHeld8=>?_)
       clear hK K
       (try simp only [Act.put,List.setIfInBounds_toArray,List.set_cons_zero,List.set_cons_succ])
       exact hC ⟨wd.heap.size,wd.heap.size+1,A7,c7,A8,c8⟩ w8 ⟨HG8.out,HX8.out,HA8.out,HO8.out,HV8.out,HB8.out⟩
     ·skip
      refine event_step (w1:=World.alloc (wd) (.cells #[.slice Ab (rowT (jI U) a U.length).length cb] 24)) (v:= .slice (some ⟨wd.heap.size,0,none⟩) 1 1) (by rfl) ?hr8 ?_
      case hr8=>first|(go_simp;done)|(go_simp;rfl)
      refine hK.out _ _ ⟨(blk_cell (blk_alloc HGr.out _) 1).trans rfl,(blk_cell (blk_alloc HGr.out _) 2).trans rfl⟩ (fun hHeld1=>?_)
      clear hK K
      (try simp only [Act.put,List.setIfInBounds_toArray,List.set_cons_zero,List.set_cons_succ])
      refine one_ (i:=7) (N:=some 74) (zqb 22 32511) rfl rfl (one_of HT_.out zqk) (by decide) (fun K hK=>?_)
      refine event_step (w1:=World.alloc (World.alloc wd (.cells #[.slice Ab (rowT (jI U) a U.length).length cb] 24)) (.cells #[.slice Aa (rowT (mI U) a U.length).length ca] 24)) (v:= .slice (some ⟨wd.heap.size+1,0,none⟩) 1 1) (by rfl) ?hr9 ?_
      case hr9=>first|(go_simp;done)|(go_simp;rfl)
      refine hK.out _ _ ⟨(blk_cell (blk_alloc (blk_alloc HGr.out _) _) 1).trans rfl,(blk_cell (blk_alloc (blk_alloc HGr.out _) _) 2).trans rfl⟩ (fun hHeld2=>?_)
      clear hK K
      (try simp only [Act.put,List.setIfInBounds_toArray,List.set_cons_zero,List.set_cons_succ])
      refine one_ (i:=8) (N:=some 75) (zqb 22 32767) rfl rfl (one_of HT_.out zqk) (by decide) (fun K hK=>?_)
      refine Kd.R_append_rows_step (Kd.slice 3 (Kd.int .i64)) (Rr:=fun x_ cs_=>x_=rowT (mI U) a U.length∧cs_= [.slice Aa (rowT (mI U) a U.length).length ca]) (w0:=w) w.heap.size (by rfl) (.tmp 72) (.tmp 74) 23 24 (.slice none 0 0) 24 rfl Try.underlying23 infoRow rfl (by decide) (by omega) (.slice AA (tabT U.length (mI U) a).length cA) (tabT U.length (mI U) a) [rowT (mI U) a U.length] _ 1 1 (fun k_=>True∧some k_≠(.slice AO (tabT U.length (jI U) a).length cO:Value).ownBlock) (fun k_=>some k_≠(.slice AO (tabT U.length (jI U) a).length cO:Value).ownBlock∧some k_≠(.slice AA (tabT U.length (mI U) a).length cA:Value).ownBlock) rfl rfl zq233 (reads_one zq159) ?aK10 (fun k_ hk=>⟨⟨trivial,hk.1⟩,hk.2⟩) ?aF10 zq72 (below_size zq72) (by rw [tabT_length];omega) ?_
      case aK10=>rintro x_ cs_ ⟨rfl,rfl⟩;exact⟨_,rfl,zq237⟩
      case aF10=>exact fun k_ hk=>⟨trivial,Kd.fresh_ok zq181 k_ hk⟩
      intro v7 w7 ho hb hg hat
      rw [← tabT_succ] at ho
      obtain⟨A7,c7,rfl⟩:=Kd.R_slice ho
      have HB7:=zqm hb
      have HA7:=zqm ho
      have HO7:=zqm (Kd.R_after zq181 hg hat)
      have HrO7:=zqm (Kd.R_after zq238 hg hat)
      have HV7:=zqm (Kd.R_after zq236 hg hat)
      have hg0:=Kd.R_lt HAr.out
      have HG7:=zqm (blk_grown (g:=g) (o:= .cells #[.slice A0 U.length c0,.slice AA (tabT U.length (mI U) a).length cA,.slice AO (tabT U.length (jI U) a).length cO,.slice A1 N.length c1,.int .i64 (0),.int .i64 (0)] 74 (0,0)) zq225 hg (Kd.R_ne HAr.out HGr.out (by decide)))
      have HX7:=zqm (blk_grown (g:=gb) (o:= .cells #[.slice A0 U.length c0,.slice A1 N.length c1] 26 (0,0)) zq227 hg (Kd.R_ne HAr.out HXr.out (by decide)))
      have hcy:w7.cell? ⟨wd.heap.size,0,none⟩=some (.slice Ab (rowT (jI U) a U.length).length cb):=grown_cell hg (by first|(go_simp;done)|(simp;done)) (by intro e_;have:=hg0 _ e_.symm;simp at this)
      clear ho hb hg hat hg0
      refine hK.out _ _ ⟨(blk_cell HG7.out 1).trans rfl,(blk_cell HG7.out 2).trans rfl⟩ (fun hHeld7=>?_)
      clear hK K
      (try simp only [Act.put,List.setIfInBounds_toArray,List.set_cons_zero,List.set_cons_succ])
      refine one_ (i:=15) (N:=some 82) (zqb 22 65535) rfl rfl (one_of HT_.out zqk) (by decide) (fun K hK=>?_)
      refine Kd.R_append_rows_step (Kd.slice 3 (Kd.int .i64)) (Rr:=fun x_ cs_=>x_=rowT (jI U) a U.length∧cs_= [.slice Ab (rowT (jI U) a U.length).length cb]) (w0:=w) w.heap.size (by rfl) (.tmp 79) (.tmp 81) 23 24 (.slice none 0 0) 24 rfl Try.underlying23 infoRow rfl (by decide) (by omega) (.slice AO (tabT U.length (jI U) a).length cO) (tabT U.length (jI U) a) [rowT (jI U) a U.length] _ 1 1 (fun k_=>True∧some k_≠(.slice A7 (tabT U.length (mI U) (a+1)).length c7:Value).ownBlock) (fun k_=>some k_≠(.slice AO (tabT U.length (jI U) a).length cO:Value).ownBlock∧some k_≠(.slice A7 (tabT U.length (mI U) (a+1)).length c7:Value).ownBlock) rfl rfl zq234 (reads_one zq159) ?aK11 (fun k_ hk=>⟨⟨trivial,hk.2⟩,hk.1⟩) ?aF11 zq72 (below_size zq72) (by rw [tabT_length];omega) ?_
      case aK11=>rintro x_ cs_ ⟨rfl,rfl⟩;exact⟨_,rfl,zq230⟩
      case aF11=>exact fun k_ hk=>⟨trivial,Kd.fresh_ok zq185 k_ hk⟩
      intro v8 w8 ho hb hg hat
      rw [← tabT_succ] at ho
      obtain⟨A8,c8,rfl⟩:=Kd.R_slice ho
      have HB8:=zqm hb
      have HO8:=zqm ho
      have HA8:=zqm (Kd.R_after zq185 hg hat)
      have HV8:=zqm (Kd.R_after (Kd.R_mono (ok':=fun k_=>(k_≠g∧some k_≠(Value.slice A7 (tabT U.length (mI U) (a+1)).length c7).ownBlock)∧some k_≠(Value.slice AO (tabT U.length (jI U) a).length cO).ownBlock) zq235 (fun k_ (hk:(k_≠g∧some k_≠(Value.slice AO (tabT U.length (jI U) a).length cO).ownBlock)∧some k_≠(Value.slice A7 (tabT U.length (mI U) (a+1)).length c7).ownBlock)=>⟨⟨hk.1.1,hk.2⟩,hk.1.2⟩)) hg hat)
      have HG8:=zqm (blk_grown (g:=g) (o:= .cells #[.slice A0 U.length c0,.slice AA (tabT U.length (mI U) a).length cA,.slice AO (tabT U.length (jI U) a).length cO,.slice A1 N.length c1,.int .i64 (0),.int .i64 (0)] 74 (0,0)) zq224 hg (Kd.R_ne HO7.out HG7.out (by decide)))
      have HX8:=zqm (blk_grown (g:=gb) (o:= .cells #[.slice A0 U.length c0,.slice A1 N.length c1] 26 (0,0)) zq226 hg (Kd.R_ne HO7.out HX7.out (by decide)))
      clear ho hb hg hat
      refine hK.out _ _ ⟨(blk_cell HG8.out 1).trans rfl,(blk_cell HG8.out 2).trans rfl⟩ (fun hHeld8=>?_)
      clear hK K
      (try simp only [Act.put,List.setIfInBounds_toArray,List.set_cons_zero,List.set_cons_succ])
      exact hC ⟨wd.heap.size+1,wd.heap.size,A7,c7,A8,c8⟩ w8 ⟨HG8.out,HX8.out,HA8.out,HO8.out,HV8.out,HB8.out⟩
     case cont=>
      rintro ⟨x74,x81,A7,c7,A8,c8⟩ w8 ⟨hG8,hX8,hA8,hO8,hV8,hB8⟩
      refine norm_ (by simp only [putAll,Act.put,List.setIfInBounds_toArray,List.set_cons_zero,List.set_cons_succ];rfl) ?_
      have HG8:=zqm hG8;clear hG8
      have HX8:=zqm hX8;clear hX8
      have HA8:=zqm hA8;clear hA8
      have HO8:=zqm hO8;clear hO8
      have HV8:=zqm hV8;clear hV8
      have HB8:=zqm hB8;clear hB8
      clear HGr HXr HAr HOr2 HVr HBr HrA HrO hHeld hg1 hg2
      refine zqp 16 83 (zqb 22 131071) HT_ ?_
      refine zqp 17 84 (zqb 22 262143) HT_ ?_
      have hs81:w8.cell? ⟨g,1,none⟩=some (.slice AA (tabT U.length (mI U) a).length cA):=(blk_cell HG8.out 1).trans rfl
      have hf81:=blk_frozen HG8.out 1
      refine last_ (i:=18) (N:=none) (zqb 22 524287) rfl rfl (one_of HT_.out zqk) (by decide) (fun K hK=>?_)
      refine skip_ (w1:=w8.setCell ⟨g,1,none⟩ (.slice A7 (tabT U.length (mI U) (a+1)).length c7)) (by rfl) rfl ?_ ?_
      ·go_simp
      refine hK.out _ _ ?_
      clear hK K
      have HG9:=zqm (show (w8.setCell ⟨g,1,none⟩ (.slice A7 (tabT U.length (mI U) (a+1)).length c7)).heap[g]? =some (.cells #[.slice A0 U.length c0,.slice A7 (tabT U.length (mI U) (a+1)).length c7,.slice AO (tabT U.length (jI U) a).length cO,.slice A1 N.length c1,.int .i64 (0),.int .i64 (0)] 74 (0,0)) from blk_put HG8.out 1 _ rfl)
      have HA9:=zqm (Kd.R_set HA8.out HG8.out (by decide) 1 (.slice A7 (tabT U.length (mI U) (a+1)).length c7))
      have HO9:=zqm (Kd.R_set HO8.out HG8.out (by decide) 1 (.slice A7 (tabT U.length (mI U) (a+1)).length c7))
      have HV9:=zqm (Kd.R_far (p:=⟨g,1,none⟩) HV8.out (fun k_ hk=>hk.1.1) (.slice A7 (tabT U.length (mI U) (a+1)).length c7))
      have HX9:=zqm (blk_far HX8.out (p:=⟨g,1,none⟩) HNE.out (.slice A7 (tabT U.length (mI U) (a+1)).length c7))
      have HB9:=zqm (below_set (j:=1) (v:= .slice A7 (tabT U.length (mI U) (a+1)).length c7) HB8.out HGE.out)
      generalize w8.setCell ⟨g,1,none⟩ (.slice A7 (tabT U.length (mI U) (a+1)).length c7)=w9 at HG9 HA9 HO9 HV9 HX9 HB9 ⊢
      clear hs81 hf81 HG8 HA8 HO8 HV8 HX8 HB8
      have hs92:w9.cell? ⟨g,2,none⟩=some (.slice AO (tabT U.length (jI U) a).length cO):=(blk_cell HG9.out 2).trans rfl
      have hf92:=blk_frozen HG9.out 2
      refine zqp 19 85 (zqb 22 1048575) HT_ ?_
      refine zqp 20 86 (zqb 22 2097151) HT_ ?_
      refine last_ (i:=21) (N:=none) (zqb 22 4194303) rfl rfl (one_of HT_.out zqk) (by decide) (fun K hK=>?_)
      refine skip_ (w1:=w9.setCell ⟨g,2,none⟩ (.slice A8 (tabT U.length (jI U) (a+1)).length c8)) (by rfl) rfl ?_ ?_
      ·go_simp
      refine hK.out _ _ ?_
      clear hK K
      have HG10:=zqm (show (w9.setCell ⟨g,2,none⟩ (.slice A8 (tabT U.length (jI U) (a+1)).length c8)).heap[g]? =some (.cells #[.slice A0 U.length c0,.slice A7 (tabT U.length (mI U) (a+1)).length c7,.slice A8 (tabT U.length (jI U) (a+1)).length c8,.slice A1 N.length c1,.int .i64 (0),.int .i64 (0)] 74 (0,0)) from blk_put HG9.out 2 _ rfl)
      have HA10:=zqm (Kd.R_set HA9.out HG9.out (by decide) 2 (.slice A8 (tabT U.length (jI U) (a+1)).length c8))
      have HO10:=zqm (Kd.R_set HO9.out HG9.out (by decide) 2 (.slice A8 (tabT U.length (jI U) (a+1)).length c8))
      have HV10:=zqm (Kd.R_far (p:=⟨g,2,none⟩) HV9.out (fun k_ hk=>hk.1.1) (.slice A8 (tabT U.length (jI U) (a+1)).length c8))
      have HX10:=zqm (blk_far HX9.out (p:=⟨g,2,none⟩) HNE.out (.slice A8 (tabT U.length (jI U) (a+1)).length c8))
      have HB10:=zqm (below_set (j:=2) (v:= .slice A8 (tabT U.length (jI U) (a+1)).length c8) HB9.out HGE.out)
      generalize w9.setCell ⟨g,2,none⟩ (.slice A8 (tabT U.length (jI U) (a+1)).length c8)=w10 at HG10 HA10 HO10 HV10 HX10 HB10 ⊢
      clear hs92 hf92 HG9 HA9 HO9 HV9 HX9 HB9
      refine done_ (done_of HT_.out zqk) ?_
      go_wp2
      go_roundg kn
      case measure=>omega
      case rel=>exact⟨a+1,_,_,by first|go_num|(rw [wrap_small (by omega) (by omega)];go_num),⟨by have:=HK.out;omega⟩,⟨by have:=HLT.out;omega⟩,HG10,HA10,HO10,HX10,⟨Kd.R_mono HV10.out (fun k_ hk=>⟨⟨hk.1.1,hk.2⟩,hk.1.2⟩)⟩,HB10⟩
  ·obtain rfl:a=U.length:=by have:=HK2.out;omega
   clear hlt
   obtain⟨AA,cA,eA⟩:=Kd.R_slice HA.out
   obtain⟨AO,cO,eO⟩:=Kd.R_slice HO.out
   rw [tabT_length] at eA eO
   subst eA eO
   have hlt':decide (U.length<U.length)=false:=by simp
   have hg4:wr.cell? ⟨g,4,none⟩=some (.int .i64 0):=(blk_cell HG.out 4).trans rfl
   have hf4:=blk_frozen HG.out 4
   have hnb:gb≠g:=HNE.out
   have hnc:g≠gb:=Ne.symm HNE.out
   have HLE:=zqm (HF.out.least HLB.out)
   go_wp2_with ((go_at_call 85;(with_reducible refine(impl_LeastOf.calls k _ _ U (optI (leastO U)) (leastO U).isSome _ ?s1 ?s2 HLE.out).mono ?_);(case s1=> exact zq61);(case s2=>assumption);rintro e w' ⟨rfl,⟨nd,rfl⟩⟩))
   go_loopg [100] (N.length+1) (fun kq v100 W=> ∃(a:Nat),v100= .int .i64 a∧Aside0 (a+kq=N.length+1)∧Aside0 (a≤N.length)∧Aside0 (W.heap[g]? =some (.cells #[.slice A0 U.length c0,.slice AA U.length cA,.slice AO U.length cO,.slice A1 N.length c1,.int .i64 (optI (leastO U)),.int .i64 (0)] 74 (0,0)))∧Aside0 (Kd.R (Kd.slice 3 (Kd.int .i64)) 24 W w.heap.size (fun _=>True) (.slice AA U.length cA) (tabI U.length (mI U)))∧Aside0 (Kd.R (Kd.slice 3 (Kd.int .i64)) 24 W w.heap.size (fun _=>True) (.slice AO U.length cO) (tabI U.length (jI U)))∧Aside0 (U.length≤cA∧U.length≤cO)∧Aside0 (W.heap[gb]? =some (.cells #[.slice A0 U.length c0,.slice A1 N.length c1] 26 (0,0)))∧Aside0 (Below w.heap.size w W)∧Aside0 (∀i,i<a→Ok3 U N i))
   case atStart=>
    refine⟨0,rfl,⟨by omega⟩,⟨by omega⟩,⟨blk_put (blk_drewN HG.out nd) 4 _ rfl⟩,⟨Kd.R_mono (Kd.R_set (Kd.R_drewN HA.out nd) (blk_drewN HG.out nd) (by decide) 4 (.int .i64 (optI (leastO U)))) (fun _ _=>trivial)⟩,⟨Kd.R_mono (Kd.R_set (Kd.R_drewN HO.out nd) (blk_drewN HG.out nd) (by decide) 4 (.int .i64 (optI (leastO U)))) (fun _ _=>trivial)⟩,⟨?_⟩,⟨blk_far (blk_drewN HX.out nd) HNE.out _⟩,⟨below_set (pw_below_drewN HB.out nd) HGE.out⟩,⟨fun i hi=>absurd hi (by omega)⟩⟩
    ·exact⟨by have h_:=(Kd.R_reads HA.out);obtain⟨A_,c_,e_,l_,k_⟩:=h_;rw [tabT_length] at e_ l_;injection e_ with e1 e2 e3;subst e3;exact l_,by have h_:=(Kd.R_reads HO.out);obtain⟨A_,c_,e_,l_,k_⟩:=h_;rw [tabT_length] at e_ l_;injection e_ with e1 e2 e3;subst e3;exact l_⟩
   case round=>
    clear hg4 hf4 hq0 hq1 HA HO HOr HB HX HG
    obtain⟨a,rfl,HK3,HK4,HG,HCA,HCO,HCC,HX,HB,HS⟩:=hrel
    cases gk with
    |zero=>exact absurd HK3.out (by have:=HK4.out;omega)
    |succ kn3=>
    have hq0:wr.cell? ⟨gb,0,none⟩=some (.slice A0 U.length c0):=(blk_cell HX.out 0).trans rfl
    have hq1:wr.cell? ⟨gb,1,none⟩=some (.slice A1 N.length c1):=(blk_cell HX.out 1).trans rfl
    by_cases hlta:a<N.length
    ·have hlta':decide (a<N.length)=true:=decide_eq_true hlta
     have HLT:=zqm hlta
     obtain⟨adN,eN,hNa⟩:=ints_cell HR1.out a (by omega) (by omega)
     subst eN
     replace hNa:=cell_up hNa HB.out rfl
     simp only [Int.toNat_natCast] at hNa
     by_cases c1:0≤at1 N a∧at1 N a<(U.length:Int)
     ·have hA1:=zqm (show impl_isAnswer.f U (at1 N a)=some true by unfold impl_isAnswer.f;rw [if_pos c1.1];simp [c1.2])
      obtain⟨adN',eN',hNb⟩:=ints_cell HR1.out (at1 N a) c1.1 (by have:=HL.out;omega)
      cases eN'
      replace hNb:=cell_up hNb HB.out rfl
      by_cases c2:at1 N (at1 N a).toNat=(a:Int)
      ·have hc2:(at1 N (at1 N a).toNat !=(a:Int))=false:=by rw [c2];simp
       obtain⟨adA,adR,cR,eA,hRa,hRb,hRl⟩:=tab_cell (Kd.R_reads' HCA.out).2.2 (a:Int) (at1 N a) (by omega) (by have:=HL.out;omega) c1.1 c1.2
       subst eA
       simp only [Int.toNat_natCast] at hRa hRb
       have hg1:wr.cell? ⟨g,1,none⟩=some (.slice (some adA) U.length cA):=(blk_cell HG.out 1).trans rfl
       have hg4:wr.cell? ⟨g,4,none⟩=some (.int .i64 (optI (leastO U))):=(blk_cell HG.out 4).trans rfl
       have p1:(0≤at1 N a)=True:=eq_true c1.1
       have p2:(at1 N a<(U.length:Int))=True:=eq_true c1.2
       have p3:(at1 N a<(N.length:Int))=True:=eq_true (by have:=HL.out;omega)
       have p4:(a<N.length)=True:=eq_true hlta
       have p5:(a<U.length)=True:=eq_true (by have:=HL.out;omega)
       have C1:=zqm c1
       have C2:=zqm c2
       clear c1 c2 hlta
       by_cases c3:meetO U a (at1 N a).toNat=leastO U
       ·have hc3:(mI U a (at1 N a).toNat !=optI (leastO U))=false:=by unfold mI;rw [c3];simp
        have C3:=zqm c3
        clear c3
        go_wp2_with fail
        go_quiet ((go_at_call 135;(with_reducible refine(impl_isAnswer.calls _ _ U (at1 N a) true _ ?s1 ?s2 hA1.out).mono ?_);(case s1=> exact zq165);(case s2=>assumption);rintro e w' ⟨rfl,⟨nd,rfl⟩⟩;(try first|exact⟨rfl,_,World.drewN_drewN _ _ _⟩|exact⟨rfl,_,Eq.trans (World.drewN_drewN _ _ _) (congrArg (World.drewN _) (Nat.add_assoc _ _ _))⟩)))
        go_wp2
        go_roundg kn3
        case measure=>omega
        case rel=>exact⟨a+1,by first|go_num|(rw [wrap_small (by omega) (by have:=HLT.out;have:=HSM.out;have:=HL.out;omega)];go_num),⟨by have:=HK3.out;omega⟩,⟨by have:=HLT.out;omega⟩,⟨blk_drewN HG.out _⟩,⟨Kd.R_drewN HCA.out _⟩,⟨Kd.R_drewN HCO.out _⟩,HCC,⟨blk_drewN HX.out _⟩,⟨pw_below_drewN HB.out _⟩,⟨fun i hi=>by
         rcases Nat.lt_or_ge i a with h|h
         ·exact HS.out i h
         ·obtain rfl:i=a:=by omega
          exact⟨C1.out.1,C1.out.2,C2.out,C3.out⟩⟩⟩
       ·have hc3:(mI U a (at1 N a).toNat !=optI (leastO U))=true:=by rw [bne_iff_ne];intro h;exact c3 (optI_inj h)
        have HNO:=zqm (logicB_no3 (U:=U) (N:=N) (a:=a) zq201 (fun h=>c3 h.2.2.2))
        clear c3
        go_wp2_with fail
        go_quiet ((go_at_call 135;(with_reducible refine(impl_isAnswer.calls _ _ U (at1 N a) true _ ?s1 ?s2 hA1.out).mono ?_);(case s1=> exact zq165);(case s2=>assumption);rintro e w' ⟨rfl,⟨nd,rfl⟩⟩;(try first|exact⟨rfl,_,World.drewN_drewN _ _ _⟩|exact⟨rfl,_,Eq.trans (World.drewN_drewN _ _ _) (congrArg (World.drewN _) (Nat.add_assoc _ _ _))⟩)))
        go_wp2
        go_ret
        exact⟨pw_below_drewN HB.out _,.inr ⟨HNO.out,rfl⟩⟩
      ·have hc2:(at1 N (at1 N a).toNat !=(a:Int))=true:=by rw [bne_iff_ne];exact c2
       have p1:(0≤at1 N a)=True:=eq_true c1.1
       have p2:(at1 N a<(U.length:Int))=True:=eq_true c1.2
       have p3:(at1 N a<(N.length:Int))=True:=eq_true (by have:=HL.out;omega)
       have p4:(a<N.length)=True:=eq_true hlta
       have HNO:=zqm (logicB_no3 (U:=U) (N:=N) (a:=a) zq201 (fun h=>c2 h.2.2.1))
       clear c1 c2 hlta
       go_wp2_with fail
       go_quiet ((go_at_call 135;(with_reducible refine(impl_isAnswer.calls _ _ U (at1 N a) true _ ?s1 ?s2 hA1.out).mono ?_);(case s1=> exact zq165);(case s2=>assumption);rintro e w' ⟨rfl,⟨nd,rfl⟩⟩;(try first|exact⟨rfl,_,World.drewN_drewN _ _ _⟩|exact⟨rfl,_,Eq.trans (World.drewN_drewN _ _ _) (congrArg (World.drewN _) (Nat.add_assoc _ _ _))⟩)))
       go_wp2
       go_ret
       exact⟨pw_below_drewN HB.out _,.inr ⟨HNO.out,rfl⟩⟩
     ·have hA1:=zqm (show impl_isAnswer.f U (at1 N a)=some false by
       unfold impl_isAnswer.f
       by_cases h:at1 N a≥0
       ·rw [if_pos h];simp;exact Int.not_lt.1 fun h2=>c1 ⟨h,h2⟩
       ·rw [if_neg h])
      have p4:(a<N.length)=True:=eq_true hlta
      have HNO:=zqm (logicB_no3 (U:=U) (N:=N) (a:=a) zq201 (fun h=>c1 ⟨h.1,h.2.1⟩))
      clear c1 hlta
      go_wp2_with fail
      go_quiet ((go_at_call 135;(with_reducible refine(impl_isAnswer.calls _ _ U (at1 N a) false _ ?s1 ?s2 hA1.out).mono ?_);(case s1=> exact zq165);(case s2=>assumption);rintro e w' ⟨rfl,⟨nd,rfl⟩⟩;(try first|exact⟨rfl,_,World.drewN_drewN _ _ _⟩|exact⟨rfl,_,Eq.trans (World.drewN_drewN _ _ _) (congrArg (World.drewN _) (Nat.add_assoc _ _ _))⟩)))
      go_wp2
      go_ret
      exact⟨pw_below_drewN HB.out _,.inr ⟨HNO.out,rfl⟩⟩
    ·have hlta':decide (a<N.length)=false:=decide_eq_false hlta
     obtain rfl:a=N.length:=by have:=HK4.out;omega
     clear hlta
     have HOrd:=zqm (latticeB_order HLB.out)
     go_wp2_with fail
     go_loopg [140] (U.length+1) (fun kq v140 W=> ∃(a:Nat),v140= .int .i64 a∧Aside0 (a+kq=U.length+1)∧Aside0 (a≤U.length)∧Aside0 (W.heap[g]? =some (.cells #[.slice A0 U.length c0,.slice AA U.length cA,.slice AO U.length cO,.slice A1 N.length c1,.int .i64 (optI (leastO U)),.int .i64 (0)] 74 (0,0)))∧Aside0 (Kd.R (Kd.slice 3 (Kd.int .i64)) 24 W w.heap.size (fun _=>True) (.slice AA U.length cA) (tabI U.length (mI U)))∧Aside0 (Kd.R (Kd.slice 3 (Kd.int .i64)) 24 W w.heap.size (fun _=>True) (.slice AO U.length cO) (tabI U.length (jI U)))∧Aside0 (U.length≤cA∧U.length≤cO)∧Aside0 (W.heap[gb]? =some (.cells #[.slice A0 U.length c0,.slice A1 N.length c1] 26 (0,0)))∧Aside0 (Below w.heap.size w W)∧Aside0 (∀i,i<a→ ∀j,j<U.length→Ok5 U N i j))
     case atStart=>exact⟨0,rfl,⟨by omega⟩,⟨by omega⟩,HG,HCA,HCO,HCC,HX,HB,⟨fun i hi=>absurd hi (by omega)⟩⟩
     case round=>
      clear hq0 hq1 HG HCA HCO HCC HX HB
      obtain⟨a,rfl,HK5,HK6,HG,HCA,HCO,HCC,HX,HB,HT⟩:=hrel
      cases gk with
      |zero=>exact absurd HK5.out (by have:=HK6.out;omega)
      |succ kn4=>
      have hq0:wr.cell? ⟨gb,0,none⟩=some (.slice A0 U.length c0):=(blk_cell HX.out 0).trans rfl
      have hq1:wr.cell? ⟨gb,1,none⟩=some (.slice A1 N.length c1):=(blk_cell HX.out 1).trans rfl
      by_cases hlta:a<U.length
      ·have hlta':decide (a<U.length)=true:=decide_eq_true hlta
       have HLT:=zqm hlta
       have hrow:=HOrd.out.row a hlta
       obtain⟨adU,Ar,cr,eU,hUa,hUl,hUr⟩:=rows_cell HR0.out a (by omega) (by omega)
       subst eU
       simp only [Int.toNat_natCast] at hUa hUl hUr
       rw [hrow] at hUa hUl hUr
       replace hUa:=cell_up hUa HB.out rfl
       have HUr:=zqm (Kd.C_below hUr HB.out)
       have p1:(a<U.length)=True:=eq_true hlta
       clear hlta hrow hUr
       go_wp2_with fail
       obtain⟨wo,rfl⟩: ∃wo:World,wo=wr:=⟨_,rfl⟩
       go_loopg [147] (U.length+1) (fun kj v147 W=> ∃(b m:Nat),v147= .int .i64 b∧Aside0 (b+kj=U.length+1)∧Aside0 (b≤U.length)∧Aside0 (∀j,j<b→Ok5 U N a j)∧W=wo.drewN m)
       case atStart=>exact⟨0,0,rfl,⟨by omega⟩,⟨by omega⟩,⟨fun i hi=>absurd hi (by omega)⟩,rfl⟩
       case round=>
        obtain⟨b,m,rfl,HKj,HKj2,HU5,rfl⟩:=hrel
        cases gk with
        |zero=>exact absurd HKj.out (by have:=HKj2.out;omega)
        |succ kj=>
        by_cases hltb:b<U.length
        ·have hltb':decide (b<U.length)=true:=decide_eq_true hltb
         have HLTb:=zqm hltb
         have p2:(b<U.length)=True:=eq_true hltb
         obtain⟨adR,eR,hRb⟩:=ints_cell HUr.out b (by omega) (by omega)
         subst eR
         simp only [Int.toNat_natCast] at hRb
         have hRb':wo.cell? (adR.add b)=some (.int .i64 (at2 U a b)):=hRb
         clear hRb
         by_cases d1:leB U a b=true
         ·have hd1:(at2 U a b==1)=true:=d1
          obtain⟨q1,q2,_,_⟩:=HS.out a zq201
          obtain⟨q3,q4,_,_⟩:=HS.out b (by have:=HL.out;omega)
          obtain⟨adN,eN,hNa⟩:=ints_cell HR1.out a (by omega) zq201
          subst eN
          obtain⟨adN',eN',hNb⟩:=ints_cell HR1.out b (by omega) (by have:=HL.out;omega)
          cases eN'
          obtain⟨ad1,ad2,cr2,e1,hM1,hM2,hMl⟩:=mat_cell HR0.out HOrd.out.row (at1 N b) (at1 N a) q3 q4 q1 q2
          cases e1
          replace hNa:=cell_up hNa HB.out rfl
          replace hNb:=cell_up hNb HB.out rfl
          replace hM1:=cell_up hM1 HB.out rfl
          replace hM2:=cell_up hM2 HB.out rfl
          simp only [Int.toNat_natCast] at hNa hNb
          have p3:(0≤at1 N a)=True:=eq_true q1
          have p4:(at1 N a<(U.length:Int))=True:=eq_true q2
          have p5:(0≤at1 N b)=True:=eq_true q3
          have p6:(at1 N b<(U.length:Int))=True:=eq_true q4
          have p7:(a<N.length)=True:=eq_true zq201
          have p8:(b<N.length)=True:=eq_true (by have:=HL.out;omega)
          have D1:=zqm d1
          clear q1 q2 q3 q4 hltb d1
          by_cases d2:leB U (at1 N b).toNat (at1 N a).toNat=true
          ·have hd2:(at2 U (at1 N b).toNat (at1 N a).toNat !=1)=false:=by have h_:(at2 U (at1 N b).toNat (at1 N a).toNat==1)=true:=d2;simpa [bne] using h_
           have D2:=zqm d2
           clear d2
           go_wp2_with fail
           go_quiet (fail)
           go_wp2
           go_roundg kj
           case measure=>omega
           case rel=>exact⟨b+1,_,zq212,⟨by have:=HKj.out;omega⟩,⟨by have:=HLTb.out;omega⟩,⟨fun i hi=>by
            rcases Nat.lt_or_ge i b with h|h
            ·exact HU5.out i h
            ·obtain rfl:i=b:=by omega
             exact fun _=>D2.out⟩,rfl⟩
          ·have hd2:(at2 U (at1 N b).toNat (at1 N a).toNat !=1)=true:=by rw [bne_iff_ne];intro h_;exact d2 (by unfold leB;rw [h_];rfl)
           have HNO:=zqm (logicB_no5 (U:=U) (N:=N) (a:=a) (b:=b) HLT.out HLTb.out (fun h=>d2 (h D1.out)))
           clear d2
           go_wp2_with fail
           go_quiet (fail)
           go_wp2
           go_ret
           exact⟨by repeat(first|exact HB.out|apply pw_below_drewN|apply below_drew1),.inr ⟨HNO.out,rfl⟩⟩
         ·have hd1:(at2 U a b==1)=false:=by simpa [leB] using d1
          have D1:=zqm d1
          clear d1 hltb
          go_wp2_with fail
          go_quiet (fail)
          go_wp2
          go_roundg kj
          case measure=>omega
          case rel=>exact⟨b+1,_,zq212,⟨by have:=HKj.out;omega⟩,⟨by have:=HLTb.out;omega⟩,⟨fun i hi=>by
           rcases Nat.lt_or_ge i b with h|h
           ·exact HU5.out i h
           ·obtain rfl:i=b:=by omega
            exact fun h=>absurd h D1.out⟩,rfl⟩
        ·have hltb':decide (b<U.length)=false:=decide_eq_false hltb
         obtain rfl:b=U.length:=by have:=HKj2.out;omega
         clear hltb
         go_wp2_with fail
         go_roundg kn4
         case measure=>omega
         case rel=>exact⟨a+1,zq217,⟨by have:=HK5.out;omega⟩,⟨by have:=HLT.out;omega⟩,⟨blk_drewN HG.out _⟩,⟨Kd.R_drewN HCA.out _⟩,⟨Kd.R_drewN HCO.out _⟩,HCC,⟨blk_drewN HX.out _⟩,⟨pw_below_drewN HB.out _⟩,⟨fun i hi=>by
          rcases Nat.lt_or_ge i a with h|h
          ·exact HT.out i h
          ·obtain rfl:i=a:=by omega
           exact HU5.out⟩⟩
      ·have hlta':decide (a<U.length)=false:=decide_eq_false hlta
       obtain rfl:a=U.length:=by have:=HK6.out;omega
       clear hlta
       have HYES:=zqm (logicB_yes (U:=U) (N:=N) HLB.out HL.out (fun i hi=>HS.out i (by have:=HL.out;omega)) HT.out)
       have HLg:=zqm (logicB_iff.1 HYES.out)
       obtain⟨mno,hmno⟩:=HLg.out.least_some
       have hno:optI (leastO U)=(mno:Int):=by rw [hmno];rfl
       have hmn:mno<U.length:=(findN_some hmno).1
       obtain⟨adN,eN,hNa⟩:=ints_cell HR1.out mno (by omega) (by have:=HL.out;omega)
       subst eN
       replace hNa:=cell_up hNa HB.out rfl
       simp only [Int.toNat_natCast] at hNa
       rw [hno] at HG
       have hg4:wr.cell? ⟨g,4,none⟩=some (.int .i64 (mno:Int)):=(blk_cell HG.out 4).trans rfl
       have hg5:wr.cell? ⟨g,5,none⟩=some (.int .i64 0):=(blk_cell HG.out 5).trans rfl
       have hf5:=blk_frozen HG.out 5
       have p1:(mno<N.length)=True:=eq_true (by have:=HL.out;omega)
       have HNO:=zqm hno
       clear hno hmno hmn
       go_wp2_with fail
       refine start_ (n:=12) (S:=(fun w'=>w'.cell? ⟨gb,1,none⟩=some (.slice (some adN) N.length c1)∧w'.cell? ⟨g,4,none⟩=some (.int .i64 (mno:Int))∧w'.cell? (adN.add mno)=some (.int .i64 (at1 N mno)))) (ds:= [11]) (zqb 12 0) zqk rfl rfl ⟨hq1,hg4,hNa⟩ (fun hHeld=>?_)
       refine with_tabW impl_told.tab34 impl_told.bits34 (fun HT_ HW_=>?_)
       refine zqp 0 175 (zqb 12 1) HT_ ?_
       refine zqp 1 176 (zqb 12 3) HT_ ?_
       refine zqp 3 178 (zqb 12 11) HT_ ?_
       refine zqp 4 179 (zqb 12 27) HT_ ?_
       refine zqp 5 180 (zqb 12 59) HT_ ?_
       refine zqw 2 177 (zqb 12 63) HT_ HW_ hHeld ?_
       refine zqw 6 181 (zqb 12 127) HT_ HW_ hHeld ?_
       refine zqp 7 182 (zqb 12 255) HT_ ?_
       refine zqw 8 183 (zqb 12 511) HT_ HW_ hHeld ?_
       refine zqp 9 184 (zqb 12 1023) HT_ ?_
       refine zqp 10 185 (zqb 12 2047) HT_ ?_
       refine last_ (i:=11) (N:=none) (zqb 12 4095) rfl rfl (one_of HT_.out zqk) (by decide) (fun K hK=>?_)
       refine skip_ (w1:=World.setCell wr.drew ⟨g,5,none⟩ (.int .i64 (at1 N mno))) (by rfl) rfl ?_ ?_
       ·go_simp
       refine hK.out _ _ ?_
       clear hK K
       refine done_ (done_of HT_.out zqk) ?_
       go_wp2
       go_ret
       refine⟨below_set (below_drew1 HB.out) HGE.out,.inl ⟨HYES.out,g,rfl,HGE.out,?_⟩⟩
       unfold AlgOf;rw [HNO.out,Int.toNat_natCast]
       have hb5:Below w.heap.size w (World.setCell wr.drew ⟨g,5,none⟩ (.int .i64 (at1 N mno))):=below_set (below_drew1 HB.out) HGE.out
       have hA5:=(Kd.R_reads' (Kd.R_set (Kd.R_drew HCA.out) (blk_drew HG.out) (by decide) 5 (.int .i64 (at1 N mno)))).2.2
       have hO5:=(Kd.R_reads' (Kd.R_set (Kd.R_drew HCO.out) (blk_drew HG.out) (by decide) 5 (.int .i64 (at1 N mno)))).2.2
       refine⟨_,c0,AA,cA,AO,cO,_,c1,?_,⟨hc0,by rw [tabI_length];exact HCC.out.1,by rw [tabI_length];exact HCC.out.2,hc1⟩,Kd.C_below HR0.out hb5,hA5,hO5,Kd.C_below HR1.out hb5⟩
       rw [tabI_length,tabI_length];exact blk_put (blk_drew HG.out) 5 _ rfl
theorem told_calls (k : Nat) (A0 : Option Addr) (c0 : Nat) (U : List (List Int)) (A1 : Option Addr) (c1 : Nat) (N : List Int) (w : World)
 (hr0:Kd.C (Kd.slice 3 (Kd.int .i64)) w A0 U.length U) (hc0:U.length≤c0) (hr1:Kd.C (Kd.int .i64) w A1 N.length N) (hc1:N.length≤c1) (hF:ToldFacts k U):Calls Try.prog 70 #[.agg #[.slice A0 U.length c0,.slice A1 N.length c1]] w (ToldPost U N w):=by
 cases hlat:latticeB U with
 |false=>
  refine(told_flat k A0 c0 U A1 c1 N w hr0 hc0 hr1 hc1 (hlat ▸ hF.lat)).mono fun e w' h=>⟨h.2,.inr ⟨?_,h.1⟩⟩
  unfold logicB;rw [hlat];rfl
 |true=>
  by_cases hl:N.length=U.length
  ·exact told_walk k A0 c0 U A1 c1 N w hr0 hc0 hr1 hc1 hF hl hlat
  ·refine(told_long k A0 c0 U A1 c1 N w hr0 hc0 hr1 hc1 (hlat ▸ hF.lat) hl).mono fun e w' h=>⟨h.2,.inr ⟨?_,h.1⟩⟩
   rw [Bool.eq_false_iff]
   intro h2
   exact hl (logicB_iff.1 h2).len
section
def In (U : List (List Int)) (a : Int) : Prop := 0 ≤ a ∧ a < (U.length : Int)
def andI (U : List (List Int)) (a b : Int) : Int := mI U a.toNat b.toNat
def orI (U : List (List Int)) (a b : Int) : Int := jI U a.toNat b.toNat
def notI (N : List Int) (a : Int) : Int := at1 N a.toNat
def noI (U : List (List Int)) : Int := optI (leastO U)
def yesI (U : List (List Int)) (N : List Int) : Int := notI N (noI U)
section
variable {U : List (List Int)} {N : List Int} (L : Logic U N)
include L
theorem _root_.Oml.Logic.in_and {a b : Int} (ha : In U a) (hb : In U b) : In U (andI U a b) := by
 obtain⟨m,hm⟩:=Option.isSome_iff_exists.1 (L.meets a.toNat b.toNat (by have:=ha.1;have:=ha.2;omega) (by have:=hb.1;have:=hb.2;omega))
 have:=(findN_some hm).1
 unfold In andI mI;rw [hm];simp only [optI];omega
theorem _root_.Oml.Logic.in_or {a b : Int} (ha : In U a) (hb : In U b) : In U (orI U a b) := by
 obtain⟨m,hm⟩:=Option.isSome_iff_exists.1 (L.joins a.toNat b.toNat (by have:=ha.1;have:=ha.2;omega) (by have:=hb.1;have:=hb.2;omega))
 have:=(findN_some hm).1
 unfold In orI jI;rw [hm];simp only [optI];omega
theorem _root_.Oml.Logic.in_not {a : Int} (ha : In U a) : In U (notI N a) := L.ran a.toNat (by have := ha.1; have := ha.2; omega)
theorem _root_.Oml.Logic.in_no : In U (noI U) := by
 obtain ⟨m, hm⟩ := L.least_some
 have := (findN_some hm).1
 unfold In noI; rw [hm]; simp only [optI]; omega
theorem _root_.Oml.Logic.in_yes : In U (yesI U N) := L.in_not L.in_no
end
structure Adr where
 aU:Addr
 aA:Addr
 aO:Addr
 aN:Addr
 cU:Nat
 cA:Nat
 cO:Nat
 cN:Nat
 rU:Nat→Addr
 rA:Nat→Addr
 rO:Nat→Addr
 qU:Nat→Nat
 qA:Nat→Nat
 qO:Nat→Nat
structure View (W : World) (g : Nat) (U : List (List Int)) (N : List Int) (v : Adr) : Prop where
 blk:W.heap[g]? =some (.cells #[.slice (some v.aU) U.length v.cU,.slice (some v.aA) U.length v.cA,.slice (some v.aO) U.length v.cO,.slice (some v.aN) U.length v.cN,.int .i64 (noI U),.int .i64 (yesI U N)] 74 (0,0))
 len:N.length=U.length
 u: ∀a,In U a→W.cell? (v.aU.add a.toNat)=some (.slice (some (v.rU a.toNat)) U.length (v.qU a.toNat))
 u2: ∀a b,In U a→In U b→W.cell? ((v.rU a.toNat).add b.toNat)=some (.int .i64 (at2 U a.toNat b.toNat))
 m: ∀a,In U a→W.cell? (v.aA.add a.toNat)=some (.slice (some (v.rA a.toNat)) U.length (v.qA a.toNat))
 m2: ∀a b,In U a→In U b→W.cell? ((v.rA a.toNat).add b.toNat)=some (.int .i64 (andI U a b))
 j: ∀a,In U a→W.cell? (v.aO.add a.toNat)=some (.slice (some (v.rO a.toNat)) U.length (v.qO a.toNat))
 j2: ∀a b,In U a→In U b→W.cell? ((v.rO a.toNat).add b.toNat)=some (.int .i64 (orI U a b))
 n: ∀a,In U a→W.cell? (v.aN.add a.toNat)=some (.int .i64 (notI N a))
 capU:U.length≤v.cU
 capR: ∀a,In U a→U.length≤v.qU a.toNat
namespace View
section
variable {W W1 : World} {g : Nat} {U : List (List Int)} {N : List Int} {v : Adr} (h : View W g U N v)
include h
theorem below (hb : Below W.heap.size W W1) : View W1 g U N v where
 blk:=blk_below h.blk hb
 len:=h.len
 u:=fun a ha=>cell_up (h.u a ha) hb rfl
 u2:=fun a b ha hb'=>cell_up (h.u2 a b ha hb') hb rfl
 m:=fun a ha=>cell_up (h.m a ha) hb rfl
 m2:=fun a b ha hb'=>cell_up (h.m2 a b ha hb') hb rfl
 j:=fun a ha=>cell_up (h.j a ha) hb rfl
 j2:=fun a b ha hb'=>cell_up (h.j2 a b ha hb') hb rfl
 n:=fun a ha=>cell_up (h.n a ha) hb rfl
 capU:=h.capU
 capR:=h.capR
theorem f0 : W.cell? ⟨g, 0, none⟩ = some (.slice (some v.aU) U.length v.cU) := (blk_cell h.blk 0).trans rfl
theorem f1 : W.cell? ⟨g, 1, none⟩ = some (.slice (some v.aA) U.length v.cA) := (blk_cell h.blk 1).trans rfl
theorem f2 : W.cell? ⟨g, 2, none⟩ = some (.slice (some v.aO) U.length v.cO) := (blk_cell h.blk 2).trans rfl
theorem f3 : W.cell? ⟨g, 3, none⟩ = some (.slice (some v.aN) U.length v.cN) := (blk_cell h.blk 3).trans rfl
theorem f4 : W.cell? ⟨g, 4, none⟩ = some (.int .i64 (noI U)) := (blk_cell h.blk 4).trans rfl
theorem f5 : W.cell? ⟨g, 5, none⟩ = some (.int .i64 (yesI U N)) := (blk_cell h.blk 5).trans rfl
theorem drewN (n : Nat) : View (W.drewN n) g U N v := h.below (pw_below_drewN (Below.refl _ _) n)
theorem alloc (o : Obj) : View (W.alloc o) g U N v := h.below (below_alloc (Below.refl _ _) o)
end
end View
theorem rows_adr {W : World} {A : Option Addr} {n m : Nat} {xs : List (List Int)} (h : Kd.C (Kd.slice 3 (Kd.int .i64)) W A m xs) (hm : m = n) (hn : 0 < n) (hr : ∀ a, a < n → (xs.getD a []).length = n) :
 ∃(ad:Addr) (r:Nat→Addr) (q:Nat→Nat),A=some ad∧(∀a,a<n→W.cell? (ad.add a)=some (.slice (some (r a)) n (q a)))∧(∀a b,a<n→b<n→W.cell? ((r a).add b)=some (.int .i64 (at2 xs a b)))∧ ∀a,a<n→n≤q a:=by
 subst hm
 obtain⟨ad,_,_,e,_⟩:=mat_cell h hr 0 0 (by omega) (by omega) (by omega) (by omega)
 have key: ∀a:Nat,∃(r:Addr) (q:Nat),a<m→W.cell? (ad.add a)=some (.slice (some r) m q)∧(∀b,b<m→W.cell? (r.add b)=some (.int .i64 (at2 xs a b)))∧m≤q:=by
  intro a
  by_cases ha:a<m
  ·obtain⟨ad1,Ar,cr,e1,hc,hl,hk⟩:=rows_cell h a (by omega) (by omega)
   rw [e] at e1
   injection e1 with e1
   subst e1
   simp only [Int.toNat_natCast] at hc hl hk
   rw [hr a ha] at hc hl hk
   obtain⟨r,e2,_⟩:=ints_cell hk 0 (by omega) (by omega)
   subst e2
   refine⟨r,cr,fun _=>⟨hc,fun b hb=>?_,hl⟩⟩
   obtain⟨r',e3,hc3⟩:=ints_cell hk b (by omega) (by omega)
   cases e3
   simpa [at2,at1] using hc3
  ·exact⟨ad,0,fun h=>absurd h ha⟩
 refine⟨ad,fun a=>Classical.choose (key a),fun a=>Classical.choose (Classical.choose_spec (key a)),e,fun a ha=>?_,fun a b ha hb=>?_,fun a ha=>?_⟩
 ·exact(Classical.choose_spec (Classical.choose_spec (key a)) ha).1
 ·exact(Classical.choose_spec (Classical.choose_spec (key a)) ha).2.1 b hb
 ·exact(Classical.choose_spec (Classical.choose_spec (key a)) ha).2.2
theorem view_of {W : World} {g : Nat} {U : List (List Int)} {N : List Int} (L : Logic U N) (h : AlgOf W g U N) : ∃ v, View W g U N v := by
 obtain⟨A0,c0,A1,c1,A2,c2,A3,c3,h1,hc,k0,k1,k2,k3⟩:=h
 have hn:0<U.length:=L.pos
 rw [tabI_length] at h1 hc k1 k2
 rw [tabI_length,L.len] at h1
 rw [tabI_length,L.len] at hc
 rw [L.len] at k3
 obtain⟨aU,rU,qU,eU,u1,u2,u3⟩:=rows_adr k0 rfl hn L.row
 obtain⟨aA,rA,qA,eA,m1,m2,m3⟩:=rows_adr k1 rfl hn (tabI_row _ _)
 obtain⟨aO,rO,qO,eO,j1,j2,j3⟩:=rows_adr k2 rfl hn (tabI_row _ _)
 obtain⟨aN,eN,_⟩:=ints_cell k3 0 (by omega) (by omega)
 subst eU eA eO eN
 have nat: ∀a,In U a→a.toNat<U.length:=fun a ha=>by have:=ha.1;have:=ha.2;omega
 refine⟨⟨aU,aA,aO,aN,c0,c1,c2,c3,rU,rA,rO,qU,qA,qO⟩,{ blk:=h1,len:=L.len,u:=fun a ha=>u1 _ (nat a ha),u2:=fun a b ha hb=>u2 _ _ (nat a ha) (nat b hb),m:=fun a ha=>m1 _ (nat a ha),m2:=fun a b ha hb=>?_,j:=fun a ha=>j1 _ (nat a ha),j2:=fun a b ha hb=>?_,n:=fun a ha=>?_,capU:=hc.1,capR:=fun a ha=>u3 _ (nat a ha) }⟩
 ·rw [m2 _ _ (nat a ha) (nat b hb),tabI_at _ _ _ _ (nat a ha) (nat b hb)];rfl
 ·rw [j2 _ _ (nat a ha) (nat b hb),tabI_at _ _ _ _ (nat a ha) (nat b hb)];rfl
 ·obtain⟨ad,e,hcell⟩:=ints_cell k3 a ha.1 ha.2
  cases e
  exact hcell
theorem told_y (k : Nat) (A0 : Option Addr) (c0 : Nat) (U : List (List Int)) (A1 : Option Addr) (c1 : Nat) (N : List Int) (w : World)
 (hr0:Kd.C (Kd.slice 3 (Kd.int .i64)) w A0 U.length U) (hc0:U.length≤c0) (hr1:Kd.C (Kd.int .i64) w A1 N.length N) (hc1:N.length≤c1) (hF:ToldFacts k U) (hL:logicB U N=true):
 Calls Try.prog 70 #[.agg #[.slice A0 U.length c0,.slice A1 N.length c1]] w fun e w'=> ∃g v,e= .returned (.pointer (some ⟨g,0,none⟩))∧View w' g U N v∧w.heap.size≤g∧Below w.heap.size w w':=by
 refine(told_calls k A0 c0 U A1 c1 N w hr0 hc0 hr1 hc1 hF).mono fun e w' h=>?_
 obtain⟨hb,h|h⟩:=h
 ·obtain⟨_,g,he,hg,ha⟩:=h
  obtain⟨v,hv⟩:=view_of (logicB_iff.1 hL) ha
  exact⟨g,v,he,hv,hg,hb⟩
 ·rw [hL] at h;exact absurd h.1 (by simp)
theorem told_n (k : Nat) (A0 : Option Addr) (c0 : Nat) (U : List (List Int)) (A1 : Option Addr) (c1 : Nat) (N : List Int) (w : World)
 (hr0:Kd.C (Kd.slice 3 (Kd.int .i64)) w A0 U.length U) (hc0:U.length≤c0) (hr1:Kd.C (Kd.int .i64) w A1 N.length N) (hc1:N.length≤c1) (hF:ToldFacts k U) (hL:logicB U N=false):
 Calls Try.prog 70 #[.agg #[.slice A0 U.length c0,.slice A1 N.length c1]] w fun e w'=>e= .returned (.pointer none)∧Below w.heap.size w w':=by
 refine(told_calls k A0 c0 U A1 c1 N w hr0 hc0 hr1 hc1 hF).mono fun e w' h=>?_
 obtain⟨hb,h|h⟩:=h
 ·rw [hL] at h;exact absurd h.1 (by simp)
 ·exact⟨h.2,hb⟩
end
end Go.Proofs.Ytcbjpdaogicibaa.Print
end
