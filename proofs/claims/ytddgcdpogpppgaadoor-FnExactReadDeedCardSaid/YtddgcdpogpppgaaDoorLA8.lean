/- Part 8 of what is common to several claims of this seat: XL. -/
import Derived.Test.YtddgcdpogpppgaaDoorLA7
import Derived.Below
import Derived.Deep.Draws
import Derived.Deep.AppendLies
import Derived.Maps.AppendAt
import Derived.OwnWalk
import Derived.Laws.BytesArg
import Derived.Laws.MakeOwn
import Derived.Laws.OwnMore
import Derived.Deep.OwnRows
import Derived.Tactics
import Derived.Lib.ConvBytes
import Derived.Laws.Slices
import Derived.WalkKit
import Derived.KernelRfl
import Derived.RowKit3
import Derived.Deep.LoopGhost
import Derived.Deep.QuietTactic
import Derived.BigQuiet
import Derived.WideLaws
import Derived.Deep.DeepCutAuto
import Derived.Deep.CutBlock
import Derived.Deep.RegionHeld3
import Derived.Laws.Rows
import Derived.Lib.AppendStr
import Derived.ArgAppend
import Derived.Laws.IdiomCopy
import Derived.RowKit
import Derived.OrdersHeld
import Derived.Laws.BitsLemmas
import Derived.Laws.StructEq
import Derived.Test.YtddgcdpogpppgaaDoorProg
import Derived.Lib.ItoaNum
import Derived.Lib.Strings
import Derived.Shelf.Utf8.RuneCount
import Derived.Shelf.Strconv.Atoi
import Derived.Shelf.Strconv.Itoa0
import Derived.Shelf.Strconv.Itoa1
import Derived.Shelf.LaysM
import Derived.Shelf.Strconv.Itoa2
import Derived.Shelf.Strconv.Itoa3
import Derived.Shelf.Strconv.AtoiErrFast
import Derived.Shelf.Strconv.ParseIntEmpty
import Derived.Shelf.Strconv.AtoiFail
import Derived.Shelf.Strconv.Clone
import Derived.Shelf.Strconv.SyntaxError
import Derived.Shelf.LaysC
import Derived.Shelf.Strconv.ToError
import Derived.Shelf.Strconv.Lower
import Derived.Shelf.Strconv.ParseUint10
import Derived.Shelf.Strconv.ParseUint10Empty
import Derived.Shelf.Strconv.ParseUint10Any
import Derived.Shelf.Strconv.ParseInt10
import Derived.Shelf.Strconv.AtoiLong
import Derived.Shelf.Strconv.AtoiInnerAll
import Derived.Shelf.Strconv.RangeError
import Derived.Shelf.Strconv.ToErrorRange
import Derived.Shelf.Strconv.AtoiAll
import Derived.Shelf.Strconv.ErrVarAll
import Derived.Shelf.Strings.Search1
import Derived.Shelf.Strings.Search2
import Derived.Shelf.Strings.Search3
import Derived.Shelf.Strings.Cut
import Derived.Shelf.Strings.Count
import Derived.Shelf.Strings.Shaped
import Derived.Shelf.Strings.Split
import Derived.Shelf.Strings.SplitShaped
import Derived.Shelf.Unicode.Decode
import Derived.Shelf.Strings.RuneCount
import Derived.Shelf.Strings.Explode
import Derived.Shelf.Unicode.DecodeSlow
import Derived.Shelf.Unicode.DecodeAny
import Derived.Shelf.Slices.Turned
import Derived.ProofKit
import Derived.OpenShut
import Derived.LaidMore
import Derived.Lay
import Derived.ChangeVars
import Derived.Lib.LaidU8
import Derived.Lib.SmallJoins
import Derived.Deep.DeepHandedRow
import Derived.Lib.SplitLaws
import Derived.Lib.SlicesS
import Derived.Lib.AtoiAll
import Derived.Lib.IndexBytes
import Derived.LaidLaws
set_option linter.all false
section
namespace Go.Proofs.YtddgcdpogpppgaaDoor.Print
open Go.RowKit Go.Proofs.YtddgcdpogpppgaaDoorW.PrintWords Go.Proofs.YtddgcdpogpppgaaDoorW.PrintLast Go.Proofs.YtddgcdpogpppgaaDoorW.PrintMore
open Oml Go.ChangeShapes Go.WideShapes Go.ChangeAt Go.Joins
theorem err_in {W : World} {l : List (String × DataW Unit)} (h : laidMet Tryd.prog l W) {n nm : String} {d : DataW Unit} {g : Nat} (hg : Tryd.prog.globalNamed n = some g) (ht : (Tryd.prog.globals[g]?).map (·.type) = some 56) (hm : (n, DataW.iface nm d) ∈ l) : ∃ te pe, W.cell? ⟨g, 0, none⟩ = some (.iface te pe) := by
 obtain⟨g2,t,cs,fuel,p,hg2,ht2,hv,hd⟩:=Lib.laidMet.reads h hm
 obtain rfl:=Option.some.inj (hg.symm.trans hg2)
 obtain rfl:=Option.some.inj (ht.symm.trans ht2)
 obtain⟨_,u,v,hcs,_,_⟩:=iface_of_trod Tryd.underlying56 hd
 have hcs':cs= #[.iface u v]:=by cases cs;simp_all
 subst hcs'
 exact⟨u,v,by simpa using World.var?_cell hg hv 0⟩
theorem maxlen_in {W : World} (h : W.ShapedOpen Tryd.prog) : ∃ m, W.cell? ⟨3, 0, none⟩ = some (.int .i64 m) :=
 Go.Proofs.cell_of_shapedOpen_int (zero:= #[.int .i64 0]) (t:=3) h (of_decide_eq_true zqk) zqk rfl zqk zqk Tryd.underlying3
end Go.Proofs.YtddgcdpogpppgaaDoor.Print
end
section
namespace Go.Proofs.YtddgcdpogpppgaaDoor.Print
open Go.RowKit Go.Proofs.YtddgcdpogpppgaaDoorW.PrintWords Go.Proofs.YtddgcdpogpppgaaDoorW.PrintLast Go.Proofs.YtddgcdpogpppgaaDoorW.PrintMore
section
attribute [local go_sem] max2_int min2_int max_two min_two max_three min_three max_four min_four
def laws_eqDeed.f (a0_0 : Int) (a0_1 : Int) (a0_2 : Int) (a1_0 : Int) (a1_1 : Int) (a1_2 : Int) : Option (Bool) := if a0_0 = a1_0 then (if a0_1 = a1_1 then (if a0_2 = a1_2 then (some true) else (some false)) else (some false)) else (some false)
set_option maxHeartbeats 8000000 in
set_option maxRecDepth 100000 in
theorem laws_eqDeed.calls (a0_0 : Int) (a0_1 : Int) (a0_2 : Int) (a1_0 : Int) (a1_1 : Int) (a1_2 : Int) (r : Bool) (w : World) (h : laws_eqDeed.f a0_0 a0_1 a0_2 a1_0 a1_1 a1_2 = some r) :
  Calls Tryd.prog 20 #[.agg #[.int .i64 a0_0, .int .i64 a0_1, .int .i64 a0_2], .agg #[.int .i64 a1_0, .int .i64 a1_1, .int .i64 a1_2]] w fun e w' => e = .returned (.bool r) ∧ Below w.heap.size w w' := by
 have hu25:=Tryd.underlying25;have HB:=zqm (Below.refl w.heap.size w);have H:(if a0_0=a1_0 then(if a0_1=a1_1 then(if a0_2=a1_2 then(some true) else(some false)) else(some false)) else(some false))=some r:=h;clear h
 by_cases c3:a0_0=a1_0
 ·rw [if_pos c3] at H;have b5:(a0_0==a1_0)=true:=beq_iff_eq.mpr c3;have b6:(a0_0 !=a1_0)=false:=bne_eq_false_iff_eq.mpr c3;clear c3
  by_cases c4:a0_1=a1_1
  ·rw [if_pos c4] at H;have b7:(a0_1==a1_1)=true:=beq_iff_eq.mpr c4;have b8:(a0_1 !=a1_1)=false:=bne_eq_false_iff_eq.mpr c4;clear c4
   by_cases c5:a0_2=a1_2
   ·rw [if_pos c5] at H;have b9:(a0_2==a1_2)=true:=beq_iff_eq.mpr c5;have c0:(a0_2 !=a1_2)=false:=bne_eq_false_iff_eq.mpr c5;clear c5;obtain rfl:=Option.some.inj H
    go_enter Tryd.func20,Tryd.ntmps20
    go_wp2_with (first|((with_reducible refine gate_dst (N:=2) rfl ?_);refine box_event ?hg (N:=2) ?hd (cs:= #[.int .i64 a0_0,.int .i64 a0_1,.int .i64 a0_2]) (t:=25) ?hr ?_;(case hd=>rfl);(case hg=>rfl);(case hr=> exact zq4);intro a1 hg w6 hbox hb;have a7:=zqm (below_step zq0 hb);have a0:=zqm (hbox);have b3:=zqm ((by rw [hg];exact(below_size zq0):w.heap.size≤a1));have a4:=zqm ((by rw [hg];exact(below_size zq0):w.heap.size≤a1));clear HB;have HB:=a7;clear a7 hb hbox hg)|((with_reducible refine gate_dst (N:=3) rfl ?_);refine box_event ?hg (N:=3) ?hd (cs:= #[.int .i64 a1_0,.int .i64 a1_1,.int .i64 a1_2]) (t:=25) ?hr ?_;(case hd=>rfl);(case hg=>rfl);(case hr=> exact zq4);intro a2 hg w7 hbox hb;have a7:=zqm (blk_below (g:=a1) (o:= .cells #[.int .i64 a0_0,.int .i64 a0_1,.int .i64 a0_2] 25 (0,0)) (zqe a0.out) hb);have a9:=zqm (below_step zq6 hb);have a3:=zqm (hbox);have b4:=zqm ((by rw [hg];exact(below_size zq6):w.heap.size≤a2));have a8:=zqm ((by rw [hg];exact(below_size zq6):w.heap.size≤a2));have a5:=zqm ((by rw [hg];exact Nat.ne_of_lt (blk_lt (g:=a1) (o:= .cells #[.int .i64 a0_0,.int .i64 a0_1,.int .i64 a0_2] 25 (0,0)) (zqe a0.out)):a1≠a2));have a6:=zqm ((by rw [hg];exact Nat.ne_of_gt (blk_lt (g:=a1) (o:= .cells #[.int .i64 a0_0,.int .i64 a0_1,.int .i64 a0_2] 25 (0,0)) (zqe a0.out)):a2≠a1));clear a0 HB;have a0:=a7;have HB:=a9;clear a7 a9 hb hbox hg;have h8:=a5.out;have h9:=a6.out;have g6:w7.cell? ⟨a1,0,none⟩=some (.int .i64 a0_0):=(blk_cell a0.out 0).trans rfl;have g7:w7.cell? ⟨a1,1,none⟩=some (.int .i64 a0_1):=(blk_cell a0.out 1).trans rfl;have g8:w7.cell? ⟨a1,2,none⟩=some (.int .i64 a0_2):=(blk_cell a0.out 2).trans rfl;have g9:=blk_frozen a0.out 0;have h0:=blk_frozen a0.out 1;have h1:=blk_frozen a0.out 2;have c1:w7.cell? ⟨a2,0,none⟩=some (.int .i64 a1_0):=(blk_cell a3.out 0).trans rfl;have c2:w7.cell? ⟨a2,1,none⟩=some (.int .i64 a1_1):=(blk_cell a3.out 1).trans rfl;have c6:w7.cell? ⟨a2,2,none⟩=some (.int .i64 a1_2):=(blk_cell a3.out 2).trans rfl;have e5:=blk_frozen a3.out 0;have e6:=blk_frozen a3.out 1;have e7:=blk_frozen a3.out 2))
    go_ret
    exact⟨zq7,zq13⟩
   ·rw [if_neg c5] at H;have b9:(a0_2==a1_2)=false:=beq_eq_false_iff_ne.mpr c5;have c0:(a0_2 !=a1_2)=true:=bne_iff_ne.mpr c5;obtain rfl:=Option.some.inj H
    go_enter Tryd.func20,Tryd.ntmps20
    go_wp2_with (first|((with_reducible refine gate_dst (N:=2) rfl ?_);refine box_event ?hg (N:=2) ?hd (cs:= #[.int .i64 a0_0,.int .i64 a0_1,.int .i64 a0_2]) (t:=25) ?hr ?_;(case hd=>rfl);(case hg=>rfl);(case hr=> exact zq4);intro a1 hg i0 hbox hb;have a7:=zqm (below_step zq0 hb);have a0:=zqm (hbox);have b3:=zqm ((by rw [hg];exact(below_size zq0):w.heap.size≤a1));have a4:=zqm ((by rw [hg];exact(below_size zq0):w.heap.size≤a1));clear HB;have HB:=a7;clear a7 hb hbox hg)|((with_reducible refine gate_dst (N:=3) rfl ?_);refine box_event ?hg (N:=3) ?hd (cs:= #[.int .i64 a1_0,.int .i64 a1_1,.int .i64 a1_2]) (t:=25) ?hr ?_;(case hd=>rfl);(case hg=>rfl);(case hr=> exact zq4);intro a2 hg b0 hbox hb;have a7:=zqm (blk_below (g:=a1) (o:= .cells #[.int .i64 a0_0,.int .i64 a0_1,.int .i64 a0_2] 25 (0,0)) (zqe a0.out) hb);have a9:=zqm (below_step zq6 hb);have a3:=zqm (hbox);have b4:=zqm ((by rw [hg];exact(below_size zq6):w.heap.size≤a2));have a8:=zqm ((by rw [hg];exact(below_size zq6):w.heap.size≤a2));have a5:=zqm ((by rw [hg];exact Nat.ne_of_lt (blk_lt (g:=a1) (o:= .cells #[.int .i64 a0_0,.int .i64 a0_1,.int .i64 a0_2] 25 (0,0)) (zqe a0.out)):a1≠a2));have a6:=zqm ((by rw [hg];exact Nat.ne_of_gt (blk_lt (g:=a1) (o:= .cells #[.int .i64 a0_0,.int .i64 a0_1,.int .i64 a0_2] 25 (0,0)) (zqe a0.out)):a2≠a1));clear a0 HB;have a0:=a7;have HB:=a9;clear a7 a9 hb hbox hg;have h2:=a5.out;have h5:=a6.out;have c7:b0.cell? ⟨a1,0,none⟩=some (.int .i64 a0_0):=(blk_cell a0.out 0).trans rfl;have c8:b0.cell? ⟨a1,1,none⟩=some (.int .i64 a0_1):=(blk_cell a0.out 1).trans rfl;have c9:b0.cell? ⟨a1,2,none⟩=some (.int .i64 a0_2):=(blk_cell a0.out 2).trans rfl;have e8:=blk_frozen a0.out 0;have e9:=blk_frozen a0.out 1;have f0:=blk_frozen a0.out 2;have d0:b0.cell? ⟨a2,0,none⟩=some (.int .i64 a1_0):=(blk_cell a3.out 0).trans rfl;have d1:b0.cell? ⟨a2,1,none⟩=some (.int .i64 a1_1):=(blk_cell a3.out 1).trans rfl;have d2:b0.cell? ⟨a2,2,none⟩=some (.int .i64 a1_2):=(blk_cell a3.out 2).trans rfl;have f1:=blk_frozen a3.out 0;have f2:=blk_frozen a3.out 1;have f3:=blk_frozen a3.out 2))
    go_ret
    exact⟨zq7,zq13⟩
  ·rw [if_neg c4] at H;have b7:(a0_1==a1_1)=false:=beq_eq_false_iff_ne.mpr c4;have b8:(a0_1 !=a1_1)=true:=bne_iff_ne.mpr c4;obtain rfl:=Option.some.inj H
   go_enter Tryd.func20,Tryd.ntmps20
   go_wp2_with (first|((with_reducible refine gate_dst (N:=2) rfl ?_);refine box_event ?hg (N:=2) ?hd (cs:= #[.int .i64 a0_0,.int .i64 a0_1,.int .i64 a0_2]) (t:=25) ?hr ?_;(case hd=>rfl);(case hg=>rfl);(case hr=> exact zq4);intro a1 hg i1 hbox hb;have a7:=zqm (below_step zq0 hb);have a0:=zqm (hbox);have b3:=zqm ((by rw [hg];exact(below_size zq0):w.heap.size≤a1));have a4:=zqm ((by rw [hg];exact(below_size zq0):w.heap.size≤a1));clear HB;have HB:=a7;clear a7 hb hbox hg)|((with_reducible refine gate_dst (N:=3) rfl ?_);refine box_event ?hg (N:=3) ?hd (cs:= #[.int .i64 a1_0,.int .i64 a1_1,.int .i64 a1_2]) (t:=25) ?hr ?_;(case hd=>rfl);(case hg=>rfl);(case hr=> exact zq4);intro a2 hg b1 hbox hb;have a7:=zqm (blk_below (g:=a1) (o:= .cells #[.int .i64 a0_0,.int .i64 a0_1,.int .i64 a0_2] 25 (0,0)) (zqe a0.out) hb);have a9:=zqm (below_step zq6 hb);have a3:=zqm (hbox);have b4:=zqm ((by rw [hg];exact(below_size zq6):w.heap.size≤a2));have a8:=zqm ((by rw [hg];exact(below_size zq6):w.heap.size≤a2));have a5:=zqm ((by rw [hg];exact Nat.ne_of_lt (blk_lt (g:=a1) (o:= .cells #[.int .i64 a0_0,.int .i64 a0_1,.int .i64 a0_2] 25 (0,0)) (zqe a0.out)):a1≠a2));have a6:=zqm ((by rw [hg];exact Nat.ne_of_gt (blk_lt (g:=a1) (o:= .cells #[.int .i64 a0_0,.int .i64 a0_1,.int .i64 a0_2] 25 (0,0)) (zqe a0.out)):a2≠a1));clear a0 HB;have a0:=a7;have HB:=a9;clear a7 a9 hb hbox hg;have h3:=a5.out;have h6:=a6.out;have d3:b1.cell? ⟨a1,0,none⟩=some (.int .i64 a0_0):=(blk_cell a0.out 0).trans rfl;have d4:b1.cell? ⟨a1,1,none⟩=some (.int .i64 a0_1):=(blk_cell a0.out 1).trans rfl;have d5:b1.cell? ⟨a1,2,none⟩=some (.int .i64 a0_2):=(blk_cell a0.out 2).trans rfl;have f4:=blk_frozen a0.out 0;have f5:=blk_frozen a0.out 1;have f6:=blk_frozen a0.out 2;have d6:b1.cell? ⟨a2,0,none⟩=some (.int .i64 a1_0):=(blk_cell a3.out 0).trans rfl;have d7:b1.cell? ⟨a2,1,none⟩=some (.int .i64 a1_1):=(blk_cell a3.out 1).trans rfl;have d8:b1.cell? ⟨a2,2,none⟩=some (.int .i64 a1_2):=(blk_cell a3.out 2).trans rfl;have f7:=blk_frozen a3.out 0;have f8:=blk_frozen a3.out 1;have f9:=blk_frozen a3.out 2))
   go_ret
   exact⟨zq7,zq13⟩
 ·rw [if_neg c3] at H;have b5:(a0_0==a1_0)=false:=beq_eq_false_iff_ne.mpr c3;have b6:(a0_0 !=a1_0)=true:=bne_iff_ne.mpr c3;obtain rfl:=Option.some.inj H
  go_enter Tryd.func20,Tryd.ntmps20
  go_wp2_with (first|((with_reducible refine gate_dst (N:=2) rfl ?_);refine box_event ?hg (N:=2) ?hd (cs:= #[.int .i64 a0_0,.int .i64 a0_1,.int .i64 a0_2]) (t:=25) ?hr ?_;(case hd=>rfl);(case hg=>rfl);(case hr=> exact zq4);intro a1 hg i2 hbox hb;have a7:=zqm (below_step zq0 hb);have a0:=zqm (hbox);have b3:=zqm ((by rw [hg];exact(below_size zq0):w.heap.size≤a1));have a4:=zqm ((by rw [hg];exact(below_size zq0):w.heap.size≤a1));clear HB;have HB:=a7;clear a7 hb hbox hg)|((with_reducible refine gate_dst (N:=3) rfl ?_);refine box_event ?hg (N:=3) ?hd (cs:= #[.int .i64 a1_0,.int .i64 a1_1,.int .i64 a1_2]) (t:=25) ?hr ?_;(case hd=>rfl);(case hg=>rfl);(case hr=> exact zq4);intro a2 hg b2 hbox hb;have a7:=zqm (blk_below (g:=a1) (o:= .cells #[.int .i64 a0_0,.int .i64 a0_1,.int .i64 a0_2] 25 (0,0)) (zqe a0.out) hb);have a9:=zqm (below_step zq6 hb);have a3:=zqm (hbox);have b4:=zqm ((by rw [hg];exact(below_size zq6):w.heap.size≤a2));have a8:=zqm ((by rw [hg];exact(below_size zq6):w.heap.size≤a2));have a5:=zqm ((by rw [hg];exact Nat.ne_of_lt (blk_lt (g:=a1) (o:= .cells #[.int .i64 a0_0,.int .i64 a0_1,.int .i64 a0_2] 25 (0,0)) (zqe a0.out)):a1≠a2));have a6:=zqm ((by rw [hg];exact Nat.ne_of_gt (blk_lt (g:=a1) (o:= .cells #[.int .i64 a0_0,.int .i64 a0_1,.int .i64 a0_2] 25 (0,0)) (zqe a0.out)):a2≠a1));clear a0 HB;have a0:=a7;have HB:=a9;clear a7 a9 hb hbox hg;have h4:=a5.out;have h7:=a6.out;have d9:b2.cell? ⟨a1,0,none⟩=some (.int .i64 a0_0):=(blk_cell a0.out 0).trans rfl;have e0:b2.cell? ⟨a1,1,none⟩=some (.int .i64 a0_1):=(blk_cell a0.out 1).trans rfl;have e1:b2.cell? ⟨a1,2,none⟩=some (.int .i64 a0_2):=(blk_cell a0.out 2).trans rfl;have g0:=blk_frozen a0.out 0;have g1:=blk_frozen a0.out 1;have g2:=blk_frozen a0.out 2;have e2:b2.cell? ⟨a2,0,none⟩=some (.int .i64 a1_0):=(blk_cell a3.out 0).trans rfl;have e3:b2.cell? ⟨a2,1,none⟩=some (.int .i64 a1_1):=(blk_cell a3.out 1).trans rfl;have e4:b2.cell? ⟨a2,2,none⟩=some (.int .i64 a1_2):=(blk_cell a3.out 2).trans rfl;have g3:=blk_frozen a3.out 0;have g4:=blk_frozen a3.out 1;have g5:=blk_frozen a3.out 2))
  go_ret
  exact⟨zq7,zq13⟩
end
end Go.Proofs.YtddgcdpogpppgaaDoor.Print
end
section
namespace Go.Proofs.YtddgcdpogpppgaaDoor.Print
open Go.RowKit Go.Proofs.YtddgcdpogpppgaaDoorW.PrintWords Go.Proofs.YtddgcdpogpppgaaDoorW.PrintLast Go.Proofs.YtddgcdpogpppgaaDoorW.PrintMore
open Oml
theorem eqDeed_self (a b c : Int) : laws_eqDeed.f a b c a b c = some true := by
 unfold laws_eqDeed.f
 rw [if_pos rfl, if_pos rfl, if_pos rfl]
set_option maxHeartbeats 4000000 in
set_option maxRecDepth 100000 in
theorem laws_FnExactReadDeed.holds (s : ByteArray) (w : World) (ad : Addr) (cw : Nat) (hW : WordsAt w ad cw) (hE : ErrsAt w) :
 Calls Tryd.prog 5 #[.string s] w fun e w'=>e= .returned (.bool true)∧Below w.heap.size w w':=by
 have hu25:=Tryd.underlying25
 have HW:=zqm hW
 have HE:=zqm hE
 have HB:=zqm (Below.refl w.heap.size w)
 by_cases hl:1048576<s.size
 ·clear hW hE
  have p0:((1048576:Int)<(s.size:Int))=True:=eq_true (by omega)
  have p0':decide ((1048576:Int)<(s.size:Int))=true:=decide_eq_true (by omega)
  have p0n:(1048576<s.size)=True:=eq_true hl
  have p0n':decide (1048576<s.size)=true:=decide_eq_true hl
  clear hl
  go_enter Tryd.func5,Tryd.ntmps5
  go_wp2_with (first|fail)
  go_ret
  exact⟨rfl,zq35⟩
 ·have p0:((1048576:Int)<(s.size:Int))=False:=eq_false (by omega)
  have p0':decide ((1048576:Int)<(s.size:Int))=false:=decide_eq_false (by omega)
  have p0n:(1048576<s.size)=False:=eq_false hl
  have p0n':decide (1048576<s.size)=false:=decide_eq_false hl
  have h1:=spec_ReadDeed.ev s (by omega)
  have hd:=fun w (h1:WordsAt w ad cw) (h2:ErrsAt w)=>read_calls s w ad cw h1 h2 (by omega)
  obtain⟨⟨k,a,b,o⟩,hr⟩: ∃r,r=rdD s:=⟨_,rfl⟩
  rw [← hr] at h1 hd
  obtain⟨K,h1⟩:=h1.rounds
  have H1:=zqm h1
  have HD:=zqm hd
  clear hW hE hl h1 hd hr
  go_enter Tryd.func5,Tryd.ntmps5
  go_wp2_with (first|(go_at_call 18;(with_reducible refine(spec_ReadDeed.calls K s k a b o _ H1.out).mono ?_);rintro e w' ⟨rfl,hb⟩;have n0_:=zqm (below_step HB.out hb);clear HB;have HB:=n0_;clear n0_;clear hb)|((with_reducible refine gate_dst (N:=3) rfl ?_);refine box_event ?hg (N:=3) ?hd (cs:= #[.int .i64 0,.int .i64 0,.int .i64 0]) (t:=25) ?hr ?_;(case hd=>rfl);(case hg=>rfl);(case hr=> exact zq4);intro g3 hg_ wb3 hbox hb;have HBo:=HB;have n0_:=zqm (below_step HB.out hb);clear HB;have HB:=n0_;clear n0_;have HX:=zqm hbox;have HXW:=zqm (show w.heap.size≤g3 from by rw [hg_];exact HBo.out.size);clear HBo hbox hb hg_)|((with_reducible refine gate_store (t:=25) (p:=3) rfl ?_);have hc0_:wb3.cell? ⟨g3,0,none⟩=some (.int .i64 0):=(blk_cell HX.out 0).trans rfl;have hf0_:=blk_frozen HX.out 0;have hc1_:wb3.cell? ⟨g3,1,none⟩=some (.int .i64 0):=(blk_cell HX.out 1).trans rfl;have hf1_:=blk_frozen HX.out 1;have hc2_:wb3.cell? ⟨g3,2,none⟩=some (.int .i64 0):=(blk_cell HX.out 2).trans rfl;have hf2_:=blk_frozen HX.out 2;refine store_event (t:=25) (p:=3) (v:=?vo_3) (w1:=((wb3.setCell ⟨g3,0,none⟩ (.int .i64 k)).setCell ⟨g3,1,none⟩ (.int .i64 a)).setCell ⟨g3,2,none⟩ (.int .i64 b)) ?hg ?ho ?hn ?hr ?_;(case ho=>rfl);(case hg=>rfl);(case hn=>rfl);(case hr=> exact zq4);intro ws3 hw;clear hc0_ hc1_ hc2_ hf0_ hf1_ hf2_;have n0_:=zqm ((by rw [hw];exact below_set (below_set (below_set HB.out HXW.out) HXW.out) HXW.out:Below w.heap.size w ws3));have n1_:=zqm ((by rw [hw];exact blk_put (blk_put (blk_put HX.out 0 _ rfl) 1 _ rfl) 2 _ rfl:ws3.heap[g3]? =some (.cells #[.int .i64 k,.int .i64 a,.int .i64 b] 25 (0,0))));clear HB HX;have HB:=n0_;have HX:=n1_;clear n0_ n1_;clear hw)|(go_at_call 19;(with_reducible refine(HD.out _ (HW.out.below HB.out) (HE.out.below HB.out)).mono ?_);rintro e w' ⟨rfl,hb⟩;have n0_:=zqm (below_step HB.out hb);have n1_:=zqm (blk_below HX.out hb);clear HB HX;have HB:=n0_;have HX:=n1_;clear n0_ n1_;clear hb)|((with_reducible refine gate_dst (N:=5) rfl ?_);refine box_event ?hg (N:=5) ?hd (cs:= #[.int .i64 0,.int .i64 0,.int .i64 0]) (t:=25) ?hr ?_;(case hd=>rfl);(case hg=>rfl);(case hr=> exact zq4);intro g5 hg_ wb5 hbox hb;have HNE:=zqm (show g3≠g5 from by rw [hg_];exact Nat.ne_of_lt (blk_lt HX.out));have HBo:=HB;have n0_:=zqm (below_step HB.out hb);have n1_:=zqm (blk_below HX.out hb);clear HB HX;have HB:=n0_;have HX:=n1_;clear n0_ n1_;have HY:=zqm hbox;have HYW:=zqm (show w.heap.size≤g5 from by rw [hg_];exact HBo.out.size);clear HBo hbox hb hg_)|((with_reducible refine gate_store (t:=25) (p:=5) rfl ?_);have hc0_:wb5.cell? ⟨g5,0,none⟩=some (.int .i64 0):=(blk_cell HY.out 0).trans rfl;have hf0_:=blk_frozen HY.out 0;have hc1_:wb5.cell? ⟨g5,1,none⟩=some (.int .i64 0):=(blk_cell HY.out 1).trans rfl;have hf1_:=blk_frozen HY.out 1;have hc2_:wb5.cell? ⟨g5,2,none⟩=some (.int .i64 0):=(blk_cell HY.out 2).trans rfl;have hf2_:=blk_frozen HY.out 2;refine store_event (t:=25) (p:=5) (v:=?vo_5) (w1:=((wb5.setCell ⟨g5,0,none⟩ (.int .i64 k)).setCell ⟨g5,1,none⟩ (.int .i64 a)).setCell ⟨g5,2,none⟩ (.int .i64 b)) ?hg ?ho ?hn ?hr ?_;(case ho=>rfl);(case hg=>rfl);(case hn=>rfl);(case hr=> exact zq4);intro ws5 hw;clear hc0_ hc1_ hc2_ hf0_ hf1_ hf2_;have n0_:=zqm ((by rw [hw];exact below_set (below_set (below_set HB.out HYW.out) HYW.out) HYW.out:Below w.heap.size w ws5));have n1_:=zqm ((by rw [hw];exact blk_put (blk_put (blk_put HY.out 0 _ rfl) 1 _ rfl) 2 _ rfl:ws5.heap[g5]? =some (.cells #[.int .i64 k,.int .i64 a,.int .i64 b] 25 (0,0))));have n2_:=zqm ((by rw [hw];exact blk_far (blk_far (blk_far HX.out HNE.out _) HNE.out _) HNE.out _:ws5.heap[g3]? =some (.cells #[.int .i64 k,.int .i64 a,.int .i64 b] 25 (0,0))));clear HB HY HX;have HB:=n0_;have HY:=n1_;have HX:=n2_;clear n0_ n1_ n2_;clear hw;have hx0:ws5.cell? ⟨g3,0,none⟩=some (.int .i64 k):=(blk_cell HX.out 0).trans rfl;have hx1:ws5.cell? ⟨g3,1,none⟩=some (.int .i64 a):=(blk_cell HX.out 1).trans rfl;have hx2:ws5.cell? ⟨g3,2,none⟩=some (.int .i64 b):=(blk_cell HX.out 2).trans rfl;have hy0:ws5.cell? ⟨g5,0,none⟩=some (.int .i64 k):=(blk_cell HY.out 0).trans rfl;have hy1:ws5.cell? ⟨g5,1,none⟩=some (.int .i64 a):=(blk_cell HY.out 1).trans rfl;have hy2:ws5.cell? ⟨g5,2,none⟩=some (.int .i64 b):=(blk_cell HY.out 2).trans rfl)|(go_at_call 20;(with_reducible refine(laws_eqDeed.calls k a b k a b true _ (eqDeed_self k a b)).mono ?_);rintro e w' ⟨rfl,hb⟩;clear hx0 hx1 hx2 hy0 hy1 hy2;have n0_:=zqm (below_step HB.out hb);clear HB;have HB:=n0_;clear n0_;clear hb))
  go_ret
  exact⟨rfl,zq35⟩
end Go.Proofs.YtddgcdpogpppgaaDoor.Print
end
