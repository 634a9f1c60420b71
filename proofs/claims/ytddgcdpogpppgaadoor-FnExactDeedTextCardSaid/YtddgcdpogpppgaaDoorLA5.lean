/- Part 5 of what is common to several claims of this seat: DeedTextL. -/
import Derived.Test.YtddgcdpogpppgaaDoorLA4
import Derived.Below
import Derived.Deep.Draws
import Derived.Deep.AppendLies
import Derived.Maps.AppendAt
import Derived.OwnWalk
import Derived.Laws.BytesArg
import Derived.Laws.MakeOwn
import Derived.Laws.OwnMore
import Derived.Deep.OwnRows
import Derived.Tactics
import Derived.Lib.ConvBytes
import Derived.Laws.Slices
import Derived.WalkKit
import Derived.KernelRfl
import Derived.RowKit3
import Derived.Deep.LoopGhost
import Derived.Deep.QuietTactic
import Derived.BigQuiet
import Derived.WideLaws
import Derived.Deep.DeepCutAuto
import Derived.Deep.CutBlock
import Derived.Deep.RegionHeld3
import Derived.Laws.Rows
import Derived.Lib.AppendStr
import Derived.ArgAppend
import Derived.Laws.IdiomCopy
import Derived.RowKit
import Derived.OrdersHeld
import Derived.Laws.BitsLemmas
import Derived.Laws.StructEq
import Derived.Test.YtddgcdpogpppgaaDoorProg
import Derived.Lib.ItoaNum
import Derived.Lib.Strings
import Derived.Shelf.Utf8.RuneCount
import Derived.Shelf.Strconv.Atoi
import Derived.Shelf.Strconv.Itoa0
import Derived.Shelf.Strconv.Itoa1
import Derived.Shelf.LaysM
import Derived.Shelf.Strconv.Itoa2
import Derived.Shelf.Strconv.Itoa3
import Derived.Shelf.Strconv.AtoiErrFast
import Derived.Shelf.Strconv.ParseIntEmpty
import Derived.Shelf.Strconv.AtoiFail
import Derived.Shelf.Strconv.Clone
import Derived.Shelf.Strconv.SyntaxError
import Derived.Shelf.LaysC
import Derived.Shelf.Strconv.ToError
import Derived.Shelf.Strconv.Lower
import Derived.Shelf.Strconv.ParseUint10
import Derived.Shelf.Strconv.ParseUint10Empty
import Derived.Shelf.Strconv.ParseUint10Any
import Derived.Shelf.Strconv.ParseInt10
import Derived.Shelf.Strconv.AtoiLong
import Derived.Shelf.Strconv.AtoiInnerAll
import Derived.Shelf.Strconv.RangeError
import Derived.Shelf.Strconv.ToErrorRange
import Derived.Shelf.Strconv.AtoiAll
import Derived.Shelf.Strconv.ErrVarAll
import Derived.Shelf.Strings.Search1
import Derived.Shelf.Strings.Search2
import Derived.Shelf.Strings.Search3
import Derived.Shelf.Strings.Cut
import Derived.Shelf.Strings.Count
import Derived.Shelf.Strings.Shaped
import Derived.Shelf.Strings.Split
import Derived.Shelf.Strings.SplitShaped
import Derived.Shelf.Unicode.Decode
import Derived.Shelf.Strings.RuneCount
import Derived.Shelf.Strings.Explode
import Derived.Shelf.Unicode.DecodeSlow
import Derived.Shelf.Unicode.DecodeAny
import Derived.Shelf.Slices.Turned
import Derived.ProofKit
import Derived.OpenShut
import Derived.LaidMore
import Derived.Lay
import Derived.ChangeVars
import Derived.Lib.LaidU8
import Derived.Lib.SmallJoins
import Derived.Deep.DeepHandedRow
set_option linter.all false
section
namespace Go.Proofs.YtddgcdpogpppgaaDoor.Print
open Go.RowKit Go.Proofs.YtddgcdpogpppgaaDoorW.PrintWords Go.Proofs.YtddgcdpogpppgaaDoorW.PrintLast Go.Proofs.YtddgcdpogpppgaaDoorW.PrintMore
open Oml Go.ChangeShapes Go.WideShapes Go.ChangeAt Go.Joins
section
theorem cells9 : Tryd.prog.cellsOf 9 = 1 := by kernel_rfl
theorem gWords : (Tryd.prog.globals[0]?).map (·.type) = some 50 := by kernel_rfl
theorem laidOut : laidOutB Tryd.prog = true := by kernel_rfl
theorem own : ownKnob Tryd.prog.godebug = none := by kernel_rfl
def wordsD {H : Type} : DataW H := .slice [.lit (.string [103, 108, 117, 101]), .lit (.string [116, 105, 109, 101, 115]), .lit (.string [114, 105, 110, 103]), .lit (.string [112, 97, 114, 116]), .lit (.string [98, 97, 99, 107])] []
theorem word_of {W : World} {a : Addr} {v : Value} {n : Nat} {q : List MemPlace} {l : List UInt8} (hc : W.cell? a = some v) (h : DataW.trod (fun _ => ()) Tryd.prog W 0 (fun _ => true) false n 9 [v] = some (.lit (.string l), q)) : W.cell? a = some (.string ⟨l.toArray⟩) := by
 obtain⟨s,e,e2,_⟩:=DataW.trod_string Tryd.underlying9 h
 have e1:v= .string s:=by simpa using e
 have e3:l=s.data.toList:=by
  have:=congrArg Prod.fst e2
  simpa using this
 rw [hc,e1,e3,← ba_mk s]
theorem words_in {W : World} {l : List (String × DataW Unit)} (h : laidMet Tryd.prog l W) {n : String} (hg : Tryd.prog.globalNamed n = some 0) (hm : (n, wordsD) ∈ l) :
 ∃a c,WordsAt W a c∧W.var? Tryd.prog n=some #[.slice (some a) 5 c]:=by
 obtain⟨g,t,cs,fuel,p,hg2,ht,hv,hd⟩:=Lib.laidMet.reads h hm
 obtain rfl:=Option.some.inj (hg.symm.trans hg2)
 obtain rfl:=Option.some.inj (gWords.symm.trans ht)
 obtain⟨a,c,hcs,_,hel⟩:=open_row Tryd.underlying50 cells9 hd
 have hcs':cs= #[.slice (some a) 5 c]:=by cases cs;simp_all
 subst hcs'
 refine⟨a,c,⟨by simpa using World.var?_cell hg hv 0,?_,?_,?_,?_,?_⟩,hv⟩
 ·obtain⟨v,n,q,hc,hr⟩:=hel 0 _ rfl;exact word_of hc hr
 ·obtain⟨v,n,q,hc,hr⟩:=hel 1 _ rfl;exact word_of hc hr
 ·obtain⟨v,n,q,hc,hr⟩:=hel 2 _ rfl;exact word_of hc hr
 ·obtain⟨v,n,q,hc,hr⟩:=hel 3 _ rfl;exact word_of hc hr
 ·obtain⟨v,n,q,hc,hr⟩:=hel 4 _ rfl;exact word_of hc hr
theorem var?_below {P : Program} {B g : Nat} {W W' : World} {n : String} {cs : Array Value} (h : Below B W W') (hg : P.globalNamed n = some g) (hgB : g < B) (hv : W.var? P n = some cs) : W'.var? P n = some cs := by
 unfold World.var? at hv ⊢
 simp only [hg,Option.bind_some] at hv ⊢
 rw [h.block g hgB]
 exact hv
section
variable {H : Type} {enc : TypeId × Value → H}
theorem words_back {W W' : World} {n : String} {d : DataW H} {p : List MemPlace} {fuel : Nat} {a : Addr} {c : Nat} (hg : Tryd.prog.globalNamed n = some 0) (hv : W.var? Tryd.prog n = some #[.slice (some a) 5 c]) (hd : DataW.trod enc Tryd.prog W 0 (fun _ => true) true fuel 50 [.slice (some a) 5 c] = some (d, p))
 (hlt: ∀x ∈ p,x.block<W.heap.size) (hg0:0<W.heap.size) (hb:Below W.heap.size W W'): ∃q,DataW.TrodVars enc Tryd.prog W' (fun b=>decide (b<W.heap.size)) [n] [d] q:=by
 obtain⟨fuel',hd'⟩:=Below.trod laidOut zqk (of_decide_eq_true zqk) (v:= .slice (some a) 5 c) (⟨fuel,by simpa [Value.cells] using hd⟩:DataW.Trod enc Tryd.prog W 0 (fun _=>true) true 50 (.slice (some a) 5 c) d p) hb hlt
 exact⟨_,trodVars_mk1 (enc:=enc) (spare:=fun b=>decide (b<W.heap.size)) hg gWords (var?_below hb hg hg0 hv) (by simpa [Value.cells] using hd')⟩
theorem witness_row {C : Checked} {os : Os} {f : FuncId} {fn : Func} {s : OpenSpec} {conds : List PathCond} {apart : Bool} {laid : List (String × DataW Unit)} (modest : Bool) (w0 : World) (args : Array Value) (hos : w0.os = os)
 (hsh:(w0.forCall (fun _ _=>0) ⟨#[],args,[]⟩).Shaped C.prog) (hok:Input.okWideB C.prog (w0.forCall (fun _ _=>0) ⟨#[],args,[]⟩) f ⟨#[],args,[]⟩=true)
 (hrow:s.preRow enc C.prog fn conds apart laid (w0.forCall (fun _ _=>0) ⟨#[],args,[]⟩).memory args):
 ∃(w:World) (tape:Tape) (i:Input),w.os=os∧(w.forCall tape i).Shaped C.prog∧i.vars= []∧Input.okWide C.prog (w.forCall tape i) .any w.heap.size f i∧
  s.preRow enc C.prog fn conds apart laid (w.forCall tape i).memory i.args∧({ modest:=modest } :Assume).holds C.prog (lone (Frame.enter C.prog f i.args .normal) [] (w.forCall tape i)):=
 ⟨w0,fun _ _=>0,⟨#[],args,[]⟩,hos,hsh,(Input.okWide_of_okWideB (base:=0) hok).1,(Input.okWide_of_okWideB hok).2,hrow,by
  simp only [Assume.holds]
  exact⟨by simp,by simp,fun _=>Modest.zero,by simp,by simp⟩⟩
end
end
theorem int_of {H : Type} {enc : TypeId × Value → H} {W : World} {base n : Nat} {sp : Nat → Bool} {held : Bool} {v : Value} {y : DataW H × List MemPlace} (h : DataW.trod enc Tryd.prog W base sp held n 3 [v] = some y) : ∃ k, v = .int .i64 k := by
 obtain⟨k,e,_,_⟩:=DataW.trod_int Tryd.underlying3 h
 exact⟨k,by simpa using e⟩
set_option maxRecDepth 100000 in
theorem deed_in {H : Type} {enc : TypeId × Value → H} {W : World} {base : Nat} {held : Bool} {r : Reach} {b0 : Nat} {v : Value} {d : DataW H} {ps : List MemPlace} (hv : Value.okWide Tryd.prog W r b0 23 v)
 (h:DataW.Trod enc Tryd.prog W base (fun _=>true) held 23 v d ps): ∃k a b,v= .agg #[.int .i64 k,.int .i64 a,.int .i64 b]:=by
 obtain⟨v0,v1,v2,y0,y1,y2,n,rfl,rfl,rfl,h0,h1,h2⟩:=open_agg3 Tryd.underlying23 zqk zqk hv h
 obtain⟨k,rfl⟩:=int_of h0
 obtain⟨a,rfl⟩:=int_of h1
 obtain⟨b,rfl⟩:=int_of h2
 exact⟨k,a,b,rfl⟩
end Go.Proofs.YtddgcdpogpppgaaDoor.Print
end
section
namespace Go.Proofs.YtddgcdpogpppgaaDoor.Print
open Go.RowKit Go.Proofs.YtddgcdpogpppgaaDoorW.PrintWords Go.Proofs.YtddgcdpogpppgaaDoorW.PrintLast Go.Proofs.YtddgcdpogpppgaaDoorW.PrintMore
section
attribute [local go_sem] max2_int min2_int max_two min_two max_three min_three max_four min_four
def laws_toDeed.f (a0_0 : Int) (a0_1 : Int) (a0_2 : Int) : Option (Int × Int × Int) := some (a0_0, a0_1, a0_2)
set_option maxHeartbeats 8000000 in
set_option maxRecDepth 100000 in
theorem laws_toDeed.calls (a0_0 : Int) (a0_1 : Int) (a0_2 : Int) (r1 : Int) (r2 : Int) (r3 : Int) (w : World) (h : laws_toDeed.f a0_0 a0_1 a0_2 = some (r1, r2, r3)) :
  Calls Tryd.prog 11 #[.agg #[.int .i64 a0_0, .int .i64 a0_1, .int .i64 a0_2]] w fun e w' => e = .returned (.agg #[.int .i64 r1, .int .i64 r2, .int .i64 r3]) ∧ Below w.heap.size w w' := by
 have hu23:=Tryd.underlying23;have hu25:=Tryd.underlying25;have HB:=zqm (Below.refl w.heap.size w);have H:(some (a0_0,a0_1,a0_2))=some (r1,r2,r3):=h;clear h;simp only [Option.some.injEq,Prod.mk.injEq] at H;obtain⟨rfl,rfl,rfl⟩:=H
 go_enter Tryd.func11,Tryd.ntmps11
 go_wp2_with (first|((with_reducible refine gate_dst (N:=1) rfl ?_);refine box_event ?hg (N:=1) ?hd (cs:= #[.int .i64 a0_0,.int .i64 a0_1,.int .i64 a0_2]) (t:=23) ?hr ?_;(case hd=>rfl);(case hg=>rfl);(case hr=> exact zq5);intro a1 hg w2 hbox hb;have a8:=zqm (below_step zq1 hb);have a0:=zqm (hbox);have d6:=zqm ((by rw [hg];exact(below_size zq1):w.heap.size≤a1));have a6:=zqm ((by rw [hg];exact(below_size zq1):w.heap.size≤a1));clear HB;have HB:=a8;clear a8 hb hbox hg)|((with_reducible refine gate_dst (N:=2) rfl ?_);refine box_event ?hg (N:=2) ?hd (cs:= #[.int .i64 0,.int .i64 0,.int .i64 0]) (t:=25) ?hr ?_;(case hd=>rfl);(case hg=>rfl);(case hr=> exact zq5);intro a2 hg w3 hbox hb;have a8:=zqm (blk_below (g:=a1) (o:= .cells #[.int .i64 a0_0,.int .i64 a0_1,.int .i64 a0_2] 23 (0,0)) (zqe a0.out) hb);have b5:=zqm (below_step zq13 hb);have a3:=zqm (hbox);have d7:=zqm ((by rw [hg];exact(below_size zq13):w.heap.size≤a2));have a9:=zqm ((by rw [hg];exact(below_size zq13):w.heap.size≤a2));have b0:=zqm ((by rw [hg];exact Nat.ne_of_lt (blk_lt (g:=a1) (o:= .cells #[.int .i64 a0_0,.int .i64 a0_1,.int .i64 a0_2] 23 (0,0)) (zqe a0.out)):a1≠a2));have b2:=zqm ((by rw [hg];exact Nat.ne_of_gt (blk_lt (g:=a1) (o:= .cells #[.int .i64 a0_0,.int .i64 a0_1,.int .i64 a0_2] 23 (0,0)) (zqe a0.out)):a2≠a1));clear a0 HB;have a0:=a8;have HB:=b5;clear a8 b5 hb hbox hg)|((with_reducible refine gate_dst (N:=3) rfl ?_);refine box_event ?hg (N:=3) ?hd (cs:= #[.int .i64 0,.int .i64 0,.int .i64 0]) (t:=25) ?hr ?_;(case hd=>rfl);(case hg=>rfl);(case hr=> exact zq5);intro a4 hg w4 hbox hb;have a8:=zqm (blk_below (g:=a1) (o:= .cells #[.int .i64 a0_0,.int .i64 a0_1,.int .i64 a0_2] 23 (0,0)) (zqe a0.out) hb);have b5:=zqm (blk_below (g:=a2) (o:= .cells #[.int .i64 0,.int .i64 0,.int .i64 0] 25 (0,0)) (zqe a3.out) hb);have b7:=zqm (below_step zq6 hb);have a7:=zqm (hbox);have d8:=zqm ((by rw [hg];exact(below_size zq6):w.heap.size≤a4));have b6:=zqm ((by rw [hg];exact(below_size zq6):w.heap.size≤a4));have b1:=zqm ((by rw [hg];exact Nat.ne_of_lt (blk_lt (g:=a1) (o:= .cells #[.int .i64 a0_0,.int .i64 a0_1,.int .i64 a0_2] 23 (0,0)) (zqe a0.out)):a1≠a4));have b3:=zqm ((by rw [hg];exact Nat.ne_of_gt (blk_lt (g:=a1) (o:= .cells #[.int .i64 a0_0,.int .i64 a0_1,.int .i64 a0_2] 23 (0,0)) (zqe a0.out)):a4≠a1));have a5:=zqm ((by rw [hg];exact Nat.ne_of_lt (blk_lt (g:=a2) (o:= .cells #[.int .i64 0,.int .i64 0,.int .i64 0] 25 (0,0)) (zqe a3.out)):a2≠a4));have b4:=zqm ((by rw [hg];exact Nat.ne_of_gt (blk_lt (g:=a2) (o:= .cells #[.int .i64 0,.int .i64 0,.int .i64 0] 25 (0,0)) (zqe a3.out)):a4≠a2));clear a0 a3 HB;have a0:=a8;have a3:=b5;have HB:=b7;clear a8 b5 b7 hb hbox hg;have d9:=b0.out;have e2:=b2.out;have e0:=b1.out;have e3:=b3.out;have c4:w4.cell? ⟨a1,0,none⟩=some (.int .i64 a0_0):=(blk_cell a0.out 0).trans rfl;have c5:w4.cell? ⟨a1,1,none⟩=some (.int .i64 a0_1):=(blk_cell a0.out 1).trans rfl;have c6:w4.cell? ⟨a1,2,none⟩=some (.int .i64 a0_2):=(blk_cell a0.out 2).trans rfl;have d0:=blk_frozen a0.out 0;have d1:=blk_frozen a0.out 1;have d2:=blk_frozen a0.out 2;have e1:=b4.out;have e4:=a5.out;have c7:w4.cell? ⟨a4,0,none⟩=some (.int .i64 0):=(blk_cell a7.out 0).trans rfl;have c8:w4.cell? ⟨a4,1,none⟩=some (.int .i64 0):=(blk_cell a7.out 1).trans rfl;have c9:w4.cell? ⟨a4,2,none⟩=some (.int .i64 0):=(blk_cell a7.out 2).trans rfl;have d3:=blk_frozen a7.out 0;have d4:=blk_frozen a7.out 1;have d5:=blk_frozen a7.out 2;have b8:w4.cell? ⟨a2,0,none⟩=some (.int .i64 0):=(blk_cell a3.out 0).trans rfl;have b9:w4.cell? ⟨a2,1,none⟩=some (.int .i64 0):=(blk_cell a3.out 1).trans rfl;have c0:w4.cell? ⟨a2,2,none⟩=some (.int .i64 0):=(blk_cell a3.out 2).trans rfl;have c1:=blk_frozen a3.out 0;have c2:=blk_frozen a3.out 1;have c3:=blk_frozen a3.out 2))
 refine bodyPost_ret (results_cell_row rfl _ _ a2 25 #[.int .i64 a0_0,.int .i64 a0_1,.int .i64 a0_2] (0,0) _ rfl (by refine zqe ?_;refine blk_put (cs:= #[.int .i64 a0_0,.int .i64 a0_1,.int .i64 0]) ?_ 2 _ rfl;refine zqe ?_;refine blk_put (cs:= #[.int .i64 a0_0,.int .i64 0,.int .i64 0]) ?_ 1 _ rfl;refine zqe ?_;refine blk_put (cs:= #[.int .i64 0,.int .i64 0,.int .i64 0]) ?_ 0 _ rfl;refine zqe ?_;refine blk_far ?_ a5.out _;refine zqe ?_;refine blk_far ?_ a5.out _;refine zqe ?_;refine blk_far ?_ a5.out _;refine zqe ?_;exact a3.out) Tryd.underlying25 rfl zqk) rfl ?_;exact⟨zq2,by repeat(first|(with_reducible first|exact HB.out|apply below_alloc|apply pw_below_drewN|apply below_drew1|refine below_set ?_ a6.out|refine below_set ?_ a9.out|refine below_set ?_ b6.out)|exact HB.out)⟩
end
end Go.Proofs.YtddgcdpogpppgaaDoor.Print
end
section
namespace Go.Proofs.YtddgcdpogpppgaaDoor.Print
open Go.RowKit Go.Proofs.YtddgcdpogpppgaaDoorW.PrintWords Go.Proofs.YtddgcdpogpppgaaDoorW.PrintLast Go.Proofs.YtddgcdpogpppgaaDoorW.PrintMore
open Oml
set_option maxHeartbeats 2000000 in
theorem laws_FnExactDeedText.holds (k a b : Int) (w : World) (ad : Addr) (c : Nat) (hW : WordsAt w ad c) : Calls Tryd.prog 3 #[.agg #[.int .i64 k, .int .i64 a, .int .i64 b]] w fun e w' => e = .returned (.bool true) ∧ Below w.heap.size w w' := by
 have hu23:=Tryd.underlying23
 obtain⟨m,hm⟩:=(spec_DeedText.ev k a b).rounds
 have HW:=zqm hW
 have HD:=zqm (fun w ad c hW=>deed_calls k a b w ad c hW)
 obtain⟨t,ht⟩: ∃t,t=deedT k a b:=⟨_,rfl⟩
 rw [← ht] at hm HD
 have HM:=zqm hm
 clear hm hW ht
 go_enter Tryd.func3,Tryd.ntmps3
 have tok1:True:=trivial
 go_wp2_with (first|((with_reducible refine gate_dst (N:=1) rfl ?_);refine box_event ?hg (N:=1) ?hd (cs:= #[.int .i64 k,.int .i64 a,.int .i64 b]) (t:=23) ?hr ?_;(case hd=>rfl);(case hg=>rfl);(case hr=>first|(go_simp;done)|(go_simp;rfl));intro gb hg_ w1 hbox hb;have HB:=zqm hb;have HX:=zqm hbox;have hx0:w1.cell? ⟨gb,0,none⟩=some (.int .i64 k):=(blk_cell hbox 0).trans rfl;have hx1:w1.cell? ⟨gb,1,none⟩=some (.int .i64 a):=(blk_cell hbox 1).trans rfl;have hx2:w1.cell? ⟨gb,2,none⟩=some (.int .i64 b):=(blk_cell hbox 2).trans rfl;clear hbox hb hg_)|(go_at_call 11;(with_reducible refine(laws_toDeed.calls k a b k a b _ rfl).mono ?_);rintro e w2 ⟨rfl,hb⟩;have n1_:=zqm (below_step HB.out hb);have n2_:=zqm (blk_below HX.out hb);clear HB HX hx0 hx1 hx2 hb;have HB:=n1_;have HX:=n2_;clear n1_ n2_)|(go_at_call 10;(with_reducible refine(spec_DeedText.calls m k a b t _ HM.out).mono ?_);rintro e w3 ⟨rfl,hb⟩;have n1_:=zqm (below_step HB.out hb);have n2_:=zqm (blk_below HX.out hb);clear HB HX hb;have HB:=n1_;have HX:=n2_;clear n1_ n2_;have hx0:w3.cell? ⟨gb,0,none⟩=some (.int .i64 k):=(blk_cell HX.out 0).trans rfl;have hx1:w3.cell? ⟨gb,1,none⟩=some (.int .i64 a):=(blk_cell HX.out 1).trans rfl;have hx2:w3.cell? ⟨gb,2,none⟩=some (.int .i64 b):=(blk_cell HX.out 2).trans rfl)|(go_at_call 12;(with_reducible refine(HD.out _ ad c (HW.out.below HB.out)).mono ?_);rintro e w4 ⟨rfl,hb⟩;have n1_:=zqm (below_step HB.out hb);clear HB HX hb;have HB:=n1_;clear n1_))
 go_ret
 exact⟨rfl,by repeat(first|exact HB.out|apply pw_below_drewN|apply below_drew1|apply below_alloc)⟩
end Go.Proofs.YtddgcdpogpppgaaDoor.Print
end
