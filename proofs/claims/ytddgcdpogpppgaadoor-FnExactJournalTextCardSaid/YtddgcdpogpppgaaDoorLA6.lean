/- Part 6 of what is common to several claims of this seat: XL. -/
import Derived.Test.YtddgcdpogpppgaaDoorLA5
import Derived.Below
import Derived.Deep.Draws
import Derived.Deep.AppendLies
import Derived.Maps.AppendAt
import Derived.OwnWalk
import Derived.Laws.BytesArg
import Derived.Laws.MakeOwn
import Derived.Laws.OwnMore
import Derived.Deep.OwnRows
import Derived.Tactics
import Derived.Lib.ConvBytes
import Derived.Laws.Slices
import Derived.WalkKit
import Derived.KernelRfl
import Derived.RowKit3
import Derived.Deep.LoopGhost
import Derived.Deep.QuietTactic
import Derived.BigQuiet
import Derived.WideLaws
import Derived.Deep.DeepCutAuto
import Derived.Deep.CutBlock
import Derived.Deep.RegionHeld3
import Derived.Laws.Rows
import Derived.Lib.AppendStr
import Derived.ArgAppend
import Derived.Laws.IdiomCopy
import Derived.RowKit
import Derived.OrdersHeld
import Derived.Laws.BitsLemmas
import Derived.Laws.StructEq
import Derived.Test.YtddgcdpogpppgaaDoorProg
import Derived.Lib.ItoaNum
import Derived.Lib.Strings
import Derived.Shelf.Utf8.RuneCount
import Derived.Shelf.Strconv.Atoi
import Derived.Shelf.Strconv.Itoa0
import Derived.Shelf.Strconv.Itoa1
import Derived.Shelf.LaysM
import Derived.Shelf.Strconv.Itoa2
import Derived.Shelf.Strconv.Itoa3
import Derived.Shelf.Strconv.AtoiErrFast
import Derived.Shelf.Strconv.ParseIntEmpty
import Derived.Shelf.Strconv.AtoiFail
import Derived.Shelf.Strconv.Clone
import Derived.Shelf.Strconv.SyntaxError
import Derived.Shelf.LaysC
import Derived.Shelf.Strconv.ToError
import Derived.Shelf.Strconv.Lower
import Derived.Shelf.Strconv.ParseUint10
import Derived.Shelf.Strconv.ParseUint10Empty
import Derived.Shelf.Strconv.ParseUint10Any
import Derived.Shelf.Strconv.ParseInt10
import Derived.Shelf.Strconv.AtoiLong
import Derived.Shelf.Strconv.AtoiInnerAll
import Derived.Shelf.Strconv.RangeError
import Derived.Shelf.Strconv.ToErrorRange
import Derived.Shelf.Strconv.AtoiAll
import Derived.Shelf.Strconv.ErrVarAll
import Derived.Shelf.Strings.Search1
import Derived.Shelf.Strings.Search2
import Derived.Shelf.Strings.Search3
import Derived.Shelf.Strings.Cut
import Derived.Shelf.Strings.Count
import Derived.Shelf.Strings.Shaped
import Derived.Shelf.Strings.Split
import Derived.Shelf.Strings.SplitShaped
import Derived.Shelf.Unicode.Decode
import Derived.Shelf.Strings.RuneCount
import Derived.Shelf.Strings.Explode
import Derived.Shelf.Unicode.DecodeSlow
import Derived.Shelf.Unicode.DecodeAny
import Derived.Shelf.Slices.Turned
import Derived.ProofKit
import Derived.OpenShut
import Derived.LaidMore
import Derived.Lay
import Derived.ChangeVars
import Derived.Lib.LaidU8
import Derived.Lib.SmallJoins
import Derived.Deep.DeepHandedRow
import Derived.Deep.Slices
set_option linter.all false
section
namespace Go.Proofs.YtddgcdpogpppgaaDoor.Print
open Go.RowKit Go.Proofs.YtddgcdpogpppgaaDoorW.PrintWords Go.Proofs.YtddgcdpogpppgaaDoorW.PrintLast Go.Proofs.YtddgcdpogpppgaaDoorW.PrintMore
open Oml Go.ChangeShapes Go.WideShapes Go.ChangeAt Go.Joins
section
theorem cells9 : Tryd.prog.cellsOf 9 = 1 := by kernel_rfl
theorem gWords : (Tryd.prog.globals[0]?).map (·.type) = some 50 := by kernel_rfl
theorem laidOut : laidOutB Tryd.prog = true := by kernel_rfl
theorem own : ownKnob Tryd.prog.godebug = none := by kernel_rfl
def wordsD {H : Type} : DataW H := .slice [.lit (.string [103, 108, 117, 101]), .lit (.string [116, 105, 109, 101, 115]), .lit (.string [114, 105, 110, 103]), .lit (.string [112, 97, 114, 116]), .lit (.string [98, 97, 99, 107])] []
theorem word_of {W : World} {a : Addr} {v : Value} {n : Nat} {q : List MemPlace} {l : List UInt8} (hc : W.cell? a = some v) (h : DataW.trod (fun _ => ()) Tryd.prog W 0 (fun _ => true) false n 9 [v] = some (.lit (.string l), q)) : W.cell? a = some (.string ⟨l.toArray⟩) := by
 obtain⟨s,e,e2,_⟩:=DataW.trod_string Tryd.underlying9 h
 have e1:v= .string s:=by simpa using e
 have e3:l=s.data.toList:=by
  have:=congrArg Prod.fst e2
  simpa using this
 rw [hc,e1,e3,← ba_mk s]
theorem words_in {W : World} {l : List (String × DataW Unit)} (h : laidMet Tryd.prog l W) {n : String} (hg : Tryd.prog.globalNamed n = some 0) (hm : (n, wordsD) ∈ l) :
 ∃a c,WordsAt W a c∧W.var? Tryd.prog n=some #[.slice (some a) 5 c]:=by
 obtain⟨g,t,cs,fuel,p,hg2,ht,hv,hd⟩:=Lib.laidMet.reads h hm
 obtain rfl:=Option.some.inj (hg.symm.trans hg2)
 obtain rfl:=Option.some.inj (gWords.symm.trans ht)
 obtain⟨a,c,hcs,_,hel⟩:=open_row Tryd.underlying50 cells9 hd
 have hcs':cs= #[.slice (some a) 5 c]:=by cases cs;simp_all
 subst hcs'
 refine⟨a,c,⟨by simpa using World.var?_cell hg hv 0,?_,?_,?_,?_,?_⟩,hv⟩
 ·obtain⟨v,n,q,hc,hr⟩:=hel 0 _ rfl;exact word_of hc hr
 ·obtain⟨v,n,q,hc,hr⟩:=hel 1 _ rfl;exact word_of hc hr
 ·obtain⟨v,n,q,hc,hr⟩:=hel 2 _ rfl;exact word_of hc hr
 ·obtain⟨v,n,q,hc,hr⟩:=hel 3 _ rfl;exact word_of hc hr
 ·obtain⟨v,n,q,hc,hr⟩:=hel 4 _ rfl;exact word_of hc hr
theorem var?_below {P : Program} {B g : Nat} {W W' : World} {n : String} {cs : Array Value} (h : Below B W W') (hg : P.globalNamed n = some g) (hgB : g < B) (hv : W.var? P n = some cs) : W'.var? P n = some cs := by
 unfold World.var? at hv ⊢
 simp only [hg,Option.bind_some] at hv ⊢
 rw [h.block g hgB]
 exact hv
section
variable {H : Type} {enc : TypeId × Value → H}
theorem words_back {W W' : World} {n : String} {d : DataW H} {p : List MemPlace} {fuel : Nat} {a : Addr} {c : Nat} (hg : Tryd.prog.globalNamed n = some 0) (hv : W.var? Tryd.prog n = some #[.slice (some a) 5 c]) (hd : DataW.trod enc Tryd.prog W 0 (fun _ => true) true fuel 50 [.slice (some a) 5 c] = some (d, p))
 (hlt: ∀x ∈ p,x.block<W.heap.size) (hg0:0<W.heap.size) (hb:Below W.heap.size W W'): ∃q,DataW.TrodVars enc Tryd.prog W' (fun b=>decide (b<W.heap.size)) [n] [d] q:=by
 obtain⟨fuel',hd'⟩:=Below.trod laidOut zqk (of_decide_eq_true zqk) (v:= .slice (some a) 5 c) (⟨fuel,by simpa [Value.cells] using hd⟩:DataW.Trod enc Tryd.prog W 0 (fun _=>true) true 50 (.slice (some a) 5 c) d p) hb hlt
 exact⟨_,trodVars_mk1 (enc:=enc) (spare:=fun b=>decide (b<W.heap.size)) hg gWords (var?_below hb hg hg0 hv) (by simpa [Value.cells] using hd')⟩
theorem witness_row {C : Checked} {os : Os} {f : FuncId} {fn : Func} {s : OpenSpec} {conds : List PathCond} {apart : Bool} {laid : List (String × DataW Unit)} (modest : Bool) (w0 : World) (args : Array Value) (hos : w0.os = os)
 (hsh:(w0.forCall (fun _ _=>0) ⟨#[],args,[]⟩).Shaped C.prog) (hok:Input.okWideB C.prog (w0.forCall (fun _ _=>0) ⟨#[],args,[]⟩) f ⟨#[],args,[]⟩=true)
 (hrow:s.preRow enc C.prog fn conds apart laid (w0.forCall (fun _ _=>0) ⟨#[],args,[]⟩).memory args):
 ∃(w:World) (tape:Tape) (i:Input),w.os=os∧(w.forCall tape i).Shaped C.prog∧i.vars= []∧Input.okWide C.prog (w.forCall tape i) .any w.heap.size f i∧
  s.preRow enc C.prog fn conds apart laid (w.forCall tape i).memory i.args∧({ modest:=modest } :Assume).holds C.prog (lone (Frame.enter C.prog f i.args .normal) [] (w.forCall tape i)):=
 ⟨w0,fun _ _=>0,⟨#[],args,[]⟩,hos,hsh,(Input.okWide_of_okWideB (base:=0) hok).1,(Input.okWide_of_okWideB hok).2,hrow,by
  simp only [Assume.holds]
  exact⟨by simp,by simp,fun _=>Modest.zero,by simp,by simp⟩⟩
end
end
theorem int_of {H : Type} {enc : TypeId × Value → H} {W : World} {base n : Nat} {sp : Nat → Bool} {held : Bool} {v : Value} {y : DataW H × List MemPlace} (h : DataW.trod enc Tryd.prog W base sp held n 3 [v] = some y) : ∃ k, v = .int .i64 k := by
 obtain⟨k,e,_,_⟩:=DataW.trod_int Tryd.underlying3 h
 exact⟨k,by simpa using e⟩
end Go.Proofs.YtddgcdpogpppgaaDoor.Print
end
section
namespace Go.Proofs.YtddgcdpogpppgaaDoor.Print
open Go.RowKit Go.Proofs.YtddgcdpogpppgaaDoorW.PrintWords Go.Proofs.YtddgcdpogpppgaaDoorW.PrintLast Go.Proofs.YtddgcdpogpppgaaDoorW.PrintMore
open Oml Go.ChangeShapes Go.WideShapes Go.ChangeAt Go.Joins Go.Deep
set_option maxRecDepth 100000 in
theorem deed_cells {H : Type} {enc : TypeId × Value → H} {W : World} {base n : Nat} {sp : Nat → Bool} {held : Bool} {cs : List Value} {y : DataW H × List MemPlace} (hl : cs.length = 3) (h : DataW.trod enc Tryd.prog W base sp held n 23 cs = some y) : ∃ x : S23, cs = [.int .i64 x.f0, .int .i64 x.f1, .int .i64 x.f2] := by
 obtain⟨xs,k,hk,hxy,_,hxl,hf⟩:=DataW.trod_struct Tryd.underlying23 h
 match cs,hl with
 | [v0,v1,v2],_=>
  have c3:Tryd.prog.cellsOf 3=1:=by kernel_rfl
  match xs,hxl with
  | [y0,y1,y2],_=>
   have g0:=hf 0 _ rfl
   have g1:=hf 1 _ rfl
   have g2:=hf 2 _ rfl
   simp [c3] at g0 g1 g2
   obtain⟨a,rfl⟩:=int_of g0
   obtain⟨b,rfl⟩:=int_of g1
   obtain⟨c,rfl⟩:=int_of g2
   exact⟨⟨a,b,c⟩,rfl⟩
set_option maxRecDepth 100000 in
theorem deeds_in {H : Type} {enc : TypeId × Value → H} {W : World} {held : Bool} {r : Reach} {b0 : Nat} {v : Value} {d : DataW H} {ps : List MemPlace} (hv : Value.okWide Tryd.prog W r b0 28 v)
 (h:DataW.Trod enc Tryd.prog W 0 (fun _=>true) held 28 v d ps): ∃(A:Option Addr) (c:Nat) (l:List S23),v= .slice A l.length c∧l.length≤c∧l.length≤9223372036854775807∧Kd.C k23 W A l.length l:=by
 obtain⟨a0,len0,cap0,rfl⟩:=okWide_slice Tryd.underlying28 hv
 obtain⟨fuel,hf⟩:=h
 have c3:Tryd.prog.cellsOf 23=3:=by kernel_rfl
 rcases open_slice Tryd.underlying28 hf with ⟨hcs,_⟩|⟨a,len,cap,m,n,D,Pl,hcs,_,hl,hm,hmm,_,hx⟩
 ·simp [Value.cells] at hcs
  obtain⟨rfl,rfl,rfl⟩:=hcs
  exact⟨none,0,[],rfl,Nat.le_refl _,Nat.zero_le _,rfl,Nat.zero_le _,fun h=>absurd h (Nat.not_lt_zero _)⟩
 ·simp [Value.cells] at hcs
  obtain⟨rfl,rfl,rfl⟩:=hcs
  have hlm:len0≤m:=by rw [hmm];split <;> omega
  have each: ∀i,i<len0→ ∃x:S23,∀j u,([.int .i64 x.f0,.int .i64 x.f1,.int .i64 x.f2]:List Value)[j]? =some u→W.cell? (a.add (i*3+j))=some u:=by
   intro i hi
   obtain⟨cs',h1,h2⟩:=hx i (by omega)
   rw [c3] at h1
   obtain⟨_,hlen,hcell⟩:=World.cells?_some h1
   obtain⟨x,rfl⟩:=deed_cells hlen h2
   refine⟨x,fun j u hu=>?_⟩
   have hj:j<3:=by
    have:=(List.getElem?_eq_some_iff.1 hu).1
    simpa using this
   have e0:=hcell j hj
   rw [Go.Deep.add_add] at e0
   rw [e0];exact hu
  haveI:Inhabited S23:=⟨z23⟩
  obtain⟨f,hf'⟩:=choose_lt each
  have hL:((List.range len0).map f).length=len0:=by simp
  have hmax:cap0≤9223372036854775807:=hm
  refine⟨some a,cap0,(List.range len0).map f,by rw [hL],by omega,by omega,by rw [hL],by omega,fun _=>⟨a,rfl,fun j p hp=>?_⟩⟩
  have hj:j<len0:=by
   have:=(List.getElem?_eq_some_iff.1 hp).1
   rw [hL] at this;exact this
  have hp':p=f j:=by
   rw [List.getElem?_map,List.getElem?_range hj] at hp
   simpa using hp.symm
  subst hp'
  exact⟨_,rfl,⟨_,_,rfl,rfl,⟨_,_,rfl,rfl,rfl⟩⟩,fun i u hu=>hf' j hj i u hu⟩
end Go.Proofs.YtddgcdpogpppgaaDoor.Print
end
section
namespace Go.Proofs.YtddgcdpogpppgaaDoor.Print
open Go.RowKit Go.Proofs.YtddgcdpogpppgaaDoorW.PrintWords Go.Proofs.YtddgcdpogpppgaaDoorW.PrintLast Go.Proofs.YtddgcdpogpppgaaDoorW.PrintMore
section
attribute [local go_sem] max2_int min2_int max_two min_two max_three min_three max_four min_four
def spec_JournalText.l0 : Nat → List (S25) → ByteArray → Int → Option (ByteArray)
 | 0, _, _, _ => none
 | k + 1, x0, x3, x4 => if x4 < (x0.length : Int) then (if 0 ≤ x4 then ((spec_DeedText.f k ((rd_T25 x0 x4).f0) ((rd_T25 x0 x4).f1) ((rd_T25 x0 x4).f2)).bind fun t151 => (if t151.toList = ([] : List UInt8) then (some (⟨#[]⟩ : ByteArray)) else ((spec_DeedText.f k ((rd_T25 x0 x4).f0) ((rd_T25 x0 x4).f1) ((rd_T25 x0 x4).f2)).bind fun t153 => (if x3.size + t153.size ≤ 9223372036854775807 then (if (x3 ++ t153).size + 1 ≤ 9223372036854775807 then (spec_JournalText.l0 k x0 ((x3 ++ t153) ++ (⟨#[10]⟩ : ByteArray)) (wrap64 (x4 + 1))) else (none)) else (none))))) else (none)) else (some x3)
def spec_JournalText.f (k : Nat) (l0 : List (S25)) : Option (ByteArray) := spec_JournalText.l0 k l0 (⟨#[]⟩ : ByteArray) 0
set_option maxHeartbeats 8000000 in
set_option maxRecDepth 100000 in
theorem spec_JournalText.calls (k : Nat) (A0 : Option Addr) (c0 : Nat) (l0 : List (S25)) (r : ByteArray) (w : World) (hr0 : Kd.C k25 w A0 l0.length l0) (hc0 : l0.length ≤ c0) (h : spec_JournalText.f k l0 = some r) :
  Calls Tryd.prog 14 #[.slice A0 l0.length c0] w fun e w' => e = .returned (.string r) ∧ Below w.heap.size w w' := by
 have hu25:=Tryd.underlying25;have b6:=zqm hr0;have d9:=zqm hc0;clear hr0 hc0;have HB:=zqm (Below.refl w.heap.size w);have H:(spec_JournalText.l0 k l0 (⟨#[]⟩:ByteArray) 0)=some r:=h;clear h;have H':=zqm H;clear H
 go_enter Tryd.func14,Tryd.ntmps14
 go_wp2
 go_loopg [3,4] k (fun kq v3 v4 w'=> ∃(a4:ByteArray) (a0:Int),v3= .string a4∧v4= .int .i64 a0∧Aside0 (spec_JournalText.l0 kq l0 a4 a0=some r)∧Aside0 (kq≤k)∧Aside0 (Below w.heap.size w w'))
 case atStart=>exact⟨((⟨#[]⟩:ByteArray)),(0),zq7,zq7,H',⟨Nat.le_refl _⟩,⟨zq0⟩⟩
 case round=>
  clear H';(try clear c1);obtain⟨a4,a0,rfl,rfl,HA,c4,HB⟩:=hrel
  cases gk with
  |zero=>exact absurd HA.out (by simp [spec_JournalText.l0])
  |succ k1=>
   have H:=HA.out;clear HA;simp only [spec_JournalText.l0] at H
   by_cases c2:a0<(l0.length:Int)
   ·rw [if_pos c2] at H;have c6:decide (a0<(l0.length:Int))=true:=decide_eq_true c2;clear c2
    by_cases c3:0≤a0
    ·rw [if_pos c3] at H;have d2:decide (0≤a0)=true:=decide_eq_true c3;clear c3;replace H:=Option.bind_eq_some_iff.mp H;obtain⟨a8,b8,H⟩:=H;(try dsimp only at H);have A4:=zqm b8;clear b8
     by_cases c5:a8.toList=([]:List UInt8)
     ·rw [if_pos c5] at H;have c7:(a8.toList==([]:List UInt8))=true:=beq_iff_eq.mpr c5;have d0:(a8.toList !=([]:List UInt8))=false:=bne_eq_false_iff_eq.mpr c5;clear c5;obtain rfl:=Option.some.inj H;have a6:0≤(a0:Int):=zqo;have a7:a0<(l0.length:Int):=zqo;obtain⟨b5,b2,a1,a2,a3⟩:=at_T25 b6.out a0 a6 a7
      cases b2
      replace a1:=(HB.out.cell (World.block_lt_of_cell? w _ a1)).trans a1;replace a2:=(HB.out.cell (World.block_lt_of_cell? w _ a2)).trans a2;replace a3:=(HB.out.cell (World.block_lt_of_cell? w _ a3)).trans a3;replace a6:=eq_true a6;replace a7:=eq_true a7
      go_wp2_with (first|((with_reducible refine gate_callee (f:=10) rfl ?_);refine goesL_ (some 15) rfl rfl Tryd.func10 zqk rfl #[.agg #[.int .i64 ((rd_T25 l0 a0).f0),.int .i64 ((rd_T25 l0 a0).f1),.int .i64 ((rd_T25 l0 a0).f2)]] rfl zq4 ?_;(with_reducible refine(spec_DeedText.calls k1 ((rd_T25 l0 a0).f0) ((rd_T25 l0 a0).f1) ((rd_T25 l0 a0).f2) a8 _ A4.out).mono ?_);rintro e w6 ⟨rfl,hb⟩;refine⟨_,rfl,?_⟩;replace HB:=zqm (below_step zq0 hb);clear hb))
      go_ret
      exact⟨zq2,zq0⟩
     ·rw [if_neg c5] at H;have c7:(a8.toList==([]:List UInt8))=false:=beq_eq_false_iff_ne.mpr c5;have d0:(a8.toList !=([]:List UInt8))=true:=bne_iff_ne.mpr c5;replace H:=Option.bind_eq_some_iff.mp H;obtain⟨a5,b9,H⟩:=H;(try dsimp only at H);have A7:=zqm b9;clear b9
      by_cases c8:a4.size+a5.size≤9223372036854775807
      ·rw [if_pos c8] at H;have d3:=eq_true c8;have d4:decide (a4.size+a5.size≤9223372036854775807)=true:=decide_eq_true c8;try have d5:(9223372036854775807<a4.size+a5.size)=False:=eq_false (Nat.not_lt.2 c8)
       by_cases c9:(a4 ++ a5).size+1≤9223372036854775807
       ·rw [if_pos c9] at H;have d6:=eq_true c9;have d7:decide ((a4 ++ a5).size+1≤9223372036854775807)=true:=decide_eq_true c9;(try have d8:(9223372036854775807<(a4 ++ a5).size+1)=False:=eq_false (Nat.not_lt.2 c9));(try have c9bs:(9223372036854775807<a4.size+a5.size+1)=False:=eq_false (by have h_:=c9;rw [ByteArray.size_append] at h_;omega));have H':=zqm H;clear H;have a6:0≤(a0:Int):=zqo;have a7:a0<(l0.length:Int):=zqo;obtain⟨b5,b2,a1,a2,a3⟩:=at_T25 b6.out a0 a6 a7
        cases b2
        replace a1:=(HB.out.cell (World.block_lt_of_cell? w _ a1)).trans a1;replace a2:=(HB.out.cell (World.block_lt_of_cell? w _ a2)).trans a2;replace a3:=(HB.out.cell (World.block_lt_of_cell? w _ a3)).trans a3;replace a6:=eq_true a6;replace a7:=eq_true a7
        go_wp2_with (first|((with_reducible refine gate_callee (f:=10) rfl ?_);refine goesL_ (some 15) rfl rfl Tryd.func10 zqk rfl #[.agg #[.int .i64 ((rd_T25 l0 a0).f0),.int .i64 ((rd_T25 l0 a0).f1),.int .i64 ((rd_T25 l0 a0).f2)]] rfl zq4 ?_;(with_reducible refine(spec_DeedText.calls k1 ((rd_T25 l0 a0).f0) ((rd_T25 l0 a0).f1) ((rd_T25 l0 a0).f2) a8 _ A4.out).mono ?_);rintro e e0 ⟨rfl,hb⟩;refine⟨_,rfl,?_⟩;replace HB:=zqm (below_step zq0 hb);clear hb;have b3:0≤(a0:Int):=zqo;have b4:a0<(l0.length:Int):=zqo;obtain⟨b7,d1,a9,b0,b1⟩:=at_T25 b6.out a0 b3 b4;obtain rfl:b5=b7:=(by injection d1);replace a9:=(HB.out.cell (World.block_lt_of_cell? w _ a9)).trans a9;replace b0:=(HB.out.cell (World.block_lt_of_cell? w _ b0)).trans b0;replace b1:=(HB.out.cell (World.block_lt_of_cell? w _ b1)).trans b1;replace b3:=eq_true b3;replace b4:=eq_true b4)|((with_reducible refine gate_callee (f:=10) rfl ?_);refine goesL_ (some 22) rfl rfl Tryd.func10 zqk rfl #[.agg #[.int .i64 ((rd_T25 l0 a0).f0),.int .i64 ((rd_T25 l0 a0).f1),.int .i64 ((rd_T25 l0 a0).f2)]] rfl zq4 ?_;(with_reducible refine(spec_DeedText.calls k1 ((rd_T25 l0 a0).f0) ((rd_T25 l0 a0).f1) ((rd_T25 l0 a0).f2) a5 _ A7.out).mono ?_);rintro e e1 ⟨rfl,hb⟩;refine⟨_,rfl,?_⟩;replace HB:=zqm (below_step zq0 hb);clear hb))
        go_roundg k1
        (case measure=>have:=c4.out;omega);case rel=>exact⟨((a4 ++ a5) ++ (⟨#[10]⟩:ByteArray)),(wrap64 (a0+1)),zq7,zq7,H',⟨by have:=c4.out;omega⟩,⟨zq0⟩⟩
       ·rw [if_neg c9] at H;exact absurd H (by simp)
      ·rw [if_neg c8] at H;exact absurd H (by simp)
    ·rw [if_neg c3] at H;exact absurd H (by simp)
   ·rw [if_neg c2] at H;have c6:decide (a0<(l0.length:Int))=false:=decide_eq_false c2;clear c2;obtain rfl:=Option.some.inj H
    go_wp2
    go_ret
    exact⟨zq2,zq0⟩
end
end Go.Proofs.YtddgcdpogpppgaaDoor.Print
end
section
namespace Go.Proofs.YtddgcdpogpppgaaDoor.Print
open Go.RowKit Go.Proofs.YtddgcdpogpppgaaDoorW.PrintWords Go.Proofs.YtddgcdpogpppgaaDoorW.PrintLast Go.Proofs.YtddgcdpogpppgaaDoorW.PrintMore
open Oml
def dT (x : S25) : ByteArray := deedT x.f0 x.f1 x.f2
def dOk (x : S25) : Bool := deedV x.f0 x.f1 x.f2
def lineT (x : S25) : ByteArray := dT x ++ ⟨#[10]⟩
def jouB (l : List S25) (i : Nat) : ByteArray := (l.take i).foldl (fun s x => s ++ lineT x) ⟨#[]⟩
def jouT (l : List S25) : ByteArray := if l.all dOk = true then jouB l l.length else ⟨#[]⟩
theorem ba_assoc (a b c : ByteArray) : (a ++ b) ++ c = a ++ (b ++ c) := by apply ByteArray.ext; simp [ByteArray.data_append]
theorem rdT_nat (l : List S25) (i : Nat) : rd_T25 l (i : Int) = l.getD i z25 := by simp [rd_T25]
theorem dT_nil (x : S25) : (dT x).toList = [] ↔ dOk x = false := by
 rw [ba_toList]
 constructor
 ·intro h
  cases hv:dOk x with
  |false=>rfl
  |true=>exact absurd (show deedT x.f0 x.f1 x.f2=⟨#[]⟩ from ba_ext (show (dT x).data.toList=_ by rw [h])) (deedT_ne.2 hv)
 ·intro h
  unfold dT deedT
  unfold dOk at h
  rw [h,if_neg (by simp)]
theorem dT_size (x : S25) : (dT x).size ≤ 10 := deedT_size _ _ _
theorem lineT_size (x : S25) : (lineT x).size ≤ 11 := by
 have h := dT_size x
 unfold lineT
 rw [ByteArray.size_append]
 have : (⟨#[10]⟩ : ByteArray).size = 1 := rfl
 omega
theorem fold_size (l : List S25) (s : ByteArray) : (l.foldl (fun s x => s ++ lineT x) s).size ≤ s.size + 11 * l.length := by
 induction l generalizing s with
 |nil=>simp
 |cons x l ih=>
  have h1:=ih (s ++ lineT x)
  have h2:=lineT_size x
  rw [ByteArray.size_append] at h1
  rw [List.foldl_cons,List.length_cons]
  omega
theorem jouB_size (l : List S25) (i : Nat) : (jouB l i).size ≤ 11 * i := by
 have h:=fold_size (l.take i) ⟨#[]⟩
 have h2:(l.take i).length≤i:=by rw [List.length_take];omega
 have h3:(⟨#[]⟩:ByteArray).size=0:=rfl
 unfold jouB
 omega
theorem jouB_succ {l : List S25} {i : Nat} (hi : i < l.length) : jouB l (i + 1) = jouB l i ++ lineT (l.getD i z25) := by
 unfold jouB
 rw [List.take_add_one,List.foldl_append,List.getElem?_eq_getElem hi,List.getD_eq_getElem?_getD,List.getElem?_eq_getElem hi]
 rfl
theorem jouT_yes {l : List S25} (h : ∀ j, j < l.length → dOk (l.getD j z25) = true) : jouT l = jouB l l.length := by
 unfold jouT
 rw [if_pos]
 rw [List.all_eq_true]
 intro x hx
 obtain⟨j,hj,rfl⟩:=List.mem_iff_getElem.1 hx
 have:=h j hj
 rwa [List.getD_eq_getElem?_getD,List.getElem?_eq_getElem hj] at this
theorem jouT_no {l : List S25} {j : Nat} (hj : j < l.length) (h : dOk (l.getD j z25) = false) : jouT l = ⟨#[]⟩ := by
 unfold jouT
 rw [if_neg]
 rw [List.all_eq_true]
 intro h2
 have:=h2 (l[j]) (List.getElem_mem hj)
 rw [List.getD_eq_getElem?_getD,List.getElem?_eq_getElem hj] at h
 exact absurd (this.symm.trans h) (by simp)
theorem spec_JournalText.ev (l : List S25) (hl : l.length ≤ 1048576) : Ev (fun k => spec_JournalText.f k l) (jouT l) := by
 have key: ∀d i,i+d=l.length→(∀j,j<i→dOk (l.getD j z25)=true)→Ev (fun k=>spec_JournalText.l0 k l (jouB l i) (i:Int)) (jouT l):=by
  intro d
  induction d with
  |zero=>
   intro i hi h
   obtain rfl:i=l.length:=by omega
   refine Ev.succ ?_
   simp only [spec_JournalText.l0]
   exact Ev.ite_neg (by omega) (Ev.eq (Ev.now _) (jouT_yes h).symm)
  |succ d ih=>
   intro i hi h
   have hlt:i<l.length:=by omega
   refine Ev.succ ?_
   simp only [spec_JournalText.l0,rdT_nat]
   rw [wrap_nat (show i<4611686018427387904 by omega)]
   refine Ev.ite_pos (by omega) (Ev.ite_pos (by omega) (Ev.bind (spec_DeedText.ev _ _ _) ?_))
   have hd:deedT (l.getD i z25).f0 (l.getD i z25).f1 (l.getD i z25).f2=dT (l.getD i z25):=rfl
   rw [hd]
   have hb:=jouB_size l i
   have ht:=dT_size (l.getD i z25)
   cases ho:dOk (l.getD i z25) with
   |false=>exact Ev.ite_pos ((dT_nil _).2 ho) (Ev.eq (Ev.now _) (jouT_no hlt ho).symm)
   |true=>
    refine Ev.ite_neg (fun e=>by rw [(dT_nil _).1 e] at ho;exact absurd ho (by simp)) (Ev.bind (spec_DeedText.ev _ _ _) ?_)
    rw [hd]
    refine Ev.ite_pos (by omega) (Ev.ite_pos (by rw [ByteArray.size_append];omega) ?_)
    have e:(jouB l i ++ dT (l.getD i z25)) ++ (⟨#[10]⟩:ByteArray)=jouB l (i+1):=by rw [jouB_succ hlt,ba_assoc];rfl
    rw [e]
    exact ih (i+1) (by omega) fun j hj=>by
     by_cases e2:j=i
     ·rw [e2];exact ho
     ·exact h j (by omega)
 unfold spec_JournalText.f
 exact key l.length 0 (by omega) (fun j hj=>absurd hj (by omega))
end Go.Proofs.YtddgcdpogpppgaaDoor.Print
end
section
namespace Go.Proofs.YtddgcdpogpppgaaDoor.Print
open Go.RowKit Go.Proofs.YtddgcdpogpppgaaDoorW.PrintWords Go.Proofs.YtddgcdpogpppgaaDoorW.PrintLast Go.Proofs.YtddgcdpogpppgaaDoorW.PrintMore
section
attribute [local go_sem] max2_int min2_int max_two min_two max_three min_three max_four min_four
def laws_szDeedS.f (l0 : List (S23)) (a1 : Int) : Option (Int) := if (wrap64 (a1 - (l0.length : Int))) < 0 then (some (-1)) else (some (wrap64 (a1 - (l0.length : Int))))
set_option maxHeartbeats 8000000 in
set_option maxRecDepth 100000 in
theorem laws_szDeedS.calls (A0 : Option Addr) (c0 : Nat) (l0 : List (S23)) (a1 : Int) (r : Int) (w : World) (hr0 : Kd.C k23 w A0 l0.length l0) (hc0 : l0.length ≤ c0) (h : laws_szDeedS.f l0 a1 = some r) :
  Calls Tryd.prog 13 #[.slice A0 l0.length c0, .int .i64 a1] w fun e w' => e = .returned (.int .i64 r) ∧ Drawn0 w w' := by
 have HR0 := Aside0.mk hr0
 have HC0 := Aside0.mk hc0
 clear hr0 hc0
 have H : (if (wrap64 (a1 - (l0.length : Int))) < 0 then (some (-1)) else (some (wrap64 (a1 - (l0.length : Int))))) = some r := h
 clear h
 by_cases c3 : (wrap64 (a1 - (l0.length : Int))) < 0
 ·rw [if_pos c3] at H
  have c3b0 : decide ((wrap64 (a1 - (l0.length : Int))) < 0) = true := decide_eq_true c3
  clear c3
  obtain rfl := Option.some.inj H
  go_enter Tryd.func13, Tryd.ntmps13
  go_wp2
  go_ret
  exact ⟨zq19, by repeat (first | exact Drawn0.refl _ | apply Drawn0.step)⟩
 ·rw [if_neg c3] at H
  have c3b0 : decide ((wrap64 (a1 - (l0.length : Int))) < 0) = false := decide_eq_false c3
  clear c3
  obtain rfl := Option.some.inj H
  go_enter Tryd.func13, Tryd.ntmps13
  go_wp2
  go_ret
  exact ⟨zq19, by repeat (first | exact Drawn0.refl _ | apply Drawn0.step)⟩
end
section
attribute [local go_sem] max2_int min2_int max_two min_two max_three min_three max_four min_four
def laws_toDeed.f (a0_0 : Int) (a0_1 : Int) (a0_2 : Int) : Option (Int × Int × Int) := some (a0_0, a0_1, a0_2)
set_option maxHeartbeats 8000000 in
set_option maxRecDepth 100000 in
theorem laws_toDeed.calls (a0_0 : Int) (a0_1 : Int) (a0_2 : Int) (r1 : Int) (r2 : Int) (r3 : Int) (w : World) (h : laws_toDeed.f a0_0 a0_1 a0_2 = some (r1, r2, r3)) :
  Calls Tryd.prog 11 #[.agg #[.int .i64 a0_0, .int .i64 a0_1, .int .i64 a0_2]] w fun e w' => e = .returned (.agg #[.int .i64 r1, .int .i64 r2, .int .i64 r3]) ∧ Below w.heap.size w w' := by
 have hu23:=Tryd.underlying23;have hu25:=Tryd.underlying25;have HB:=zqm (Below.refl w.heap.size w);have H:(some (a0_0,a0_1,a0_2))=some (r1,r2,r3):=h;clear h;simp only [Option.some.injEq,Prod.mk.injEq] at H;obtain⟨rfl,rfl,rfl⟩:=H
 go_enter Tryd.func11,Tryd.ntmps11
 go_wp2_with (first|((with_reducible refine gate_dst (N:=1) rfl ?_);refine box_event ?hg (N:=1) ?hd (cs:= #[.int .i64 a0_0,.int .i64 a0_1,.int .i64 a0_2]) (t:=23) ?hr ?_;(case hd=>rfl);(case hg=>rfl);(case hr=> exact zq5);intro a1 hg w2 hbox hb;have a8:=zqm (below_step zq0 hb);have a0:=zqm (hbox);have d6:=zqm ((by rw [hg];exact(below_size zq0):w.heap.size≤a1));have a6:=zqm ((by rw [hg];exact(below_size zq0):w.heap.size≤a1));clear HB;have HB:=a8;clear a8 hb hbox hg)|((with_reducible refine gate_dst (N:=2) rfl ?_);refine box_event ?hg (N:=2) ?hd (cs:= #[.int .i64 0,.int .i64 0,.int .i64 0]) (t:=25) ?hr ?_;(case hd=>rfl);(case hg=>rfl);(case hr=> exact zq5);intro a2 hg w3 hbox hb;have a8:=zqm (blk_below (g:=a1) (o:= .cells #[.int .i64 a0_0,.int .i64 a0_1,.int .i64 a0_2] 23 (0,0)) (zqe a0.out) hb);have b5:=zqm (below_step zq16 hb);have a3:=zqm (hbox);have d7:=zqm ((by rw [hg];exact(below_size zq16):w.heap.size≤a2));have a9:=zqm ((by rw [hg];exact(below_size zq16):w.heap.size≤a2));have b0:=zqm ((by rw [hg];exact Nat.ne_of_lt (blk_lt (g:=a1) (o:= .cells #[.int .i64 a0_0,.int .i64 a0_1,.int .i64 a0_2] 23 (0,0)) (zqe a0.out)):a1≠a2));have b2:=zqm ((by rw [hg];exact Nat.ne_of_gt (blk_lt (g:=a1) (o:= .cells #[.int .i64 a0_0,.int .i64 a0_1,.int .i64 a0_2] 23 (0,0)) (zqe a0.out)):a2≠a1));clear a0 HB;have a0:=a8;have HB:=b5;clear a8 b5 hb hbox hg)|((with_reducible refine gate_dst (N:=3) rfl ?_);refine box_event ?hg (N:=3) ?hd (cs:= #[.int .i64 0,.int .i64 0,.int .i64 0]) (t:=25) ?hr ?_;(case hd=>rfl);(case hg=>rfl);(case hr=> exact zq5);intro a4 hg w4 hbox hb;have a8:=zqm (blk_below (g:=a1) (o:= .cells #[.int .i64 a0_0,.int .i64 a0_1,.int .i64 a0_2] 23 (0,0)) (zqe a0.out) hb);have b5:=zqm (blk_below (g:=a2) (o:= .cells #[.int .i64 0,.int .i64 0,.int .i64 0] 25 (0,0)) (zqe a3.out) hb);have b7:=zqm (below_step zq10 hb);have a7:=zqm (hbox);have d8:=zqm ((by rw [hg];exact(below_size zq10):w.heap.size≤a4));have b6:=zqm ((by rw [hg];exact(below_size zq10):w.heap.size≤a4));have b1:=zqm ((by rw [hg];exact Nat.ne_of_lt (blk_lt (g:=a1) (o:= .cells #[.int .i64 a0_0,.int .i64 a0_1,.int .i64 a0_2] 23 (0,0)) (zqe a0.out)):a1≠a4));have b3:=zqm ((by rw [hg];exact Nat.ne_of_gt (blk_lt (g:=a1) (o:= .cells #[.int .i64 a0_0,.int .i64 a0_1,.int .i64 a0_2] 23 (0,0)) (zqe a0.out)):a4≠a1));have a5:=zqm ((by rw [hg];exact Nat.ne_of_lt (blk_lt (g:=a2) (o:= .cells #[.int .i64 0,.int .i64 0,.int .i64 0] 25 (0,0)) (zqe a3.out)):a2≠a4));have b4:=zqm ((by rw [hg];exact Nat.ne_of_gt (blk_lt (g:=a2) (o:= .cells #[.int .i64 0,.int .i64 0,.int .i64 0] 25 (0,0)) (zqe a3.out)):a4≠a2));clear a0 a3 HB;have a0:=a8;have a3:=b5;have HB:=b7;clear a8 b5 b7 hb hbox hg;have d9:=b0.out;have e2:=b2.out;have e0:=b1.out;have e3:=b3.out;have c4:w4.cell? ⟨a1,0,none⟩=some (.int .i64 a0_0):=(blk_cell a0.out 0).trans rfl;have c5:w4.cell? ⟨a1,1,none⟩=some (.int .i64 a0_1):=(blk_cell a0.out 1).trans rfl;have c6:w4.cell? ⟨a1,2,none⟩=some (.int .i64 a0_2):=(blk_cell a0.out 2).trans rfl;have d0:=blk_frozen a0.out 0;have d1:=blk_frozen a0.out 1;have d2:=blk_frozen a0.out 2;have e1:=b4.out;have e4:=a5.out;have c7:w4.cell? ⟨a4,0,none⟩=some (.int .i64 0):=(blk_cell a7.out 0).trans rfl;have c8:w4.cell? ⟨a4,1,none⟩=some (.int .i64 0):=(blk_cell a7.out 1).trans rfl;have c9:w4.cell? ⟨a4,2,none⟩=some (.int .i64 0):=(blk_cell a7.out 2).trans rfl;have d3:=blk_frozen a7.out 0;have d4:=blk_frozen a7.out 1;have d5:=blk_frozen a7.out 2;have b8:w4.cell? ⟨a2,0,none⟩=some (.int .i64 0):=(blk_cell a3.out 0).trans rfl;have b9:w4.cell? ⟨a2,1,none⟩=some (.int .i64 0):=(blk_cell a3.out 1).trans rfl;have c0:w4.cell? ⟨a2,2,none⟩=some (.int .i64 0):=(blk_cell a3.out 2).trans rfl;have c1:=blk_frozen a3.out 0;have c2:=blk_frozen a3.out 1;have c3:=blk_frozen a3.out 2))
 refine bodyPost_ret (results_cell_row rfl _ _ a2 25 #[.int .i64 a0_0,.int .i64 a0_1,.int .i64 a0_2] (0,0) _ rfl (by refine zqe ?_;refine blk_put (cs:= #[.int .i64 a0_0,.int .i64 a0_1,.int .i64 0]) ?_ 2 _ rfl;refine zqe ?_;refine blk_put (cs:= #[.int .i64 a0_0,.int .i64 0,.int .i64 0]) ?_ 1 _ rfl;refine zqe ?_;refine blk_put (cs:= #[.int .i64 0,.int .i64 0,.int .i64 0]) ?_ 0 _ rfl;refine zqe ?_;refine blk_far ?_ a5.out _;refine zqe ?_;refine blk_far ?_ a5.out _;refine zqe ?_;refine blk_far ?_ a5.out _;refine zqe ?_;exact a3.out) Tryd.underlying25 rfl zqk) rfl ?_;exact⟨zq2,by repeat(first|(with_reducible first|exact HB.out|apply below_alloc|apply pw_below_drewN|apply below_drew1|refine below_set ?_ a6.out|refine below_set ?_ a9.out|refine below_set ?_ b6.out)|exact HB.out)⟩
end
section
attribute [local go_sem] max2_int min2_int max_two min_two max_three min_three max_four min_four
def laws_toDeedS.l0 : Nat → List (S23) → List (S25) → Int → Option ((List (S25)))
 | 0, _, _, _ => none
 | k + 1, x0, x3, x4 => if x4 < (x0.length : Int) then (if 0 ≤ x4 then ((laws_toDeed.f ((rd_T23 x0 x4).f0) ((rd_T23 x0 x4).f1) ((rd_T23 x0 x4).f2)).bind fun bt158 => (if x4 < (x3.length : Int) then (laws_toDeedS.l0 k x0 (x3.set (x4 : Int).toNat (⟨bt158.1, bt158.2.1, bt158.2.2⟩ : S25)) (wrap64 (x4 + 1))) else (none))) else (none)) else (some x3)
def laws_toDeedS.f (k : Nat) (l0 : List (S23)) : Option ((List (S25))) := if 0 ≤ (l0.length : Int) then (if ((l0.length : Int) : Int).toNat ≤ 11728124029610 then (laws_toDeedS.l0 k l0 (List.replicate ((l0.length : Int) : Int).toNat z25) 0) else (none)) else (none)
set_option maxHeartbeats 8000000 in
set_option maxRecDepth 100000 in
theorem laws_toDeedS.calls (k : Nat) (A0 : Option Addr) (c0 : Nat) (l0 : List (S23)) (r : List (S25)) (w : World) (hr0 : Kd.C k23 w A0 l0.length l0) (hc0 : l0.length ≤ c0) (h : laws_toDeedS.f k l0 = some r) :
  Calls Tryd.prog 15 #[.slice A0 l0.length c0] w fun e w' => ∃ v0_ : Value, e = .returned (v0_) ∧ Kd.R k25 25 w' w.heap.size (fun _ => True) v0_ r ∧ Below w.heap.size w w' := by
 have hu23:=Tryd.underlying23;have hu25:=Tryd.underlying25;have f5:=zqm hr0;have g8:=zqm hc0;clear hr0 hc0;have HB:=zqm (Below.refl w.heap.size w);have H:(if 0≤(l0.length:Int) then(if((l0.length:Int):Int).toNat≤11728124029610 then(laws_toDeedS.l0 k l0 (List.replicate ((l0.length:Int):Int).toNat z25) 0) else(none)) else(none))=some r:=h;clear h
 by_cases c2:0≤(l0.length:Int)
 ·rw [if_pos c2] at H;have e4:=eq_true c2;have e5:decide (0≤(l0.length:Int))=true:=decide_eq_true c2;clear c2
  by_cases c3:((l0.length:Int):Int).toNat≤11728124029610
  ·rw [if_pos c3] at H;have e6:=eq_true c3;have e7:decide (((l0.length:Int):Int).toNat≤11728124029610)=true:=decide_eq_true c3;clear c3;obtain⟨d9,b2⟩: ∃y_:List (S25),y_=(List.replicate ((l0.length:Int):Int).toNat z25):=⟨_,rfl⟩;replace H:(laws_toDeedS.l0 k l0 d9 0)=some r:=zqy b2 H;have b8:=zqm b2;clear b2;have H':=zqm H;clear H
   go_enter Tryd.func15,Tryd.ntmps15
   go_wp2_with (first|((with_reducible refine gate_dst (N:=7) rfl ?_);refine Kd.R_make k25 _ 25 rfl (N:=7) rfl 31 _ _ rfl (l0.length:Int) rfl rfl Tryd.underlying31 (.agg #[(.int .i64 0),(.int .i64 0),(.int .i64 0)]) 24 info25 rfl (by decide) (by omega) z25 (ok:=fun _=>True) (okp:=fun _=>True) (k25_mkM _ _ _ z25) (fun _ hk=>hk) trivial (zqo) (Nat.le_trans (Nat.mul_le_mul_right _ (zqo:(l0.length:Int).toNat≤11728124029610)) (by omega)) (Below.refl _ _) (Nat.le_refl _) ?_;intro f4 w4 b4 hb hg_ hnew_;clear hg_ hnew_;(first|rw [← b8.out] at b4|(simp only [Int.reduceToNat] at b4;rw [← b8.out] at b4));have e0:=zqm (Kd.R_lower b4 (below_size zq0));replace HB:=zqm (below_step zq0 hb);clear hb b4))
   go_loopg [4] k (fun kq v4 w'=> ∃(a1:List (S25)) (a0:Int),v4= .int .i64 a0∧Aside0 (laws_toDeedS.l0 kq l0 a1 a0=some r)∧Aside0 (kq≤k)∧Aside0 (Kd.R k25 25 w' w.heap.size (fun _=>True) f4 a1)∧Aside0 (Below w.heap.size w w'))
   case atStart=>exact⟨(d9),(0),zq7,H',⟨Nat.le_refl _⟩,⟨zqfR e0.out⟩,⟨zq0⟩⟩
   case round=>
    clear H';(try clear c1);(try clear c2);(try clear e4);(try clear e5);(try clear p2);(try clear c3);(try clear e6);(try clear e7);obtain⟨a1,a0,rfl,HA,e3,HO_3,HB⟩:=hrel
    cases gk with
    |zero=>exact absurd HA.out (by simp [laws_toDeedS.l0])
    |succ k1=>
     have H:=HA.out;clear HA;simp only [laws_toDeedS.l0] at H
     by_cases c6:a0<(l0.length:Int)
     ·rw [if_pos c6] at H;have e8:decide (a0<(l0.length:Int))=true:=decide_eq_true c6;clear c6
      by_cases c7:0≤a0
      ·rw [if_pos c7] at H;have g3:decide (0≤a0)=true:=decide_eq_true c7;clear c7;replace H:=Option.bind_eq_some_iff.mp H;obtain⟨⟨a8,a9,b0⟩,e2,H⟩:=H;(try dsimp only at H);have A8:=zqm e2;clear e2
       by_cases c9:a0<(a1.length:Int)
       ·rw [if_pos c9] at H;have g4:decide (a0<(a1.length:Int))=true:=decide_eq_true c9;clear c9;obtain⟨b7,b3⟩: ∃y_:List (S25),y_=(a1.set (a0:Int).toNat (⟨a8,a9,b0⟩:S25)):=⟨_,rfl⟩;replace H:(laws_toDeedS.l0 k1 l0 b7 (wrap64 (a0+1)))=some r:=zqy b3 H;have e1:=zqm b3;clear b3;have H':=zqm H;clear H;have b5:0≤(a0:Int):=zqo;have b6:a0<(l0.length:Int):=zqo;obtain⟨g2,e9,a5,a6,a7⟩:=at_T23 f5.out a0 b5 b6
        cases e9
        replace a5:=(HB.out.cell (World.block_lt_of_cell? w _ a5)).trans a5;replace a6:=(HB.out.cell (World.block_lt_of_cell? w _ a6)).trans a6;replace a7:=(HB.out.cell (World.block_lt_of_cell? w _ a7)).trans a7;replace b5:=eq_true b5;replace b6:=eq_true b6
        go_wp2_with (first|((with_reducible refine gate_callee (f:=11) rfl ?_);refine goesL_ (some 20) rfl rfl Tryd.func11 zqk rfl #[.agg #[.int .i64 ((rd_T23 l0 a0).f0),.int .i64 ((rd_T23 l0 a0).f1),.int .i64 ((rd_T23 l0 a0).f2)]] rfl zq4 ?_;(with_reducible refine(laws_toDeed.calls ((rd_T23 l0 a0).f0) ((rd_T23 l0 a0).f1) ((rd_T23 l0 a0).f2) a8 a9 b0 _ A8.out).mono ?_);rintro e a4 ⟨rfl,hb⟩;refine⟨_,rfl,?_⟩;replace HO_3:=zqm (Kd.R_below (zqfR HO_3.out) hb);replace HB:=zqm (below_step zq0 hb);clear hb;have d6:0≤(a0:Int):=zqo;have d7:(a0:Int)<((a1.length:Int):Int):=zqo;obtain⟨a2,c4,c5,c8,f3,g7,b9⟩:=Kd.R_form HO_3.out (by omega);(first|cases c5|(injection c5 with ea_ en_ ec_;(first|subst ea_|(injection ea_ with ea_;subst ea_));subst ec_;clear en_));have GB10:=zqm c8;have GG10:=zqm b9;clear c8 f3 b9;obtain⟨g5,hcl10,hM10,b1,hfr10⟩:=Kd.R_elem HO_3.out z25 (a0:Int) d6 d7;obtain rfl:=k25_openM hM10;have f9:a4.cell? ⟨a2,(a0:Int).toNat*3,none⟩=some (.int .i64 ((rd_T25 a1 a0).f0)):=b1 0 _ rfl;have g0:a4.cell? ⟨a2,(a0:Int).toNat*3+1,none⟩=some (.int .i64 ((rd_T25 a1 a0).f1)):=b1 1 _ rfl;have g1:a4.cell? ⟨a2,(a0:Int).toNat*3+2,none⟩=some (.int .i64 ((rd_T25 a1 a0).f2)):=b1 2 _ rfl;have f6:a4.frozen? ⟨a2,(a0:Int).toNat*3,none⟩=false:=hfr10 0;have f7:a4.frozen? ⟨a2,(a0:Int).toNat*3+1,none⟩=false:=hfr10 1;have f8:a4.frozen? ⟨a2,(a0:Int).toNat*3+2,none⟩=false:=hfr10 2;clear hcl10 b1 hfr10;(try clear hM10);replace d6:=eq_true d6;replace d7:=eq_true d7;have HX12:=zqm (show Kd.R k25 25 a4 w.heap.size (fun _=>True) (.slice (some ⟨a2,0,none⟩) a1.length c4) a1 from (zqfR HO_3.out));obtain⟨g6,hcl12,hM12,a3,hfr12⟩:=Kd.R_elem HX12.out z25 (a0:Int) (zqo) (by have h_:(a0:Int)<((a1.length:Int):Int):=zqo;first|exact h_|(have e_:=(Kd.R_reads' HO_3.out).1;omega)|simpa using h_);obtain rfl:=k25_openM hM12;have HP12:=Kd.R_seg HX12.out (a0:Int) (zqo) (by have h_:(a0:Int)<((a1.length:Int):Int):=zqo;first|exact h_|(have e_:=(Kd.R_reads' HO_3.out).1;omega)|simpa using h_) (seg:= [.int .i64 a8,.int .i64 a9,.int .i64 b0]) (j:=0) hcl12 a3 (show 3≤3 from by decide) (x':=(⟨a8,a9,b0⟩:S25)) (k25_mkM _ _ _ (⟨a8,a9,b0⟩:S25)) (fun _ hk=>hk);have d3:=a3 0 _ rfl;(try simp only [show (k25).sz=3 from rfl,Nat.mul_one,Nat.add_zero] at d3);have d0:=hfr12 0;(try simp only [show (k25).sz=3 from rfl,Nat.mul_one,Nat.add_zero] at d0);have d4:=a3 1 _ rfl;(try simp only [show (k25).sz=3 from rfl,Nat.mul_one,Nat.add_zero] at d4);have d1:=hfr12 1;(try simp only [show (k25).sz=3 from rfl,Nat.mul_one,Nat.add_zero] at d1);have d5:=a3 2 _ rfl;(try simp only [show (k25).sz=3 from rfl,Nat.mul_one,Nat.add_zero] at d5);have d2:=hfr12 2;(try simp only [show (k25).sz=3 from rfl,Nat.mul_one,Nat.add_zero] at d2);clear hcl12 a3 hfr12;(try clear hM12))|((with_reducible refine gate_store (t:=25) (p:=21) rfl ?_);refine store_event (t:=25) (p:=21) (v:=?vo_w13) (w1:=(((a4.setCell ⟨a2,(a0:Int).toNat*3,none⟩ (.int .i64 a8)).setCell ⟨a2,(a0:Int).toNat*3+1,none⟩ (.int .i64 a9)).setCell ⟨a2,(a0:Int).toNat*3+2,none⟩ (.int .i64 b0))) ?hg ?ho ?hn ?hr ?_;(case ho=>rfl);(case hg=>rfl);(case hn=>rfl);(case hr=> exact zq5);intro d8 hw;have hg:a4.grownBy d8 (some a2):=(by rw [hw];exact HP12.2);have hp_:Kd.R k25 25 d8 w.heap.size (fun _=>True) (.slice (some ⟨a2,0,none⟩) a1.length c4) b7:=(by rw [hw,e1.out];exact HP12.1);clear HP12;replace HO_3:=zqm (hp_);replace HB:=zqm ((by rw [hw];exact below_set (below_set (below_set (HB.out) GB10.out) GB10.out) GB10.out:Below w.heap.size w d8));clear hg hw hp_))
        go_roundg k1
        (case measure=>have:=e3.out;omega);case rel=>exact⟨(b7),(wrap64 (a0+1)),zq7,H',⟨by have:=e3.out;omega⟩,⟨zqfR HO_3.out⟩,⟨zq0⟩⟩
       ·rw [if_neg c9] at H;exact absurd H (by simp)
      ·rw [if_neg c7] at H;exact absurd H (by simp)
     ·rw [if_neg c6] at H;have e8:decide (a0<(l0.length:Int))=false:=decide_eq_false c6;clear c6;obtain rfl:=Option.some.inj H
      go_wp2
      go_ret
      exact⟨_,zq2,zqfR HO_3.out,zq0⟩
  ·rw [if_neg c3] at H;exact absurd H (by simp)
 ·rw [if_neg c2] at H;exact absurd H (by simp)
end
section
attribute [local go_sem] max2_int min2_int max_two min_two max_three min_three max_four min_four
def laws_eqDeed.f (a0_0 : Int) (a0_1 : Int) (a0_2 : Int) (a1_0 : Int) (a1_1 : Int) (a1_2 : Int) : Option (Bool) := if a0_0 = a1_0 then (if a0_1 = a1_1 then (if a0_2 = a1_2 then (some true) else (some false)) else (some false)) else (some false)
set_option maxHeartbeats 8000000 in
set_option maxRecDepth 100000 in
theorem laws_eqDeed.calls (a0_0 : Int) (a0_1 : Int) (a0_2 : Int) (a1_0 : Int) (a1_1 : Int) (a1_2 : Int) (r : Bool) (w : World) (h : laws_eqDeed.f a0_0 a0_1 a0_2 a1_0 a1_1 a1_2 = some r) :
  Calls Tryd.prog 20 #[.agg #[.int .i64 a0_0, .int .i64 a0_1, .int .i64 a0_2], .agg #[.int .i64 a1_0, .int .i64 a1_1, .int .i64 a1_2]] w fun e w' => e = .returned (.bool r) ∧ Below w.heap.size w w' := by
 have hu25:=Tryd.underlying25;have HB:=zqm (Below.refl w.heap.size w);have H:(if a0_0=a1_0 then(if a0_1=a1_1 then(if a0_2=a1_2 then(some true) else(some false)) else(some false)) else(some false))=some r:=h;clear h
 by_cases c3:a0_0=a1_0
 ·rw [if_pos c3] at H;have b5:(a0_0==a1_0)=true:=beq_iff_eq.mpr c3;have b6:(a0_0 !=a1_0)=false:=bne_eq_false_iff_eq.mpr c3;clear c3
  by_cases c4:a0_1=a1_1
  ·rw [if_pos c4] at H;have b7:(a0_1==a1_1)=true:=beq_iff_eq.mpr c4;have b8:(a0_1 !=a1_1)=false:=bne_eq_false_iff_eq.mpr c4;clear c4
   by_cases c5:a0_2=a1_2
   ·rw [if_pos c5] at H;have b9:(a0_2==a1_2)=true:=beq_iff_eq.mpr c5;have c0:(a0_2 !=a1_2)=false:=bne_eq_false_iff_eq.mpr c5;clear c5;obtain rfl:=Option.some.inj H
    go_enter Tryd.func20,Tryd.ntmps20
    go_wp2_with (first|((with_reducible refine gate_dst (N:=2) rfl ?_);refine box_event ?hg (N:=2) ?hd (cs:= #[.int .i64 a0_0,.int .i64 a0_1,.int .i64 a0_2]) (t:=25) ?hr ?_;(case hd=>rfl);(case hg=>rfl);(case hr=> exact zq5);intro a1 hg w6 hbox hb;have a7:=zqm (below_step zq0 hb);have a0:=zqm (hbox);have b3:=zqm ((by rw [hg];exact(below_size zq0):w.heap.size≤a1));have a4:=zqm ((by rw [hg];exact(below_size zq0):w.heap.size≤a1));clear HB;have HB:=a7;clear a7 hb hbox hg)|((with_reducible refine gate_dst (N:=3) rfl ?_);refine box_event ?hg (N:=3) ?hd (cs:= #[.int .i64 a1_0,.int .i64 a1_1,.int .i64 a1_2]) (t:=25) ?hr ?_;(case hd=>rfl);(case hg=>rfl);(case hr=> exact zq5);intro a2 hg w7 hbox hb;have a7:=zqm (blk_below (g:=a1) (o:= .cells #[.int .i64 a0_0,.int .i64 a0_1,.int .i64 a0_2] 25 (0,0)) (zqe a0.out) hb);have a9:=zqm (below_step zq3 hb);have a3:=zqm (hbox);have b4:=zqm ((by rw [hg];exact(below_size zq3):w.heap.size≤a2));have a8:=zqm ((by rw [hg];exact(below_size zq3):w.heap.size≤a2));have a5:=zqm ((by rw [hg];exact Nat.ne_of_lt (blk_lt (g:=a1) (o:= .cells #[.int .i64 a0_0,.int .i64 a0_1,.int .i64 a0_2] 25 (0,0)) (zqe a0.out)):a1≠a2));have a6:=zqm ((by rw [hg];exact Nat.ne_of_gt (blk_lt (g:=a1) (o:= .cells #[.int .i64 a0_0,.int .i64 a0_1,.int .i64 a0_2] 25 (0,0)) (zqe a0.out)):a2≠a1));clear a0 HB;have a0:=a7;have HB:=a9;clear a7 a9 hb hbox hg;have h8:=a5.out;have h9:=a6.out;have g6:w7.cell? ⟨a1,0,none⟩=some (.int .i64 a0_0):=(blk_cell a0.out 0).trans rfl;have g7:w7.cell? ⟨a1,1,none⟩=some (.int .i64 a0_1):=(blk_cell a0.out 1).trans rfl;have g8:w7.cell? ⟨a1,2,none⟩=some (.int .i64 a0_2):=(blk_cell a0.out 2).trans rfl;have g9:=blk_frozen a0.out 0;have h0:=blk_frozen a0.out 1;have h1:=blk_frozen a0.out 2;have c1:w7.cell? ⟨a2,0,none⟩=some (.int .i64 a1_0):=(blk_cell a3.out 0).trans rfl;have c2:w7.cell? ⟨a2,1,none⟩=some (.int .i64 a1_1):=(blk_cell a3.out 1).trans rfl;have c6:w7.cell? ⟨a2,2,none⟩=some (.int .i64 a1_2):=(blk_cell a3.out 2).trans rfl;have e5:=blk_frozen a3.out 0;have e6:=blk_frozen a3.out 1;have e7:=blk_frozen a3.out 2))
    go_ret
    exact⟨zq2,zq8⟩
   ·rw [if_neg c5] at H;have b9:(a0_2==a1_2)=false:=beq_eq_false_iff_ne.mpr c5;have c0:(a0_2 !=a1_2)=true:=bne_iff_ne.mpr c5;obtain rfl:=Option.some.inj H
    go_enter Tryd.func20,Tryd.ntmps20
    go_wp2_with (first|((with_reducible refine gate_dst (N:=2) rfl ?_);refine box_event ?hg (N:=2) ?hd (cs:= #[.int .i64 a0_0,.int .i64 a0_1,.int .i64 a0_2]) (t:=25) ?hr ?_;(case hd=>rfl);(case hg=>rfl);(case hr=> exact zq5);intro a1 hg i0 hbox hb;have a7:=zqm (below_step zq0 hb);have a0:=zqm (hbox);have b3:=zqm ((by rw [hg];exact(below_size zq0):w.heap.size≤a1));have a4:=zqm ((by rw [hg];exact(below_size zq0):w.heap.size≤a1));clear HB;have HB:=a7;clear a7 hb hbox hg)|((with_reducible refine gate_dst (N:=3) rfl ?_);refine box_event ?hg (N:=3) ?hd (cs:= #[.int .i64 a1_0,.int .i64 a1_1,.int .i64 a1_2]) (t:=25) ?hr ?_;(case hd=>rfl);(case hg=>rfl);(case hr=> exact zq5);intro a2 hg b0 hbox hb;have a7:=zqm (blk_below (g:=a1) (o:= .cells #[.int .i64 a0_0,.int .i64 a0_1,.int .i64 a0_2] 25 (0,0)) (zqe a0.out) hb);have a9:=zqm (below_step zq3 hb);have a3:=zqm (hbox);have b4:=zqm ((by rw [hg];exact(below_size zq3):w.heap.size≤a2));have a8:=zqm ((by rw [hg];exact(below_size zq3):w.heap.size≤a2));have a5:=zqm ((by rw [hg];exact Nat.ne_of_lt (blk_lt (g:=a1) (o:= .cells #[.int .i64 a0_0,.int .i64 a0_1,.int .i64 a0_2] 25 (0,0)) (zqe a0.out)):a1≠a2));have a6:=zqm ((by rw [hg];exact Nat.ne_of_gt (blk_lt (g:=a1) (o:= .cells #[.int .i64 a0_0,.int .i64 a0_1,.int .i64 a0_2] 25 (0,0)) (zqe a0.out)):a2≠a1));clear a0 HB;have a0:=a7;have HB:=a9;clear a7 a9 hb hbox hg;have h2:=a5.out;have h5:=a6.out;have c7:b0.cell? ⟨a1,0,none⟩=some (.int .i64 a0_0):=(blk_cell a0.out 0).trans rfl;have c8:b0.cell? ⟨a1,1,none⟩=some (.int .i64 a0_1):=(blk_cell a0.out 1).trans rfl;have c9:b0.cell? ⟨a1,2,none⟩=some (.int .i64 a0_2):=(blk_cell a0.out 2).trans rfl;have e8:=blk_frozen a0.out 0;have e9:=blk_frozen a0.out 1;have f0:=blk_frozen a0.out 2;have d0:b0.cell? ⟨a2,0,none⟩=some (.int .i64 a1_0):=(blk_cell a3.out 0).trans rfl;have d1:b0.cell? ⟨a2,1,none⟩=some (.int .i64 a1_1):=(blk_cell a3.out 1).trans rfl;have d2:b0.cell? ⟨a2,2,none⟩=some (.int .i64 a1_2):=(blk_cell a3.out 2).trans rfl;have f1:=blk_frozen a3.out 0;have f2:=blk_frozen a3.out 1;have f3:=blk_frozen a3.out 2))
    go_ret
    exact⟨zq2,zq8⟩
  ·rw [if_neg c4] at H;have b7:(a0_1==a1_1)=false:=beq_eq_false_iff_ne.mpr c4;have b8:(a0_1 !=a1_1)=true:=bne_iff_ne.mpr c4;obtain rfl:=Option.some.inj H
   go_enter Tryd.func20,Tryd.ntmps20
   go_wp2_with (first|((with_reducible refine gate_dst (N:=2) rfl ?_);refine box_event ?hg (N:=2) ?hd (cs:= #[.int .i64 a0_0,.int .i64 a0_1,.int .i64 a0_2]) (t:=25) ?hr ?_;(case hd=>rfl);(case hg=>rfl);(case hr=> exact zq5);intro a1 hg i1 hbox hb;have a7:=zqm (below_step zq0 hb);have a0:=zqm (hbox);have b3:=zqm ((by rw [hg];exact(below_size zq0):w.heap.size≤a1));have a4:=zqm ((by rw [hg];exact(below_size zq0):w.heap.size≤a1));clear HB;have HB:=a7;clear a7 hb hbox hg)|((with_reducible refine gate_dst (N:=3) rfl ?_);refine box_event ?hg (N:=3) ?hd (cs:= #[.int .i64 a1_0,.int .i64 a1_1,.int .i64 a1_2]) (t:=25) ?hr ?_;(case hd=>rfl);(case hg=>rfl);(case hr=> exact zq5);intro a2 hg b1 hbox hb;have a7:=zqm (blk_below (g:=a1) (o:= .cells #[.int .i64 a0_0,.int .i64 a0_1,.int .i64 a0_2] 25 (0,0)) (zqe a0.out) hb);have a9:=zqm (below_step zq3 hb);have a3:=zqm (hbox);have b4:=zqm ((by rw [hg];exact(below_size zq3):w.heap.size≤a2));have a8:=zqm ((by rw [hg];exact(below_size zq3):w.heap.size≤a2));have a5:=zqm ((by rw [hg];exact Nat.ne_of_lt (blk_lt (g:=a1) (o:= .cells #[.int .i64 a0_0,.int .i64 a0_1,.int .i64 a0_2] 25 (0,0)) (zqe a0.out)):a1≠a2));have a6:=zqm ((by rw [hg];exact Nat.ne_of_gt (blk_lt (g:=a1) (o:= .cells #[.int .i64 a0_0,.int .i64 a0_1,.int .i64 a0_2] 25 (0,0)) (zqe a0.out)):a2≠a1));clear a0 HB;have a0:=a7;have HB:=a9;clear a7 a9 hb hbox hg;have h3:=a5.out;have h6:=a6.out;have d3:b1.cell? ⟨a1,0,none⟩=some (.int .i64 a0_0):=(blk_cell a0.out 0).trans rfl;have d4:b1.cell? ⟨a1,1,none⟩=some (.int .i64 a0_1):=(blk_cell a0.out 1).trans rfl;have d5:b1.cell? ⟨a1,2,none⟩=some (.int .i64 a0_2):=(blk_cell a0.out 2).trans rfl;have f4:=blk_frozen a0.out 0;have f5:=blk_frozen a0.out 1;have f6:=blk_frozen a0.out 2;have d6:b1.cell? ⟨a2,0,none⟩=some (.int .i64 a1_0):=(blk_cell a3.out 0).trans rfl;have d7:b1.cell? ⟨a2,1,none⟩=some (.int .i64 a1_1):=(blk_cell a3.out 1).trans rfl;have d8:b1.cell? ⟨a2,2,none⟩=some (.int .i64 a1_2):=(blk_cell a3.out 2).trans rfl;have f7:=blk_frozen a3.out 0;have f8:=blk_frozen a3.out 1;have f9:=blk_frozen a3.out 2))
   go_ret
   exact⟨zq2,zq8⟩
 ·rw [if_neg c3] at H;have b5:(a0_0==a1_0)=false:=beq_eq_false_iff_ne.mpr c3;have b6:(a0_0 !=a1_0)=true:=bne_iff_ne.mpr c3;obtain rfl:=Option.some.inj H
  go_enter Tryd.func20,Tryd.ntmps20
  go_wp2_with (first|((with_reducible refine gate_dst (N:=2) rfl ?_);refine box_event ?hg (N:=2) ?hd (cs:= #[.int .i64 a0_0,.int .i64 a0_1,.int .i64 a0_2]) (t:=25) ?hr ?_;(case hd=>rfl);(case hg=>rfl);(case hr=> exact zq5);intro a1 hg i2 hbox hb;have a7:=zqm (below_step zq0 hb);have a0:=zqm (hbox);have b3:=zqm ((by rw [hg];exact(below_size zq0):w.heap.size≤a1));have a4:=zqm ((by rw [hg];exact(below_size zq0):w.heap.size≤a1));clear HB;have HB:=a7;clear a7 hb hbox hg)|((with_reducible refine gate_dst (N:=3) rfl ?_);refine box_event ?hg (N:=3) ?hd (cs:= #[.int .i64 a1_0,.int .i64 a1_1,.int .i64 a1_2]) (t:=25) ?hr ?_;(case hd=>rfl);(case hg=>rfl);(case hr=> exact zq5);intro a2 hg b2 hbox hb;have a7:=zqm (blk_below (g:=a1) (o:= .cells #[.int .i64 a0_0,.int .i64 a0_1,.int .i64 a0_2] 25 (0,0)) (zqe a0.out) hb);have a9:=zqm (below_step zq3 hb);have a3:=zqm (hbox);have b4:=zqm ((by rw [hg];exact(below_size zq3):w.heap.size≤a2));have a8:=zqm ((by rw [hg];exact(below_size zq3):w.heap.size≤a2));have a5:=zqm ((by rw [hg];exact Nat.ne_of_lt (blk_lt (g:=a1) (o:= .cells #[.int .i64 a0_0,.int .i64 a0_1,.int .i64 a0_2] 25 (0,0)) (zqe a0.out)):a1≠a2));have a6:=zqm ((by rw [hg];exact Nat.ne_of_gt (blk_lt (g:=a1) (o:= .cells #[.int .i64 a0_0,.int .i64 a0_1,.int .i64 a0_2] 25 (0,0)) (zqe a0.out)):a2≠a1));clear a0 HB;have a0:=a7;have HB:=a9;clear a7 a9 hb hbox hg;have h4:=a5.out;have h7:=a6.out;have d9:b2.cell? ⟨a1,0,none⟩=some (.int .i64 a0_0):=(blk_cell a0.out 0).trans rfl;have e0:b2.cell? ⟨a1,1,none⟩=some (.int .i64 a0_1):=(blk_cell a0.out 1).trans rfl;have e1:b2.cell? ⟨a1,2,none⟩=some (.int .i64 a0_2):=(blk_cell a0.out 2).trans rfl;have g0:=blk_frozen a0.out 0;have g1:=blk_frozen a0.out 1;have g2:=blk_frozen a0.out 2;have e2:b2.cell? ⟨a2,0,none⟩=some (.int .i64 a1_0):=(blk_cell a3.out 0).trans rfl;have e3:b2.cell? ⟨a2,1,none⟩=some (.int .i64 a1_1):=(blk_cell a3.out 1).trans rfl;have e4:b2.cell? ⟨a2,2,none⟩=some (.int .i64 a1_2):=(blk_cell a3.out 2).trans rfl;have g3:=blk_frozen a3.out 0;have g4:=blk_frozen a3.out 1;have g5:=blk_frozen a3.out 2))
  go_ret
  exact⟨zq2,zq8⟩
end
section
attribute [local go_sem] max2_int min2_int max_two min_two max_three min_three max_four min_four
def laws_eqDeedS.l0 : Nat → List (S25) → List (S25) → Int → Option (Bool)
 | 0, _, _, _ => none
 | k + 1, x0, x1, x5 => if x5 < (x0.length : Int) then (if 0 ≤ x5 then (if x5 < (x1.length : Int) then ((laws_eqDeed.f ((rd_T25 x0 x5).f0) ((rd_T25 x0 x5).f1) ((rd_T25 x0 x5).f2) ((rd_T25 x1 x5).f0) ((rd_T25 x1 x5).f1) ((rd_T25 x1 x5).f2)).bind fun t168 => (if t168 = true then (laws_eqDeedS.l0 k x0 x1 (wrap64 (x5 + 1))) else (some false))) else (none)) else (none)) else (some true)
def laws_eqDeedS.f (k : Nat) (l0 : List (S25)) (l1 : List (S25)) : Option (Bool) := if (l0.length : Int) = (l1.length : Int) then (laws_eqDeedS.l0 k l0 l1 0) else (some false)
def laws_eqDeedS.T6 : Bool × List (List Nat × List Nat) := (true, [([], []), ([], []), ([0, 1], [0, 1]), ([2], [2]), ([], []), ([], []), ([4, 5], [4, 5]), ([6], [6]), ([3, 7], [3, 7]), ([8], [8])])
def laws_eqDeedS.B6 : List Nat := [0, 0, 3, 7, 0, 0, 48, 112, 255, 511]
theorem laws_eqDeedS.tab6 : rtab .any (opsOf Tryd.f17 6) = laws_eqDeedS.T6 := by kernel_rfl
theorem laws_eqDeedS.bits6 : waitsOk laws_eqDeedS.T6.2 laws_eqDeedS.B6 = true := by kernel_rfl
set_option maxHeartbeats 8000000 in
set_option maxRecDepth 100000 in
theorem laws_eqDeedS.calls (k : Nat) (A0 : Option Addr) (c0 : Nat) (l0 : List (S25)) (A1 : Option Addr) (c1 : Nat) (l1 : List (S25)) (r : Bool) (w : World) (hr0 : Kd.C k25 w A0 l0.length l0) (hc0 : l0.length ≤ c0) (hr1 : Kd.C k25 w A1 l1.length l1) (hc1 : l1.length ≤ c1) (h : laws_eqDeedS.f k l0 l1 = some r) :
  Calls Tryd.prog 17 #[.slice A0 l0.length c0, .slice A1 l1.length c1] w fun e w' => e = .returned (.bool r) ∧ Below w.heap.size w w' := by
 have hu25:=Tryd.underlying25;have c2:=zqm hr0;have d3:=zqm hc0;clear hr0 hc0;have c7:=zqm hr1;have d4:=zqm hc1;clear hr1 hc1;have HB:=zqm (Below.refl w.heap.size w);have H:(if(l0.length:Int)=(l1.length:Int) then(laws_eqDeedS.l0 k l0 l1 0) else(some false))=some r:=h;clear h
 by_cases c3:(l0.length:Int)=(l1.length:Int)
 ·rw [if_pos c3] at H;have b5:((l0.length:Int)==(l1.length:Int))=true:=beq_iff_eq.mpr c3;have b6:((l0.length:Int) !=(l1.length:Int))=false:=bne_eq_false_iff_eq.mpr c3;(have b7:(l0.length==l1.length)=true:=by first|simpa using c3|(simp at c3 ⊢;omega));clear c3;have H':=zqm H;clear H
  go_enter Tryd.func17,Tryd.ntmps17
  go_wp2
  go_loopg [5] k (fun kq v5 w'=> ∃(a0:Int),v5= .int .i64 a0∧Aside0 (laws_eqDeedS.l0 kq l0 l1 a0=some r)∧Aside0 (kq≤k)∧Aside0 (Below w.heap.size w w'))
  case atStart=>exact⟨(0),zq7,H',⟨Nat.le_refl _⟩,⟨zq0⟩⟩
  case round=>
   clear H';(try clear c1);(try clear p2);(try clear c3);(try clear b5);(try clear b6);(try clear b7);obtain⟨a0,rfl,HA,b9,HB⟩:=hrel
   cases gk with
   |zero=>exact absurd HA.out (by simp [laws_eqDeedS.l0])
   |succ k1=>
    have H:=HA.out;clear HA;simp only [laws_eqDeedS.l0] at H
    by_cases c4:a0<(l0.length:Int)
    ·rw [if_pos c4] at H;have c9:decide (a0<(l0.length:Int))=true:=decide_eq_true c4;clear c4
     by_cases c5:0≤a0
     ·rw [if_pos c5] at H;have d1:decide (0≤a0)=true:=decide_eq_true c5;clear c5
      by_cases c6:a0<(l1.length:Int)
      ·rw [if_pos c6] at H;have d2:decide (a0<(l1.length:Int))=true:=decide_eq_true c6;clear c6;replace H:=Option.bind_eq_some_iff.mp H;obtain⟨d0,b8,H⟩:=H;(try dsimp only at H);have A7:=zqm b8;clear b8
       by_cases c8:d0=true
       ·subst c8;rw [if_pos rfl] at H;have H':=zqm H;clear H;(try go_wp2);replace HB:=zqm (below_drew1 HB.out);have a9:0≤(a0:Int):=zqo;have b1:a0<(l0.length:Int):=zqo;obtain⟨a7,b3,a1,a2,a3⟩:=at_T25 c2.out a0 a9 b1;have hw166_2:=a3;have hw166_1:=a2;have hw166_0:=a1
        cases b3
        replace a1:=(HB.out.cell (World.block_lt_of_cell? w _ a1)).trans a1;replace a2:=(HB.out.cell (World.block_lt_of_cell? w _ a2)).trans a2;replace a3:=(HB.out.cell (World.block_lt_of_cell? w _ a3)).trans a3;replace a9:=eq_true a9;replace b1:=eq_true b1;have b0:0≤(a0:Int):=zqo;have b2:a0<(l1.length:Int):=zqo;obtain⟨a8,b4,a4,a5,a6⟩:=at_T25 c7.out a0 b0 b2;have hw167_2:=a6;have hw167_1:=a5;have hw167_0:=a4
        cases b4
        replace a4:=(HB.out.cell (World.block_lt_of_cell? w _ a4)).trans a4;replace a5:=(HB.out.cell (World.block_lt_of_cell? w _ a5)).trans a5;replace a6:=(HB.out.cell (World.block_lt_of_cell? w _ a6)).trans a6;replace b0:=eq_true b0;replace b2:=eq_true b2;refine start_ (n:=10) (S:=fun w'=>w'.cell? (a7.add ((a0).toNat*3))=some (.int .i64 ((rd_T25 l0 a0).f0))∧w'.cell? ⟨(a7.add ((a0).toNat*3)).block,(a7.add ((a0).toNat*3)).off+1,none⟩=some (.int .i64 ((rd_T25 l0 a0).f1))∧w'.cell? ⟨(a7.add ((a0).toNat*3)).block,(a7.add ((a0).toNat*3)).off+2,none⟩=some (.int .i64 ((rd_T25 l0 a0).f2))∧w'.cell? (a8.add ((a0).toNat*3))=some (.int .i64 ((rd_T25 l1 a0).f0))∧w'.cell? ⟨(a8.add ((a0).toNat*3)).block,(a8.add ((a0).toNat*3)).off+1,none⟩=some (.int .i64 ((rd_T25 l1 a0).f1))∧w'.cell? ⟨(a8.add ((a0).toNat*3)).block,(a8.add ((a0).toNat*3)).off+2,none⟩=some (.int .i64 ((rd_T25 l1 a0).f2))) (ds:= []) (zqb 10 0) zqk rfl rfl ⟨((HB.out.cell (World.block_lt_of_cell? w _ hw166_0)).trans hw166_0),((HB.out.cell (World.block_lt_of_cell? w _ hw166_1)).trans hw166_1),((HB.out.cell (World.block_lt_of_cell? w _ hw166_2)).trans hw166_2),((HB.out.cell (World.block_lt_of_cell? w _ hw167_0)).trans hw167_0),((HB.out.cell (World.block_lt_of_cell? w _ hw167_1)).trans hw167_1),((HB.out.cell (World.block_lt_of_cell? w _ hw167_2)).trans hw167_2)⟩ (fun hHeld=>?_);refine with_tabW laws_eqDeedS.tab6 laws_eqDeedS.bits6 (fun HT_ HW_=>?_);generalize wr.drew=w9 at HB a1 a2 a3 a4 a5 a6 hHeld ⊢;refine zqp 0 17 (zqb 10 1) HT_ ?_;refine zqp 1 18 (zqb 10 3) HT_ ?_;refine zqp 2 19 (zqb 10 7) HT_ ?_;refine zqp 4 21 (zqb 10 23) HT_ ?_;refine zqp 5 22 (zqb 10 55) HT_ ?_;refine zqp 6 23 (zqb 10 119) HT_ ?_;refine zqw 3 20 (zqb 10 127) HT_ HW_ hHeld ?_;refine zqw 7 24 (zqb 10 255) HT_ HW_ hHeld ?_;refine one_ (i:=8) (N:=some 25) (zqb 10 511) rfl rfl (one_of HT_.out zqk) (by decide) (fun K hK=>?_);refine goes_ Tryd.func20 zqk rfl #[.agg #[.int .i64 ((rd_T25 l0 a0).f0),.int .i64 ((rd_T25 l0 a0).f1),.int .i64 ((rd_T25 l0 a0).f2)],.agg #[.int .i64 ((rd_T25 l1 a0).f0),.int .i64 ((rd_T25 l1 a0).f1),.int .i64 ((rd_T25 l1 a0).f2)]] (by rfl) rfl rfl zq4 ?_;(with_reducible refine(laws_eqDeed.calls ((rd_T25 l0 a0).f0) ((rd_T25 l0 a0).f1) ((rd_T25 l0 a0).f2) ((rd_T25 l1 a0).f0) ((rd_T25 l1 a0).f1) ((rd_T25 l1 a0).f2) true _ A7.out).mono ?_);rintro e d5 ⟨rfl,hb⟩;refine⟨_,rfl,?_⟩;replace HB:=zqm (below_step zq0 hb);clear hb;refine hK.out _ _ ⟨((HB.out.cell (World.block_lt_of_cell? w _ hw166_0)).trans hw166_0),((HB.out.cell (World.block_lt_of_cell? w _ hw166_1)).trans hw166_1),((HB.out.cell (World.block_lt_of_cell? w _ hw166_2)).trans hw166_2),((HB.out.cell (World.block_lt_of_cell? w _ hw167_0)).trans hw167_0),((HB.out.cell (World.block_lt_of_cell? w _ hw167_1)).trans hw167_1),((HB.out.cell (World.block_lt_of_cell? w _ hw167_2)).trans hw167_2)⟩ (fun hHeld=>?_);clear hK K;refine norm_ (a':=?_) ?_ ?_;rotate_left
        ·show Act.put _ (some 25) _=_;exact zqs
        refine zqp 9 26 (zqb 10 1023) HT_ ?_;refine done_ (done_of HT_.out zqk) ?_;try go_wp2
        go_roundg k1
        (case measure=>have:=b9.out;omega);case rel=>exact⟨(wrap64 (a0+1)),zq7,H',⟨by have:=b9.out;omega⟩,⟨zq0⟩⟩
       ·replace c8:=Bool.eq_false_iff.mpr c8;subst c8;rw [if_neg (show¬(false=true) by decide)] at H;obtain rfl:=Option.some.inj H;(try go_wp2);replace HB:=zqm (below_drew1 HB.out);have a9:0≤(a0:Int):=zqo;have b1:a0<(l0.length:Int):=zqo;obtain⟨a7,b3,a1,a2,a3⟩:=at_T25 c2.out a0 a9 b1;have hw166_2:=a3;have hw166_1:=a2;have hw166_0:=a1
        cases b3
        replace a1:=(HB.out.cell (World.block_lt_of_cell? w _ a1)).trans a1;replace a2:=(HB.out.cell (World.block_lt_of_cell? w _ a2)).trans a2;replace a3:=(HB.out.cell (World.block_lt_of_cell? w _ a3)).trans a3;replace a9:=eq_true a9;replace b1:=eq_true b1;have b0:0≤(a0:Int):=zqo;have b2:a0<(l1.length:Int):=zqo;obtain⟨a8,b4,a4,a5,a6⟩:=at_T25 c7.out a0 b0 b2;have hw167_2:=a6;have hw167_1:=a5;have hw167_0:=a4
        cases b4
        replace a4:=(HB.out.cell (World.block_lt_of_cell? w _ a4)).trans a4;replace a5:=(HB.out.cell (World.block_lt_of_cell? w _ a5)).trans a5;replace a6:=(HB.out.cell (World.block_lt_of_cell? w _ a6)).trans a6;replace b0:=eq_true b0;replace b2:=eq_true b2;refine start_ (n:=10) (S:=fun w'=>w'.cell? (a7.add ((a0).toNat*3))=some (.int .i64 ((rd_T25 l0 a0).f0))∧w'.cell? ⟨(a7.add ((a0).toNat*3)).block,(a7.add ((a0).toNat*3)).off+1,none⟩=some (.int .i64 ((rd_T25 l0 a0).f1))∧w'.cell? ⟨(a7.add ((a0).toNat*3)).block,(a7.add ((a0).toNat*3)).off+2,none⟩=some (.int .i64 ((rd_T25 l0 a0).f2))∧w'.cell? (a8.add ((a0).toNat*3))=some (.int .i64 ((rd_T25 l1 a0).f0))∧w'.cell? ⟨(a8.add ((a0).toNat*3)).block,(a8.add ((a0).toNat*3)).off+1,none⟩=some (.int .i64 ((rd_T25 l1 a0).f1))∧w'.cell? ⟨(a8.add ((a0).toNat*3)).block,(a8.add ((a0).toNat*3)).off+2,none⟩=some (.int .i64 ((rd_T25 l1 a0).f2))) (ds:= []) (zqb 10 0) zqk rfl rfl ⟨((HB.out.cell (World.block_lt_of_cell? w _ hw166_0)).trans hw166_0),((HB.out.cell (World.block_lt_of_cell? w _ hw166_1)).trans hw166_1),((HB.out.cell (World.block_lt_of_cell? w _ hw166_2)).trans hw166_2),((HB.out.cell (World.block_lt_of_cell? w _ hw167_0)).trans hw167_0),((HB.out.cell (World.block_lt_of_cell? w _ hw167_1)).trans hw167_1),((HB.out.cell (World.block_lt_of_cell? w _ hw167_2)).trans hw167_2)⟩ (fun hHeld=>?_);refine with_tabW laws_eqDeedS.tab6 laws_eqDeedS.bits6 (fun HT_ HW_=>?_);generalize wr.drew=d6 at HB a1 a2 a3 a4 a5 a6 hHeld ⊢;refine zqp 0 17 (zqb 10 1) HT_ ?_;refine zqp 1 18 (zqb 10 3) HT_ ?_;refine zqp 2 19 (zqb 10 7) HT_ ?_;refine zqp 4 21 (zqb 10 23) HT_ ?_;refine zqp 5 22 (zqb 10 55) HT_ ?_;refine zqp 6 23 (zqb 10 119) HT_ ?_;refine zqw 3 20 (zqb 10 127) HT_ HW_ hHeld ?_;refine zqw 7 24 (zqb 10 255) HT_ HW_ hHeld ?_;refine one_ (i:=8) (N:=some 25) (zqb 10 511) rfl rfl (one_of HT_.out zqk) (by decide) (fun K hK=>?_);refine goes_ Tryd.func20 zqk rfl #[.agg #[.int .i64 ((rd_T25 l0 a0).f0),.int .i64 ((rd_T25 l0 a0).f1),.int .i64 ((rd_T25 l0 a0).f2)],.agg #[.int .i64 ((rd_T25 l1 a0).f0),.int .i64 ((rd_T25 l1 a0).f1),.int .i64 ((rd_T25 l1 a0).f2)]] (by rfl) rfl rfl zq4 ?_;(with_reducible refine(laws_eqDeed.calls ((rd_T25 l0 a0).f0) ((rd_T25 l0 a0).f1) ((rd_T25 l0 a0).f2) ((rd_T25 l1 a0).f0) ((rd_T25 l1 a0).f1) ((rd_T25 l1 a0).f2) false _ A7.out).mono ?_);rintro e d7 ⟨rfl,hb⟩;refine⟨_,rfl,?_⟩;replace HB:=zqm (below_step zq0 hb);clear hb;refine hK.out _ _ ⟨((HB.out.cell (World.block_lt_of_cell? w _ hw166_0)).trans hw166_0),((HB.out.cell (World.block_lt_of_cell? w _ hw166_1)).trans hw166_1),((HB.out.cell (World.block_lt_of_cell? w _ hw166_2)).trans hw166_2),((HB.out.cell (World.block_lt_of_cell? w _ hw167_0)).trans hw167_0),((HB.out.cell (World.block_lt_of_cell? w _ hw167_1)).trans hw167_1),((HB.out.cell (World.block_lt_of_cell? w _ hw167_2)).trans hw167_2)⟩ (fun hHeld=>?_);clear hK K;refine norm_ (a':=?_) ?_ ?_;rotate_left
        ·show Act.put _ (some 25) _=_;exact zqs
        refine zqp 9 26 (zqb 10 1023) HT_ ?_;refine done_ (done_of HT_.out zqk) ?_;try go_wp2
        go_ret
        exact⟨zq2,zq0⟩
      ·rw [if_neg c6] at H;exact absurd H (by simp)
     ·rw [if_neg c5] at H;exact absurd H (by simp)
    ·rw [if_neg c4] at H;have c9:decide (a0<(l0.length:Int))=false:=decide_eq_false c4;clear c4;obtain rfl:=Option.some.inj H
     go_wp2
     go_ret
     exact⟨zq2,zq0⟩
 ·rw [if_neg c3] at H;have b5:((l0.length:Int)==(l1.length:Int))=false:=beq_eq_false_iff_ne.mpr c3;have b6:((l0.length:Int) !=(l1.length:Int))=true:=bne_iff_ne.mpr c3;(have b7:(l0.length==l1.length)=false:=by first|simpa using c3|(simp at c3 ⊢;omega));obtain rfl:=Option.some.inj H
  go_enter Tryd.func17,Tryd.ntmps17
  go_wp2
  go_ret
  exact⟨zq2,zq0⟩
end
end Go.Proofs.YtddgcdpogpppgaaDoor.Print
end
section
namespace Go.Proofs.YtddgcdpogpppgaaDoor.Print
open Go.RowKit Go.Proofs.YtddgcdpogpppgaaDoorW.PrintWords Go.Proofs.YtddgcdpogpppgaaDoorW.PrintLast Go.Proofs.YtddgcdpogpppgaaDoorW.PrintMore
open Oml
def cvD (x : S23) : S25 := ⟨x.f0, x.f1, x.f2⟩
theorem rdU_nat (l : List S23) (i : Nat) : rd_T23 l (i : Int) = l.getD i z23 := by simp [rd_T23]
def cvN (l : List S23) (i : Nat) : List S25 := (List.range l.length).map fun j => if j < i then cvD (l.getD j z23) else z25
theorem cvN_len (l : List S23) (i : Nat) : (cvN l i).length = l.length := by simp [cvN]
theorem cvN_zero (l : List S23) : cvN l 0 = List.replicate l.length z25 := by
 refine List.ext_getElem (by simp [cvN]) fun i h1 h2 => ?_
 simp [cvN]
theorem cvN_all (l : List S23) : cvN l l.length = l.map cvD := by
 refine List.ext_getElem (by simp [cvN]) fun i h1 h2 => ?_
 have h3 : i < l.length := by simpa [cvN] using h1
 simp [cvN, h3]
theorem cvN_succ (l : List S23) {i : Nat} (hi : i < l.length) : (cvN l i).set i (cvD (l.getD i z23)) = cvN l (i + 1) := by
 refine List.ext_getElem (by simp [cvN]) fun j h1 h2=>?_
 have h3:j<l.length:=by simpa [cvN] using h2
 rw [List.getElem_set]
 by_cases e:i=j
 ·subst e
  rw [if_pos rfl]
  simp [cvN]
 ·rw [if_neg e]
  simp only [cvN,List.getElem_map,List.getElem_range]
  by_cases h:j<i
  ·rw [if_pos h,if_pos (by omega)]
  ·rw [if_neg h,if_neg (by omega)]
theorem toDeedS_ev (l : List S23) (hl : l.length ≤ 1048576) : Ev (fun k => laws_toDeedS.f k l) (l.map cvD) := by
 unfold laws_toDeedS.f
 refine Ev.ite_pos (by omega) (Ev.ite_pos (by rw [Int.toNat_natCast];omega) ?_)
 rw [Int.toNat_natCast,← cvN_zero]
 refine Ev.loop (g:=fun k s i=>laws_toDeedS.l0 k l s i) l.length (fun i s=>s=cvN l i) (by omega) (fun s h=>?_) (fun i s hi h=>?_) _ rfl
 ·subst h
  refine Ev.succ ?_
  simp only [laws_toDeedS.l0]
  exact Ev.ite_neg (by omega) (Ev.eq (Ev.now _) (cvN_all l))
 ·subst h
  refine⟨cvN l (i+1),rfl,fun K=>Ev.succ ?_⟩
  simp only [laws_toDeedS.l0,rdU_nat,cvN_len]
  refine Ev.ite_pos (by omega) (Ev.ite_pos (by omega) (Ev.pbind (show laws_toDeed.f _ _ _=some _ from rfl) (Ev.ite_pos (by omega) ?_)))
  rw [Int.toNat_natCast]
  have e:=cvN_succ l hi
  unfold cvD at e
  rw [e]
  exact K
theorem eqDeed_self (a b c : Int) : laws_eqDeed.f a b c a b c = some true := by
 unfold laws_eqDeed.f
 rw [if_pos rfl, if_pos rfl, if_pos rfl]
theorem eqDeedS_ev (l : List S25) (hl : l.length < 4611686018427387904) : Ev (fun k => laws_eqDeedS.f k l l) true := by
 unfold laws_eqDeedS.f
 refine Ev.ite_pos rfl ?_
 refine Ev.loop (g:=fun k (_:Unit) i=>laws_eqDeedS.l0 k l l i) l.length (fun _ _=>True) hl (fun _ _=>?_) (fun i _ hi _=>⟨(),trivial,fun K=>?_⟩) () trivial
 ·refine Ev.succ ?_
  simp only [laws_eqDeedS.l0]
  exact Ev.ite_neg (by omega) (Ev.now _)
 ·refine Ev.succ ?_
  simp only [laws_eqDeedS.l0]
  exact Ev.ite_pos (by omega) (Ev.ite_pos (by omega) (Ev.ite_pos (by omega) (Ev.pbind (eqDeed_self _ _ _) (Ev.ite_pos rfl K))))
theorem szDeedS_eq (l : List S23) (hl : l.length ≤ 9223372036854775807) : laws_szDeedS.f l 1048576 = some (if 1048576 < l.length then -1 else 1048576 - (l.length : Int)) := by
 unfold laws_szDeedS.f
 have e:wrap64 (1048576 - (l.length:Int))=1048576 - (l.length:Int):=by unfold wrap64;omega
 rw [e]
 by_cases h:1048576<l.length
 ·rw [if_pos h,if_pos (by omega)]
 ·rw [if_neg h,if_neg (by omega)]
set_option maxHeartbeats 2000000 in
set_option maxRecDepth 100000 in
theorem jou_calls (A : Option Addr) (c : Nat) (l : List S25) (w : World) (ad : Addr) (cw : Nat) (hW : WordsAt w ad cw) (hr : Kd.C k25 w A l.length l) (hl : l.length ≤ 1048576) :
 Calls Tryd.prog 16 #[.slice A l.length c] w fun e w'=>e= .returned (.string (jouT l))∧Below w.heap.size w w':=by
 have hu25:=Tryd.underlying25
 have HW:=zqm hW
 have HR:=zqm hr
 have HS:=zqm hl
 clear hW hr hl
 go_enter Tryd.func16,Tryd.ntmps16
 go_wp2_with fail
 go_loopg [3,9] (l.length+1) (fun kq v3 v9 W=> ∃(i:Nat) (s:ByteArray),v3= .string s∧v9= .int .i64 i∧Aside0 (s=jouB l i)∧Aside0 (i+kq=l.length+1)∧Aside0 (i≤l.length)∧Aside0 (∀j,j<i→dOk (l.getD j z25)=true)∧Aside0 (Below w.heap.size w W))
 case atStart=>exact⟨0,⟨#[]⟩,rfl,rfl,⟨rfl⟩,⟨by omega⟩,⟨by omega⟩,⟨fun j hj=>absurd hj (Nat.not_lt_zero _)⟩,⟨by repeat(first|exact Below.refl _ _|apply below_alloc|apply pw_below_drewN|apply below_drew1)⟩⟩
 case round=>
  obtain⟨i,s,rfl,rfl,HSB,HK,HK2,HN,HB⟩:=hrel
  cases gk with
  |zero=>exact absurd HK.out (by have:=HK2.out;omega)
  |succ kn=>
  by_cases hlt:i<l.length
  ·have hlt':decide (i<l.length)=true:=decide_eq_true hlt
   have p1:(i<l.length)=True:=eq_true hlt
   have HLT:=zqm hlt
   obtain⟨a,e,hx0,hx1,hx2⟩:=at_T25 (Kd.C_below HR.out HB.out) (i:Int) (by omega) (by omega)
   subst e
   rw [Int.toNat_natCast,rdT_nat] at hx0 hx1 hx2
   have hdc:=fun W (h:WordsAt W ad cw)=>deed_calls (l.getD i z25).f0 (l.getD i z25).f1 (l.getD i z25).f2 W ad cw h
   obtain⟨t,ht⟩: ∃t,t=dT (l.getD i z25):=⟨_,rfl⟩
   have hdc2: ∀W,WordsAt W ad cw→Calls Tryd.prog 12 #[.agg #[.int .i64 (l.getD i z25).f0,.int .i64 (l.getD i z25).f1,.int .i64 (l.getD i z25).f2]] W fun e w'=>e= .returned (.string t)∧Below W.heap.size W w':=by rw [ht];exact hdc
   have HD:=zqm hdc2
   have HT:=zqm ht
   have hts:t.size≤10:=by rw [ht];exact dT_size _
   have hss:s.size≤11534336:=by rw [HSB.out];have:=jouB_size l i;have:=HS.out;omega
   have sz1:(9223372036854775807<t.size+1)=False:=eq_false (by omega)
   have sz2:(9223372036854775807<s.size+(t.size+1))=False:=eq_false (by omega)
   generalize hk:(l.getD i z25).f0=xk at hx0 HD
   generalize ha:(l.getD i z25).f1=xa at hx1 HD
   generalize hb:(l.getD i z25).f2=xb at hx2 HD
   cases ho:dOk (l.getD i z25) with
   |false=>
    have HO:=zqm ho
    have q1:(t.toList==([]:List UInt8))=true:=beq_iff_eq.mpr (by rw [ht];exact(dT_nil _).2 ho)
    have q2:(t.toList !=([]:List UInt8))=false:=bne_eq_false_iff_eq.mpr (by rw [ht];exact(dT_nil _).2 ho)
    have q3:t.toList.isEmpty=true:=by rw [List.isEmpty_iff,ht];exact(dT_nil _).2 ho
    have q0:(t.toList= [])=True:=eq_true (by rw [ht];exact(dT_nil _).2 ho)
    clear hlt ht hdc hdc2 ho hts hss hk ha hb
    go_wp2_with (go_at_call 12;(with_reducible refine(HD.out _ (HW.out.below zq9)).mono ?_);rintro e w2 ⟨rfl,hb⟩;have HB2:=zqm (below_step zq9 hb);clear hb)
    go_ret
    exact⟨by rw [jouT_no HLT.out HO.out];rfl,zq21⟩
   |true=>
    have HO:=zqm ho
    have hne: ¬t.toList= []:=fun e=>by rw [ht] at e;rw [(dT_nil _).1 e] at ho;exact absurd ho (by simp)
    have q1:(t.toList==([]:List UInt8))=false:=beq_eq_false_iff_ne.mpr hne
    have q2:(t.toList !=([]:List UInt8))=true:=bne_iff_ne.mpr hne
    have q3:t.toList.isEmpty=false:=by rw [List.isEmpty_eq_false_iff];exact hne
    have q0:(t.toList= [])=False:=eq_false hne
    clear hlt ht hdc hdc2 ho hts hss hk ha hb hne
    go_wp2_with (go_at_call 12;(with_reducible refine(HD.out _ (HW.out.below zq9)).mono ?_);rintro e w2 ⟨rfl,hb⟩;have HB2:=zqm (below_step zq9 hb);clear hb)
    go_roundg kn
    case measure=>omega
    case rel=>exact⟨i+1,_,rfl,by first|go_num|(rw [wrap_nat (show i<4611686018427387904 by have:=HLT.out;have:=HS.out;omega)] <;> go_num),⟨by rw [jouB_succ HLT.out,← HSB.out];unfold lineT;rw [← HT.out]⟩,⟨by have:=HK.out;omega⟩,⟨by have:=HLT.out;omega⟩,⟨fun j hj=>by
     by_cases e:j=i
     ·rw [e];exact HO.out
     ·exact HN.out j (by omega)⟩,⟨zq21⟩⟩
  ·have hlt':decide (i<l.length)=false:=decide_eq_false hlt
   have p1:(i<l.length)=False:=eq_false hlt
   obtain rfl:i=l.length:=by have:=HK2.out;omega
   clear hlt
   go_wp2_with fail
   go_ret
   exact⟨by rw [jouT_yes HN.out,HSB.out];rfl,zq9⟩
set_option maxHeartbeats 4000000 in
set_option maxRecDepth 100000 in
theorem laws_FnExactJournalText.holds (A : Option Addr) (c : Nat) (l : List S23) (w : World) (ad : Addr) (cw : Nat) (hW : WordsAt w ad cw) (hr : Kd.C k23 w A l.length l) (hc : l.length ≤ c) (hm : l.length ≤ 9223372036854775807) :
 Calls Tryd.prog 4 #[.slice A l.length c] w fun e w'=>e= .returned (.bool true)∧Below w.heap.size w w':=by
 have HW:=zqm hW
 have HR:=zqm hr
 have HC:=zqm hc
 have hsz:=szDeedS_eq l hm
 have HB:=zqm (Below.refl w.heap.size w)
 by_cases hl:1048576<l.length
 ·rw [if_pos hl] at hsz
  have HSZ:=zqm hsz
  clear hW hr hc hm hsz hl
  go_enter Tryd.func4,Tryd.ntmps4
  go_wp2_with (first|(go_at_call 13;(with_reducible refine(laws_szDeedS.calls A c l 1048576 _ _ HR.out HC.out HSZ.out).mono ?_);rintro e w' ⟨rfl,⟨⟨nd,rfl⟩⟩⟩;have n0_:=zqm (pw_below_drewN HB.out nd);have n1_:=zqm (Kd.C_below HR.out (pw_below_drewN (Below.refl _ _) nd));clear HB HR;have HB:=n0_;have HR:=n1_;clear n0_ n1_))
  go_ret
  exact⟨rfl,zq9⟩
 ·rw [if_neg hl] at hsz
  obtain⟨q,hq⟩: ∃q:Int,1048576 - (l.length:Int)=q:=⟨_,rfl⟩
  rw [hq] at hsz
  have p1:(q<0)=False:=eq_false (by omega)
  have p1':decide (q<0)=false:=decide_eq_false (by omega)
  have HSZ:=zqm hsz
  have h1:=toDeedS_ev l (by omega)
  obtain⟨M,hM,hML⟩: ∃M,M=l.map cvD∧M.length=l.length:=⟨_,rfl,by rw [List.length_map]⟩
  rw [← hM] at h1
  clear hM
  obtain⟨K1,h1⟩:=h1.rounds
  obtain⟨K2,h2⟩:=(spec_JournalText.ev M (by omega)).rounds
  obtain⟨K3,h3⟩:=(eqDeedS_ev M (by omega)).rounds
  have HJ:=zqm (fun Ax cx W (h:WordsAt W ad cw) hr=>jou_calls Ax cx M W ad cw h hr (by omega))
  obtain⟨t,ht⟩: ∃t,t=jouT M:=⟨_,rfl⟩
  rw [← ht] at h2 HJ
  have H1:=zqm h1
  have H2:=zqm h2
  have H3:=zqm h3
  clear hW hr hc hm hsz hl hq h1 h2 h3 ht hML
  have tok1:True:=trivial
  go_enter Tryd.func4,Tryd.ntmps4
  go_wp2_with (first|(go_at_call 13;(with_reducible refine(laws_szDeedS.calls A c l 1048576 _ _ HR.out HC.out HSZ.out).mono ?_);rintro e w' ⟨rfl,⟨⟨nd,rfl⟩⟩⟩;have n0_:=zqm (pw_below_drewN HB.out nd);have n1_:=zqm (Kd.C_below HR.out (pw_below_drewN (Below.refl _ _) nd));clear HB HR;have HB:=n0_;have HR:=n1_;clear n0_ n1_)|(have _t:=tok1;go_at_call 15;(with_reducible refine(laws_toDeedS.calls K1 A c l M _ HR.out HC.out H1.out).mono ?_);rintro e w' ⟨v_,rfl,ho,hb⟩;obtain⟨Aw,cw,rfl⟩:=Kd.R_slice ho;have HRw:=zqm (Kd.R_reads' ho).2.2;have HCw:=zqm (Kd.R_reads' ho).2.1;have n0_:=zqm (below_step HB.out hb);have n1_:=zqm (Kd.C_below HR.out hb);clear HB HR;have HB:=n0_;have HR:=n1_;clear n0_ n1_;clear ho hb;clear tok1 _t;have tok2:True:=trivial)|(have _t:=tok2;go_at_call 14;(with_reducible refine(spec_JournalText.calls K2 Aw cw M t _ HRw.out HCw.out H2.out).mono ?_);rintro e w' ⟨rfl,hb⟩;have n0_:=zqm (below_step HB.out hb);have n1_:=zqm (Kd.C_below HR.out hb);clear HB HR;have HB:=n0_;have HR:=n1_;clear n0_ n1_;clear hb HRw HCw;clear tok2 _t;have tok3:True:=trivial)|(have _t:=tok3;go_at_call 15;(with_reducible refine(laws_toDeedS.calls K1 A c l M _ HR.out HC.out H1.out).mono ?_);rintro e w' ⟨v_,rfl,ho,hb⟩;obtain⟨Ax,cx,rfl⟩:=Kd.R_slice ho;have HRx:=zqm (Kd.R_reads' ho).2.2;have HCx:=zqm (Kd.R_reads' ho).2.1;have n0_:=zqm (below_step HB.out hb);have n1_:=zqm (Kd.C_below HR.out hb);clear HB HR;have HB:=n0_;have HR:=n1_;clear n0_ n1_;clear ho hb;clear tok3 _t;have tok4:True:=trivial)|(have _t:=tok4;go_at_call 16;(with_reducible refine(HJ.out Ax cx _ (HW.out.below HB.out) HRx.out).mono ?_);rintro e w' ⟨rfl,hb⟩;have n0_:=zqm (below_step HB.out hb);have n1_:=zqm (Kd.C_below HR.out hb);have n2_:=zqm (Kd.C_below HRx.out hb);clear HB HR HRx;have HB:=n0_;have HR:=n1_;have HRx:=n2_;clear n0_ n1_ n2_;clear hb;clear tok4 _t;have tok5:True:=trivial)|(have _t:=tok5;go_at_call 15;(with_reducible refine(laws_toDeedS.calls K1 A c l M _ HR.out HC.out H1.out).mono ?_);rintro e w' ⟨v_,rfl,ho,hb⟩;obtain⟨Az,cz,rfl⟩:=Kd.R_slice ho;have HRz:=zqm (Kd.R_reads' ho).2.2;have HCz:=zqm (Kd.R_reads' ho).2.1;have n0_:=zqm (below_step HB.out hb);have n1_:=zqm (Kd.C_below HR.out hb);have n2_:=zqm (Kd.C_below HRx.out hb);clear HB HR HRx;have HB:=n0_;have HR:=n1_;have HRx:=n2_;clear n0_ n1_ n2_;clear ho hb;clear tok5 _t;have tok6:True:=trivial)|(have _t:=tok6;go_at_call 17;(with_reducible refine(laws_eqDeedS.calls K3 Ax cx M Az cz M true _ HRx.out HCx.out HRz.out HCz.out H3.out).mono ?_);rintro e w' ⟨rfl,hb⟩;have n0_:=zqm (below_step HB.out hb);clear HB;have HB:=n0_;clear n0_;clear hb HR HRx HRz;clear tok6 _t;have tok7:True:=trivial))
  go_ret
  exact⟨rfl,zq9⟩
end Go.Proofs.YtddgcdpogpppgaaDoor.Print
end
