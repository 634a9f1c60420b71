/- Part 6 of what is common to several claims of this seat: XL. -/
import Derived.Test.YtddgcdpogpppgaaDoorLA5
import Derived.Below
import Derived.Deep.Draws
import Derived.Deep.AppendLies
import Derived.Maps.AppendAt
import Derived.OwnWalk
import Derived.Laws.BytesArg
import Derived.Laws.MakeOwn
import Derived.Laws.OwnMore
import Derived.Deep.OwnRows
import Derived.Tactics
import Derived.Lib.ConvBytes
import Derived.Laws.Slices
import Derived.WalkKit
import Derived.KernelRfl
import Derived.RowKit3
import Derived.Deep.LoopGhost
import Derived.Deep.QuietTactic
import Derived.BigQuiet
import Derived.WideLaws
import Derived.Deep.DeepCutAuto
import Derived.Deep.CutBlock
import Derived.Deep.RegionHeld3
import Derived.Laws.Rows
import Derived.Lib.AppendStr
import Derived.ArgAppend
import Derived.Laws.IdiomCopy
import Derived.RowKit
import Derived.OrdersHeld
import Derived.Laws.BitsLemmas
import Derived.Laws.StructEq
import Derived.Test.YtddgcdpogpppgaaDoorProg
import Derived.Lib.ItoaNum
import Derived.Lib.Strings
import Derived.Shelf.Utf8.RuneCount
import Derived.Shelf.Strconv.Atoi
import Derived.Shelf.Strconv.Itoa0
import Derived.Shelf.Strconv.Itoa1
import Derived.Shelf.LaysM
import Derived.Shelf.Strconv.Itoa2
import Derived.Shelf.Strconv.Itoa3
import Derived.Shelf.Strconv.AtoiErrFast
import Derived.Shelf.Strconv.ParseIntEmpty
import Derived.Shelf.Strconv.AtoiFail
import Derived.Shelf.Strconv.Clone
import Derived.Shelf.Strconv.SyntaxError
import Derived.Shelf.LaysC
import Derived.Shelf.Strconv.ToError
import Derived.Shelf.Strconv.Lower
import Derived.Shelf.Strconv.ParseUint10
import Derived.Shelf.Strconv.ParseUint10Empty
import Derived.Shelf.Strconv.ParseUint10Any
import Derived.Shelf.Strconv.ParseInt10
import Derived.Shelf.Strconv.AtoiLong
import Derived.Shelf.Strconv.AtoiInnerAll
import Derived.Shelf.Strconv.RangeError
import Derived.Shelf.Strconv.ToErrorRange
import Derived.Shelf.Strconv.AtoiAll
import Derived.Shelf.Strconv.ErrVarAll
import Derived.Shelf.Strings.Search1
import Derived.Shelf.Strings.Search2
import Derived.Shelf.Strings.Search3
import Derived.Shelf.Strings.Cut
import Derived.Shelf.Strings.Count
import Derived.Shelf.Strings.Shaped
import Derived.Shelf.Strings.Split
import Derived.Shelf.Strings.SplitShaped
import Derived.Shelf.Unicode.Decode
import Derived.Shelf.Strings.RuneCount
import Derived.Shelf.Strings.Explode
import Derived.Shelf.Unicode.DecodeSlow
import Derived.Shelf.Unicode.DecodeAny
import Derived.Shelf.Slices.Turned
import Derived.ProofKit
import Derived.OpenShut
import Derived.LaidMore
import Derived.Lay
import Derived.ChangeVars
import Derived.Lib.LaidU8
import Derived.Lib.SmallJoins
import Derived.Deep.DeepHandedRow
set_option linter.all false
section
namespace Go.Proofs.YtddgcdpogpppgaaDoor.Print
open Go.RowKit Go.Proofs.YtddgcdpogpppgaaDoorW.PrintWords Go.Proofs.YtddgcdpogpppgaaDoorW.PrintLast Go.Proofs.YtddgcdpogpppgaaDoorW.PrintMore
open Oml Go.ChangeShapes Go.WideShapes Go.ChangeAt Go.Joins
section
theorem cells9 : Tryd.prog.cellsOf 9 = 1 := by kernel_rfl
theorem gWords : (Tryd.prog.globals[0]?).map (·.type) = some 50 := by kernel_rfl
theorem laidOut : laidOutB Tryd.prog = true := by kernel_rfl
theorem own : ownKnob Tryd.prog.godebug = none := by kernel_rfl
def wordsD {H : Type} : DataW H := .slice [.lit (.string [103, 108, 117, 101]), .lit (.string [116, 105, 109, 101, 115]), .lit (.string [114, 105, 110, 103]), .lit (.string [112, 97, 114, 116]), .lit (.string [98, 97, 99, 107])] []
theorem word_of {W : World} {a : Addr} {v : Value} {n : Nat} {q : List MemPlace} {l : List UInt8} (hc : W.cell? a = some v) (h : DataW.trod (fun _ => ()) Tryd.prog W 0 (fun _ => true) false n 9 [v] = some (.lit (.string l), q)) : W.cell? a = some (.string ⟨l.toArray⟩) := by
 obtain⟨s,e,e2,_⟩:=DataW.trod_string Tryd.underlying9 h
 have e1:v= .string s:=by simpa using e
 have e3:l=s.data.toList:=by
  have:=congrArg Prod.fst e2
  simpa using this
 rw [hc,e1,e3,← ba_mk s]
theorem words_in {W : World} {l : List (String × DataW Unit)} (h : laidMet Tryd.prog l W) {n : String} (hg : Tryd.prog.globalNamed n = some 0) (hm : (n, wordsD) ∈ l) :
 ∃a c,WordsAt W a c∧W.var? Tryd.prog n=some #[.slice (some a) 5 c]:=by
 obtain⟨g,t,cs,fuel,p,hg2,ht,hv,hd⟩:=Lib.laidMet.reads h hm
 obtain rfl:=Option.some.inj (hg.symm.trans hg2)
 obtain rfl:=Option.some.inj (gWords.symm.trans ht)
 obtain⟨a,c,hcs,_,hel⟩:=open_row Tryd.underlying50 cells9 hd
 have hcs':cs= #[.slice (some a) 5 c]:=by cases cs;simp_all
 subst hcs'
 refine⟨a,c,⟨by simpa using World.var?_cell hg hv 0,?_,?_,?_,?_,?_⟩,hv⟩
 ·obtain⟨v,n,q,hc,hr⟩:=hel 0 _ rfl;exact word_of hc hr
 ·obtain⟨v,n,q,hc,hr⟩:=hel 1 _ rfl;exact word_of hc hr
 ·obtain⟨v,n,q,hc,hr⟩:=hel 2 _ rfl;exact word_of hc hr
 ·obtain⟨v,n,q,hc,hr⟩:=hel 3 _ rfl;exact word_of hc hr
 ·obtain⟨v,n,q,hc,hr⟩:=hel 4 _ rfl;exact word_of hc hr
theorem var?_below {P : Program} {B g : Nat} {W W' : World} {n : String} {cs : Array Value} (h : Below B W W') (hg : P.globalNamed n = some g) (hgB : g < B) (hv : W.var? P n = some cs) : W'.var? P n = some cs := by
 unfold World.var? at hv ⊢
 simp only [hg,Option.bind_some] at hv ⊢
 rw [h.block g hgB]
 exact hv
section
variable {H : Type} {enc : TypeId × Value → H}
theorem words_back {W W' : World} {n : String} {d : DataW H} {p : List MemPlace} {fuel : Nat} {a : Addr} {c : Nat} (hg : Tryd.prog.globalNamed n = some 0) (hv : W.var? Tryd.prog n = some #[.slice (some a) 5 c]) (hd : DataW.trod enc Tryd.prog W 0 (fun _ => true) true fuel 50 [.slice (some a) 5 c] = some (d, p))
 (hlt: ∀x ∈ p,x.block<W.heap.size) (hg0:0<W.heap.size) (hb:Below W.heap.size W W'): ∃q,DataW.TrodVars enc Tryd.prog W' (fun b=>decide (b<W.heap.size)) [n] [d] q:=by
 obtain⟨fuel',hd'⟩:=Below.trod laidOut zqk (of_decide_eq_true zqk) (v:= .slice (some a) 5 c) (⟨fuel,by simpa [Value.cells] using hd⟩:DataW.Trod enc Tryd.prog W 0 (fun _=>true) true 50 (.slice (some a) 5 c) d p) hb hlt
 exact⟨_,trodVars_mk1 (enc:=enc) (spare:=fun b=>decide (b<W.heap.size)) hg gWords (var?_below hb hg hg0 hv) (by simpa [Value.cells] using hd')⟩
theorem witness_row {C : Checked} {os : Os} {f : FuncId} {fn : Func} {s : OpenSpec} {conds : List PathCond} {apart : Bool} {laid : List (String × DataW Unit)} (modest : Bool) (w0 : World) (args : Array Value) (hos : w0.os = os)
 (hsh:(w0.forCall (fun _ _=>0) ⟨#[],args,[]⟩).Shaped C.prog) (hok:Input.okWideB C.prog (w0.forCall (fun _ _=>0) ⟨#[],args,[]⟩) f ⟨#[],args,[]⟩=true)
 (hrow:s.preRow enc C.prog fn conds apart laid (w0.forCall (fun _ _=>0) ⟨#[],args,[]⟩).memory args):
 ∃(w:World) (tape:Tape) (i:Input),w.os=os∧(w.forCall tape i).Shaped C.prog∧i.vars= []∧Input.okWide C.prog (w.forCall tape i) .any w.heap.size f i∧
  s.preRow enc C.prog fn conds apart laid (w.forCall tape i).memory i.args∧({ modest:=modest } :Assume).holds C.prog (lone (Frame.enter C.prog f i.args .normal) [] (w.forCall tape i)):=
 ⟨w0,fun _ _=>0,⟨#[],args,[]⟩,hos,hsh,(Input.okWide_of_okWideB (base:=0) hok).1,(Input.okWide_of_okWideB hok).2,hrow,by
  simp only [Assume.holds]
  exact⟨by simp,by simp,fun _=>Modest.zero,by simp,by simp⟩⟩
end
end
end Go.Proofs.YtddgcdpogpppgaaDoor.Print
end
section
namespace Go.Proofs.YtddgcdpogpppgaaDoor.Print
open Go.RowKit Go.Proofs.YtddgcdpogpppgaaDoorW.PrintWords Go.Proofs.YtddgcdpogpppgaaDoorW.PrintLast Go.Proofs.YtddgcdpogpppgaaDoorW.PrintMore
section
attribute [local go_sem] max2_int min2_int max_two min_two max_three min_three max_four min_four
def spec_l1Cut.l0 : Nat → ByteArray → Int → List ByteArray → Int → Int → Option (List ByteArray)
 | 0, _, _, _, _, _ => none
 | k + 1, x0, x1, x5, x6, x7 => if x7 < (x0.size : Int) then (if 0 ≤ x7 then (if (bt x0 x7) = x1 then (if 0 ≤ x6 then (if x6 ≤ x7 then (if x7 ≤ (x0.size : Int) then (if x5.length < 8796093022208 then (spec_l1Cut.l0 k x0 x1 (x5 ++ [x0.extract (x6 : Int).toNat (x7 : Int).toNat]) (wrap64 (x7 + 1)) (wrap64 (x7 + 1))) else (none)) else (none)) else (none)) else (none)) else (spec_l1Cut.l0 k x0 x1 x5 x6 (wrap64 (x7 + 1)))) else (none)) else (if 0 ≤ x6 then (if x6 ≤ (x0.size : Int) then (if x5.length < 8796093022208 then (some (x5 ++ [x0.extract (x6 : Int).toNat x0.size])) else (none)) else (none)) else (none))
def spec_l1Cut.f (k : Nat) (a0 : ByteArray) (a1 : Int) : Option (List ByteArray) := spec_l1Cut.l0 k a0 a1 (([] : List ByteArray)) 0 0
set_option maxHeartbeats 8000000 in
set_option maxRecDepth 100000 in
theorem spec_l1Cut.calls (k : Nat) (a0 : ByteArray) (a1 : Int) (r : List ByteArray) (w : World) (h : spec_l1Cut.f k a0 a1 = some r) :
  Calls Tryd.prog 34 #[.string a0, .int .u8 a1] w fun e w' => ∃ v0_ : Value, e = .returned (v0_) ∧ Kd.R Kd.string 9 w' w.heap.size (fun _ => True) v0_ r ∧ Below w.heap.size w w' := by
 have HB:=zqm (Below.refl w.heap.size w);have H:(spec_l1Cut.l0 k a0 a1 (([]:List ByteArray)) 0 0)=some r:=h;clear h;obtain⟨b7,a5⟩: ∃y_:List ByteArray,y_=(([]:List ByteArray)):=⟨_,rfl⟩;replace H:(spec_l1Cut.l0 k a0 a1 b7 0 0)=some r:=zqy a5 H;have b4:=zqm a5;clear a5;have H':=zqm H;clear H
 go_enter Tryd.func34,Tryd.ntmps34
 go_wp2_with (first|((with_reducible refine gate_dst (N:=8) rfl ?_);refine Kd.R_lit Kd.string _ 9 ?hg (N:=8) ?hd (xs:=([]:List ByteArray)) (inner:= []) (ok:=fun _=>True) (okp:=fun _=>True) ?hr ?hp (fun _ hk=>hk) trivial (Below.refl _ _) (Nat.le_refl _) (by simp) ?_;(case hd=>rfl);(case hg=>rfl);(case hr=> exact zq5);(case hp=>exact(Reps.none _ _));intro e4 w3 b2 hb hg_ hnew_;clear hg_ hnew_;(first|rw [← b4.out] at b2|(simp only [Int.reduceToNat] at b2;rw [← b4.out] at b2));have b9:=zqm (Kd.R_lower b2 (below_size zq0));replace HB:=zqm (below_step zq0 hb);clear hb b2))
 go_loopg [5,6,7] k (fun kq v5 v6 v7 w'=> ∃(a4:List ByteArray) (a3:Int) (a2:Int),v6= .int .i64 a3∧v7= .int .i64 a2∧Aside0 (spec_l1Cut.l0 kq a0 a1 a4 a3 a2=some r)∧Aside0 (kq≤k)∧Aside0 (Kd.R Kd.string 9 w' w.heap.size (fun _=>True) v5 a4)∧Aside0 (Below w.heap.size w w'))
 case atStart=>exact⟨(b7),(0),(0),zq7,zq7,H',⟨Nat.le_refl _⟩,⟨zqfR b9.out⟩,⟨zq0⟩⟩
 case round=>
  clear H';obtain⟨a4,a3,a2,rfl,rfl,HA,b3,HO_5,HB⟩:=hrel
  cases gk with
  |zero=>exact absurd HA.out (by simp [spec_l1Cut.l0])
  |succ k1=>
   have H:=HA.out;clear HA;simp only [spec_l1Cut.l0] at H
   by_cases c5:a2<(a0.size:Int)
   ·rw [if_pos c5] at H;have c4:decide (a2<(a0.size:Int))=true:=decide_eq_true c5;clear c5
    by_cases c6:0≤a2
    ·rw [if_pos c6] at H;have e1:decide (0≤a2)=true:=decide_eq_true c6;clear c6
     by_cases c8:(bt a0 a2)=a1
     ·rw [if_pos c8] at H;have c7:((bt a0 a2)==a1)=true:=beq_iff_eq.mpr c8;have d0:((bt a0 a2) !=a1)=false:=bne_eq_false_iff_eq.mpr c8;clear c8
      by_cases c9:0≤a3
      ·rw [if_pos c9] at H;have e2:=eq_true c9;have e3:decide (0≤a3)=true:=decide_eq_true c9;clear c9
       by_cases a8:a3≤a2
       ·rw [if_pos a8] at H;have d3:=eq_true a8;have d4:decide (a3≤a2)=true:=decide_eq_true a8;clear a8
        by_cases a9:a2≤(a0.size:Int)
        ·rw [if_pos a9] at H;have d5:=eq_true a9;have d6:decide (a2≤(a0.size:Int))=true:=decide_eq_true a9;clear a9
         by_cases b5:a4.length<8796093022208
         ·rw [if_pos b5] at H;have LMc12:=zqm b5;clear b5;obtain⟨b8,a6⟩: ∃y_:List ByteArray,y_=(a4 ++ [a0.extract (a3:Int).toNat (a2:Int).toNat]):=⟨_,rfl⟩;replace H:(spec_l1Cut.l0 k1 a0 a1 b8 (wrap64 (a2+1)) (wrap64 (a2+1)))=some r:=zqy a6 H;have c2:=zqm a6;clear a6;have H':=zqm H;clear H;have p7:0≤(a2:Int):=zqo;have q7:a2<(a0.size:Int):=zqo;have d2:=bt_at a0 a2;replace p7:=eq_true p7;replace q7:=eq_true q7
          go_wp2_with (first|((with_reducible refine gate_builtin (b:= .append) (xs:= #[.tmp 20,.tmp 25]) rfl ?_);at_builtin;refine Kd.R_append Kd.string (w0:=w) w.heap.size rfl (.tmp 20) (.tmp 25) 50 9 (.string ⟨#[]⟩) 16 rfl Tryd.underlying50 info9 rfl (by decide) (by omega) u5 a4 (a0.extract (a3:Int).toNat (a2:Int).toNat) [.string (a0.extract (a3:Int).toNat (a2:Int).toNat)] (fun _=>True) (fun _=>False) rfl rfl ?aP (fun _ hk=>hk.elim) ?aF ?aO ?aB ?aS ?aL ?_;(case aP=>exact rfl);(case aB=> exact zq34);(case aF=>exact(fun _ _=>trivial));(case aO=>exact(zqfR HO_5.out));(case aS=> exact zq32);(case aL=>have:=LMc12.out;omega);intro e5 e7 ho hb hg hat;rw [← c2.out] at ho;replace HB:=zqm (hb);have c0:=zqm (ho);clear HO_5;clear ho hb hg hat))
          go_roundg k1
          (case measure=>have:=b3.out;omega);case rel=>exact⟨(b8),(wrap64 (a2+1)),(wrap64 (a2+1)),zq7,zq7,H',⟨by have:=b3.out;omega⟩,⟨zqfR c0.out⟩,⟨zq0⟩⟩
         ·rw [if_neg b5] at H;exact absurd H (by simp)
        ·rw [if_neg a9] at H;exact absurd H (by simp)
       ·rw [if_neg a8] at H;exact absurd H (by simp)
      ·rw [if_neg c9] at H;exact absurd H (by simp)
     ·rw [if_neg c8] at H;have c7:((bt a0 a2)==a1)=false:=beq_eq_false_iff_ne.mpr c8;have d0:((bt a0 a2) !=a1)=true:=bne_iff_ne.mpr c8;have H':=zqm H;clear H;have p7:0≤(a2:Int):=zqo;have q7:a2<(a0.size:Int):=zqo;have d2:=bt_at a0 a2;replace p7:=eq_true p7;replace q7:=eq_true q7
      go_wp2
      go_roundg k1
      (case measure=>have:=b3.out;omega);case rel=>exact⟨(a4),(a3),(wrap64 (a2+1)),zq7,zq7,H',⟨by have:=b3.out;omega⟩,⟨zqfR HO_5.out⟩,⟨zq0⟩⟩
    ·rw [if_neg c6] at H;exact absurd H (by simp)
   ·rw [if_neg c5] at H;have c4:decide (a2<(a0.size:Int))=false:=decide_eq_false c5;clear c5
    by_cases b0:0≤a3
    ·rw [if_pos b0] at H;have d7:=eq_true b0;have d8:decide (0≤a3)=true:=decide_eq_true b0;clear b0
     by_cases b1:a3≤(a0.size:Int)
     ·rw [if_pos b1] at H;have d9:=eq_true b1;have e0:decide (a3≤(a0.size:Int))=true:=decide_eq_true b1;clear b1
      by_cases b6:a4.length<8796093022208
      ·rw [if_pos b6] at H;have LMc16:=zqm b6;clear b6;obtain⟨d1,a7⟩: ∃y_:List ByteArray,y_=(a4 ++ [a0.extract (a3:Int).toNat a0.size]):=⟨_,rfl⟩;replace H:(some d1)=some r:=zqy a7 H;have c3:=zqm a7;clear a7;obtain rfl:=Option.some.inj H
       go_wp2_with (first|((with_reducible refine gate_builtin (b:= .append) (xs:= #[.tmp 29,.tmp 33]) rfl ?_);at_builtin;refine Kd.R_append Kd.string (w0:=w) w.heap.size rfl (.tmp 29) (.tmp 33) 50 9 (.string ⟨#[]⟩) 16 rfl Tryd.underlying50 info9 rfl (by decide) (by omega) u5 a4 (a0.extract (a3:Int).toNat a0.size) [.string (a0.extract (a3:Int).toNat a0.size)] (fun _=>True) (fun _=>False) rfl rfl ?aP (fun _ hk=>hk.elim) ?aF ?aO ?aB ?aS ?aL ?_;(case aP=>exact rfl);(case aB=> exact zq34);(case aF=>exact(fun _ _=>trivial));(case aO=>exact(zqfR HO_5.out));(case aS=> exact zq32);(case aL=>have:=LMc16.out;omega);intro e6 e8 ho hb hg hat;rw [← c3.out] at ho;replace HB:=zqm (hb);have c1:=zqm (ho);clear HO_5;clear ho hb hg hat))
       go_ret
       exact⟨_,zq6,zqfR c1.out,zq0⟩
      ·rw [if_neg b6] at H;exact absurd H (by simp)
     ·rw [if_neg b1] at H;exact absurd H (by simp)
    ·rw [if_neg b0] at H;exact absurd H (by simp)
end
section
attribute [local go_sem] max2_int min2_int max_two min_two max_three min_three max_four min_four
mutual
def spec_ReadDeed.j0 : Nat → ByteArray → List ByteArray → List (S25) → Option (Int × Int × Int × Bool)
 | 0, _, _, _ => none
 | k + 1, x0, x4, x5 => if (x4.length : Int) = 3 then (if 1 < (x4.length : Int) then ((spec_l1Digits.f k (rdOf ByteArray.empty x4 1)).bind fun t205 => (if 2 < (x4.length : Int) then ((spec_l1Digits.f k (rdOf ByteArray.empty x4 2)).bind fun t207 => (if x5.length < 5864062014805 then (spec_ReadDeed.j1 k x0 (x5 ++ [(⟨3, t205, t207⟩ : S25)])) else (none))) else (none))) else (none)) else (spec_ReadDeed.j1 k x0 x5)
def spec_ReadDeed.j1 : Nat → ByteArray → List (S25) → Option (Int × Int × Int × Bool)
 | 0, _, _ => none
 | k + 1, x0, x5 => spec_ReadDeed.l0 k x0 x5 0
def spec_ReadDeed.l0 : Nat → ByteArray → List (S25) → Int → Option (Int × Int × Int × Bool)
 | 0, _, _, _ => none
 | k + 1, x0, x5, x6 => if x6 < (x5.length : Int) then (if x0.toList = ([] : List UInt8) then (spec_ReadDeed.l0 k x0 x5 (wrap64 (x6 + 1))) else (if 0 ≤ x6 then ((spec_DeedText.f k ((rd_T25 x5 x6).f0) ((rd_T25 x5 x6).f1) ((rd_T25 x5 x6).f2)).bind fun t212 => (if t212.toList = x0.toList then (some ((rd_T25 x5 x6).f0, (rd_T25 x5 x6).f1, (rd_T25 x5 x6).f2, true)) else (spec_ReadDeed.l0 k x0 x5 (wrap64 (x6 + 1))))) else (none))) else (some (0, 0, 0, false))
end
def spec_ReadDeed.f (k : Nat) (a0 : ByteArray) : Option (Int × Int × Int × Bool) := (spec_l1Cut.f k a0 32).bind fun t188 => ((some (([(⟨2, 0, 0⟩ : S25), (⟨4, 0, 0⟩ : S25)] : List (S25)) : List (S25))).bind fun y191 => (if (t188.length : Int) = 2 then (if 1 < (t188.length : Int) then ((spec_l1Digits.f k (rdOf ByteArray.empty t188 1)).bind fun t195 => ((spec_l1Digits.f k (rdOf ByteArray.empty t188 1)).bind fun t197 => ((some (([(⟨0, t195, 0⟩ : S25), (⟨1, t197, 0⟩ : S25)] : List (S25)) : List (S25))).bind fun y198 => (if y191.length + y198.length < 5864062014805 then (spec_ReadDeed.j0 k a0 t188 (y191 ++ y198)) else (none))))) else (none)) else (spec_ReadDeed.j0 k a0 t188 y191)))
def spec_ReadDeed.T4 : Bool × List (List Nat × List Nat) := (true, [([], []), ([], []), ([1], [1]), ([2], [2]), ([3], [3]), ([4], [4]), ([], []), ([6], [6]), ([7], [7]), ([8, 4], [8]), ([9], [9]), ([5, 10], [5, 10]), ([0, 11, 9], [0, 11]), ([12, 12, 0, 1, 2, 3, 4, 5, 6, 7, 8, 9, 10, 11, 12], [0, 12])])
def spec_ReadDeed.B4 : List Nat := [0, 0, 2, 6, 14, 30, 0, 64, 192, 478, 990, 2046, 4095, 8191]
theorem spec_ReadDeed.tab4 : rtab .any (opsOf Tryd.f18 4) = spec_ReadDeed.T4 := by kernel_rfl
theorem spec_ReadDeed.bits4 : waitsOk spec_ReadDeed.T4.2 spec_ReadDeed.B4 = true := by kernel_rfl
def spec_ReadDeed.T6 : Bool × List (List Nat × List Nat) := (true, [([], []), ([], []), ([1], [1]), ([2], [2]), ([3], [3]), ([], []), ([5], [5]), ([6], [6]), ([7, 4], [7]), ([4, 8], [4, 8]), ([9], [9]), ([0, 10, 8], [0, 10]), ([11, 11, 0, 1, 2, 3, 4, 5, 6, 7, 8, 9, 10, 11], [0, 11])])
def spec_ReadDeed.B6 : List Nat := [0, 0, 2, 6, 14, 0, 32, 96, 254, 510, 1022, 2047, 4095]
theorem spec_ReadDeed.tab6 : rtab .any (opsOf Tryd.f18 6) = spec_ReadDeed.T6 := by kernel_rfl
theorem spec_ReadDeed.bits6 : waitsOk spec_ReadDeed.T6.2 spec_ReadDeed.B6 = true := by kernel_rfl
set_option maxHeartbeats 8000000 in
set_option maxRecDepth 100000 in
theorem spec_ReadDeed.calls (k : Nat) (a0 : ByteArray) (r1 : Int) (r2 : Int) (r3 : Int) (r4 : Bool) (w : World) (h : spec_ReadDeed.f k a0 = some (r1, r2, r3, r4)) :
  Calls Tryd.prog 18 #[.string a0] w fun e w' => e = .returned (.tuple #[.agg #[.int .i64 r1, .int .i64 r2, .int .i64 r3], .bool r4]) ∧ Below w.heap.size w w' := by
 have hu25:=Tryd.underlying25;have HB:=zqm (Below.refl w.heap.size w);have H:((spec_l1Cut.f k a0 32).bind fun a1=>((some (([(⟨2,0,0⟩:S25),(⟨4,0,0⟩:S25)]:List (S25)):List (S25))).bind fun b0=>(if(a1.length:Int)=2 then(if 1<(a1.length:Int) then((spec_l1Digits.f k (rdOf ByteArray.empty a1 1)).bind fun b5=>((spec_l1Digits.f k (rdOf ByteArray.empty a1 1)).bind fun b3=>((some (([(⟨0,b5,0⟩:S25),(⟨1,b3,0⟩:S25)]:List (S25)):List (S25))).bind fun b1=>(if b0.length+b1.length<5864062014805 then(spec_ReadDeed.j0 k a0 a1 (b0 ++ b1)) else(none))))) else(none)) else(spec_ReadDeed.j0 k a0 a1 b0))))=some (r1,r2,r3,r4):=h;clear h;replace H:=Option.bind_eq_some_iff.mp H;obtain⟨a1,l1,H⟩:=H;replace H:((some (([(⟨2,0,0⟩:S25),(⟨4,0,0⟩:S25)]:List (S25)):List (S25))).bind fun b0=>(if(a1.length:Int)=2 then(if 1<(a1.length:Int) then((spec_l1Digits.f k (rdOf ByteArray.empty a1 1)).bind fun b5=>((spec_l1Digits.f k (rdOf ByteArray.empty a1 1)).bind fun b3=>((some (([(⟨0,b5,0⟩:S25),(⟨1,b3,0⟩:S25)]:List (S25)):List (S25))).bind fun b1=>(if b0.length+b1.length<5864062014805 then(spec_ReadDeed.j0 k a0 a1 (b0 ++ b1)) else(none))))) else(none)) else(spec_ReadDeed.j0 k a0 a1 b0)))=some (r1,r2,r3,r4):=H;have A2:=zqm l1;clear l1;obtain⟨b0,g3⟩: ∃y_:List (S25),y_=(([(⟨2,0,0⟩:S25),(⟨4,0,0⟩:S25)]:List (S25))):=⟨_,rfl⟩;replace H:(if(a1.length:Int)=2 then(if 1<(a1.length:Int) then((spec_l1Digits.f k (rdOf ByteArray.empty a1 1)).bind fun b5=>((spec_l1Digits.f k (rdOf ByteArray.empty a1 1)).bind fun b3=>((some (([(⟨0,b5,0⟩:S25),(⟨1,b3,0⟩:S25)]:List (S25)):List (S25))).bind fun b1=>(if b0.length+b1.length<5864062014805 then(spec_ReadDeed.j0 k a0 a1 (b0 ++ b1)) else(none))))) else(none)) else(spec_ReadDeed.j0 k a0 a1 b0))=some (r1,r2,r3,r4):=zqy g3 H;have h3:=zqm g3;clear g3;have i9:=zqm H;clear H
 go_enter Tryd.func18,Tryd.ntmps18
 go_upto_if 14 with (first|((with_reducible refine gate_dst (N:=2) rfl ?_);refine box_event ?hg (N:=2) ?hd (cs:= #[.int .i64 0,.int .i64 0,.int .i64 0]) (t:=25) ?hr ?_;(case hd=>rfl);(case hg=>rfl);(case hr=> exact zq5);intro a3 hg w4 hbox hb;have l8:=zqm (below_step zq0 hb);have a2:=zqm (hbox);have r8:=zqm ((by rw [hg];exact(below_size zq0):w.heap.size≤a3));have a8:=zqm ((by rw [hg];exact(below_size zq0):w.heap.size≤a3));clear HB;have HB:=l8;clear l8 hb hbox hg)|((with_reducible refine gate_callee (f:=34) rfl ?_);refine goesL_ (some 8) rfl rfl Tryd.func34 zqk rfl #[.string a0,.int .u8 32] rfl zq4 ?_;(with_reducible refine(spec_l1Cut.calls k a0 32 a1 _ A2.out).mono ?_);rintro e w5 ⟨t2,rfl,l6,hb⟩;refine⟨_,rfl,?_⟩;have b2:=zqm (Kd.R_lower l6 (below_size zq2));replace a2:=zqm (blk_below (g:=a3) (o:= .cells #[.int .i64 0,.int .i64 0,.int .i64 0] 25 (0,0)) (zqe a2.out) hb);replace HB:=zqm (below_step zq2 hb);clear hb l6)|((with_reducible refine gate_dst (N:=11) rfl ?_);refine Kd.R_lit k25 _ 25 ?hg (N:=11) ?hd (xs:=([(⟨2,0,0⟩:S25),(⟨4,0,0⟩:S25)]:List (S25))) (inner:= [.int .i64 2,.int .i64 0,.int .i64 0,.int .i64 4,.int .i64 0,.int .i64 0]) (ok:=fun _=>True) (okp:=fun _=>True) ?hr ?hp (fun _ hk=>hk) trivial (Below.refl _ _) (Nat.le_refl _) (by simp) ?_;(case hd=>rfl);(case hg=>rfl);(case hr=> exact zq5);(case hp=>exact(Reps.c3 (show Kd.M k25 _ _ _ (⟨2,0,0⟩:S25) [.int .i64 2,.int .i64 0,.int .i64 0] from (k25_mkM _ _ _ (⟨2,0,0⟩:S25))) (Reps.c3 (show Kd.M k25 _ _ _ (⟨4,0,0⟩:S25) [.int .i64 4,.int .i64 0,.int .i64 0] from (k25_mkM _ _ _ (⟨4,0,0⟩:S25))) (Reps.none _ _))));intro o2 w6 g7 hb hg_ hnew_;clear hg_ hnew_;(first|rw [← h3.out] at g7|(simp only [Int.reduceToNat] at g7;rw [← h3.out] at g7));replace b2:=zqm (Kd.R_below (zqfR b2.out) hb);have b4:=zqm (Kd.R_lower (Kd.R_newB g7 (g:=a3) (o:= .cells #[.int .i64 0,.int .i64 0,.int .i64 0] 25 (0,0)) (zqe a2.out)) (below_size zq2));replace a2:=zqm (blk_below (g:=a3) (o:= .cells #[.int .i64 0,.int .i64 0,.int .i64 0] 25 (0,0)) (zqe a2.out) hb);replace HB:=zqm (below_step zq2 hb);clear hb g7;obtain⟨q6,q7,q8⟩:=Kd.R_slice b2.out;subst q8))
 (try simp only [Act.put,List.setIfInBounds_toArray,List.set_cons_zero,List.set_cons_succ])
 go_cut [5] (fun v5 wc=> ∃(kq:Nat) (c0:List (S25)),Aside0 (spec_ReadDeed.j0 kq a0 a1 c0=some (r1,r2,r3,r4))∧Aside0 (kq≤k)∧Aside0 (Kd.R Kd.string 9 wc w.heap.size (fun _=>True) (.slice q6 a1.length q7) a1)∧Aside0 (Kd.R k25 25 wc w.heap.size (fun k_=>k_≠a3) v5 c0)∧Aside0 (wc.heap[a3]? =some (.cells #[.int .i64 0,.int .i64 0,.int .i64 0] 25 (0,0)))∧Aside0 (Below w.heap.size w wc))
 case first=>
  have H:=i9.out;clear i9
  by_cases c9:(a1.length:Int)=2
  ·rw [if_pos c9] at H;have c5:((a1.length:Int)==2)=true:=beq_iff_eq.mpr c9;have g2:((a1.length:Int) !=2)=false:=bne_eq_false_iff_eq.mpr c9;clear c9;(first|rw [c5]|(simp only [i64_w,i32_w];rw [c5])|skip)
   by_cases e1:1<(a1.length:Int)
   ·rw [if_pos e1] at H;have f9:decide (1<(a1.length:Int))=true:=decide_eq_true e1;have g0:decide (1<a1.length)=true:=decide_eq_true (by omega);clear e1;replace H:=Option.bind_eq_some_iff.mp H;obtain⟨b5,i4,H⟩:=H;replace H:((spec_l1Digits.f k (rdOf ByteArray.empty a1 1)).bind fun b3=>((some (([(⟨0,b5,0⟩:S25),(⟨1,b3,0⟩:S25)]:List (S25)):List (S25))).bind fun b1=>(if b0.length+b1.length<5864062014805 then(spec_ReadDeed.j0 k a0 a1 (b0 ++ b1)) else(none))))=some (r1,r2,r3,r4):=H;have q0:=zqm i4;clear i4;replace H:=Option.bind_eq_some_iff.mp H;obtain⟨b3,i5,H⟩:=H;replace H:((some (([(⟨0,b5,0⟩:S25),(⟨1,b3,0⟩:S25)]:List (S25)):List (S25))).bind fun b1=>(if b0.length+b1.length<5864062014805 then(spec_ReadDeed.j0 k a0 a1 (b0 ++ b1)) else(none)))=some (r1,r2,r3,r4):=H;have q3:=zqm i5;clear i5;obtain⟨b1,g4⟩: ∃y_:List (S25),y_=(([(⟨0,b5,0⟩:S25),(⟨1,b3,0⟩:S25)]:List (S25))):=⟨_,rfl⟩;replace H:(if b0.length+b1.length<5864062014805 then(spec_ReadDeed.j0 k a0 a1 (b0 ++ b1)) else(none))=some (r1,r2,r3,r4):=zqy g4 H;have h4:=zqm g4;clear g4
    by_cases e2:b0.length+b1.length<5864062014805
    ·rw [if_pos e2] at H;have LMc13:=zqm e2;clear e2;obtain⟨j5,g5⟩: ∃y_:List (S25),y_=(b0 ++ b1):=⟨_,rfl⟩;replace H:(spec_ReadDeed.j0 k a0 a1 j5)=some (r1,r2,r3,r4):=zqy g5 H;have j9:=zqm g5;clear g5;have H':=zqm H;clear H;(try go_wp2);replace b2:=zqm (Kd.R_drew b2.out);replace b4:=zqm (Kd.R_drew b4.out);replace a2:=zqm (blk_drew a2.out);replace HB:=zqm (below_drew1 HB.out);have d7:0≤(1:Int):=(by omega);have d9:1<(a1.length:Int):=zqo;obtain⟨d3,m9,b6⟩:=Kd.at_string (Kd.R_reads' b2.out).2.2 1 d7 d9
     cases m9
     (try simp only [show (1:Int).toNat=1 from rfl,Nat.reduceMul,Nat.reduceEqDiff,Go.Addr.add,↓reduceIte] at b6);have s0:(1<a1.length)=True:=eq_true (by omega);(try rw [show ((1:Int)).toNat=1 from rfl] at b6);replace d7:=eq_true d7;replace d9:=eq_true d9;have d8:0≤(1:Int):=(by omega);have e0:1<(a1.length:Int):=zqo;obtain⟨k1,n0,b7⟩:=Kd.at_string (Kd.R_reads' b2.out).2.2 1 d8 e0;obtain rfl:d3=k1:=(by injection n0);(try simp only [show (1:Int).toNat=1 from rfl,Nat.reduceMul,Nat.reduceEqDiff,Go.Addr.add,↓reduceIte] at b7);have s1:(1<a1.length)=True:=eq_true (by omega);(try rw [show ((1:Int)).toNat=1 from rfl] at b7);replace d8:=eq_true d8;replace e0:=eq_true e0;refine start_ (n:=14) (S:=fun w'=>w'.cell? ⟨d3.block,d3.off+1,none⟩=some (.string (rdOf ByteArray.empty a1 1))∧w'.cell? ⟨d3.block,d3.off+1,none⟩=some (.string (rdOf ByteArray.empty a1 1))) (ds:= [12]) (zqb 14 0) zqk rfl rfl ⟨b6,b7⟩ (fun hHeld=>?_);refine with_tabW spec_ReadDeed.tab4 spec_ReadDeed.bits4 (fun HT_ HW_=>?_);generalize w6.drew=t6 at b2 b4 a2 HB b6 b7 hHeld ⊢;refine zqp 0 15 (zqb 14 1) HT_ ?_;refine zqp 1 16 (zqb 14 3) HT_ ?_;refine zqp 2 17 (zqb 14 7) HT_ ?_;refine zqp 6 21 (zqb 14 71) HT_ ?_;refine zqp 7 22 (zqb 14 199) HT_ ?_;refine zqw 3 18 (zqb 14 207) HT_ HW_ hHeld ?_;refine zqw 8 23 (zqb 14 463) HT_ HW_ hHeld ?_;refine one_ (i:=4) (N:=some 19) (zqb 14 479) rfl rfl (one_of HT_.out zqk) (by decide) (fun K hK=>?_);refine goes_ Tryd.func35 zqk rfl #[.string (rdOf ByteArray.empty a1 1)] (by rfl) rfl rfl zq4 ?_;(with_reducible refine(spec_l1Digits.calls k (rdOf ByteArray.empty a1 1) b5 _ q0.out).mono ?_);rintro e w' ⟨rfl,⟨nd,rfl⟩⟩;refine⟨_,rfl,?_⟩;refine hK.out _ _ ⟨hHeld.1,hHeld.2⟩ (fun hHeld=>?_);clear hK K;refine norm_ (a':=?_) ?_ ?_;rotate_left
     ·show Act.put _ (some 19) _=_;exact zqs
     refine zqp 5 20 (zqb 14 511) HT_ ?_;refine one_ (i:=9) (N:=some 24) (zqb 14 1023) rfl rfl (one_of HT_.out zqk) (by decide) (fun K hK=>?_);refine goes_ Tryd.func35 zqk rfl #[.string (rdOf ByteArray.empty a1 1)] (by rfl) rfl rfl zq4 ?_;(with_reducible refine(spec_l1Digits.calls k (rdOf ByteArray.empty a1 1) b3 _ q3.out).mono ?_);rintro e w' ⟨rfl,⟨nd,rfl⟩⟩;refine⟨_,rfl,?_⟩;refine hK.out _ _ ⟨hHeld.1,hHeld.2⟩ (fun hHeld=>?_);clear hK K;refine norm_ (a':=?_) ?_ ?_;rotate_left
     ·show Act.put _ (some 24) _=_;exact zqs
     refine zqp 10 25 (zqb 14 2047) HT_ ?_;refine one_ (i:=11) (N:=some 26) (zqb 14 4095) rfl rfl (one_of HT_.out zqk) (by decide) (fun K hK=>?_);refine Kd.R_lit_step k25 _ 25 ?hg (N:=26) ?hd (xs:=([(⟨0,b5,0⟩:S25),(⟨1,b3,0⟩:S25)]:List (S25))) (inner:= [.int .i64 0,.int .i64 b5,.int .i64 0,.int .i64 1,.int .i64 b3,.int .i64 0]) (ok:=fun _=>True) (okp:=fun _=>True) ?hr ?hp (fun _ hk=>hk) trivial (Below.refl _ _) (Nat.le_refl _) (by simp) ?_;(case hd=>rfl);(case hg=>rfl);(case hr=> exact zq5);(case hp=>exact(Reps.c3 (show Kd.M k25 _ _ _ (⟨0,b5,0⟩:S25) [.int .i64 0,.int .i64 b5,.int .i64 0] from (k25_mkM _ _ _ (⟨0,b5,0⟩:S25))) (Reps.c3 (show Kd.M k25 _ _ _ (⟨1,b3,0⟩:S25) [.int .i64 1,.int .i64 b3,.int .i64 0] from (k25_mkM _ _ _ (⟨1,b3,0⟩:S25))) (Reps.none _ _))));intro t3 t7 d6 hb hg_ hnew_;have m6:=(hb.cell (World.block_lt_of_cell? _ _ (hHeld.1))).trans (hHeld.1);have m7:=(hb.cell (World.block_lt_of_cell? _ _ (hHeld.2))).trans (hHeld.2);clear hg_ hnew_;(first|rw [← h4.out] at d6|(simp only [Int.reduceToNat] at d6;rw [← h4.out] at d6));replace b2:=zqm (Kd.R_below (zqfR b2.out) hb);have l9:=zqm (Kd.R_elder' (zqfR b4.out) (Kd.R_base d6) hb);have d2:=zqm (Kd.R_lower (Kd.R_newB (Kd.R_new' d6 (Kd.R_lt (zqfR b4.out))) (g:=a3) (o:= .cells #[.int .i64 0,.int .i64 0,.int .i64 0] 25 (0,0)) (zqe a2.out)) (below_size zq2));replace a2:=zqm (blk_below (g:=a3) (o:= .cells #[.int .i64 0,.int .i64 0,.int .i64 0] 25 (0,0)) (zqe a2.out) hb);replace HB:=zqm (below_step zq2 hb);clear b4;have b4:=l9;clear l9 hb d6;obtain⟨m5,m8,j2⟩:=Kd.R_slice d2.out;(first|subst j2|(injection j2 with l4 q9 l5;have r0:=l4.symm;have r5:=l5.symm;clear l4 q9 l5;subst r0;subst r5));refine hK.out _ _ ⟨m6,m7⟩ (fun hHeld=>?_);clear hK K;refine norm_ (a':=?_) ?_ ?_;rotate_left
     ·show Act.put _ (some 26) _=_;exact zqs
     refine last_ (i:=12) (N:=some 27) (zqb 14 8191) rfl rfl (one_of HT_.out zqk) (by decide) (fun K hK=>?_);refine Kd.R_append_rows_step k25 (w0:=w) w.heap.size (by rfl) (.tmp 15) (.tmp 26) 31 25 (.agg #[(.int .i64 0),(.int .i64 0),(.int .i64 0)]) 24 rfl Tryd.underlying31 info25 rfl (by decide) (by omega) o2 b0 b1 _ _ _ (fun k_=>some k_≠(.slice m5 b1.length m8:Value).ownBlock∧k_≠a3) (fun _=>False) rfl rfl ?aO ?aR (fun _ _ h=>h) (fun _ h=>h.elim) ?aF ?aB ?aS ?aL ?_;(case aR=>repeat(first|exact(Kd.R_reads' d2.out).2.2|(with_reducible refine Kd.C_alloc ?_ _)|(with_reducible refine Kd.C_drewN ?_ _)|(with_reducible refine Kd.C_drew ?_)));(case aB=> exact zq29);(case aF=>exact(fun k_ hk=>⟨Kd.fresh' (Kd.R_lt (zqfR d2.out)) k_ hk,Kd.freshB (g:=a3) (o:= .cells #[.int .i64 0,.int .i64 0,.int .i64 0] 25 (0,0)) (zqe a2.out) k_ hk⟩));(case aO=>exact(by refine zqfR ?_;exact Kd.R_mono b4.out (fun _ hk=>⟨hk.2,hk.1.2⟩)));(case aS=> exact zq27);(case aL=>have:=LMc13.out;omega);intro t4 t8 ho hb hg hat;rw [← j9.out] at ho;replace a2:=zqm (blk_grown (g:=a3) (o:= .cells #[.int .i64 0,.int .i64 0,.int .i64 0] 25 (0,0)) (zqe a2.out) hg (Kd.R_away b4.out (fun _ hk=>hk.1.2)));replace b2:=zqm (Kd.R_over' (zqfR b2.out) (Kd.R_typed (zqfR b4.out)) (by decide) hg);replace d2:=zqm (Kd.R_after (ok:=(fun k_=>k_≠a3)) (by refine zqfR ?_;exact Kd.R_mono d2.out (fun _ hk=>⟨hk.2,hk.1.2⟩)) hg hat);replace HB:=zqm (hb);have j7:=zqm (ho);clear b4;clear ho hb hg hat;refine hK.out _ _ ?_;clear hK K;refine norm_ (a':=?_) ?_ ?_;rotate_left
     ·show Act.put _ (some 27) _=_;exact zqs
     refine zqp 13 5 (zqb 14 16383) HT_ ?_;refine done_ (done_of HT_.out zqk) ?_;try go_wp2
     go_meet
     case rel=>exact⟨_,(j5),H',⟨zq30⟩,⟨zqfR b2.out⟩,⟨by refine zqfR ?_;exact Kd.R_mono j7.out (fun _ hk=>hk.2)⟩,⟨zqe a2.out⟩,⟨zq2⟩⟩
    ·rw [if_neg e2] at H;exact absurd H (by simp)
   ·rw [if_neg e1] at H;exact absurd H (by simp)
  ·rw [if_neg c9] at H;have c5:((a1.length:Int)==2)=false:=beq_eq_false_iff_ne.mpr c9;have g2:((a1.length:Int) !=2)=true:=bne_iff_ne.mpr c9;(first|rw [c5]|(simp only [i64_w,i32_w];rw [c5])|skip);have H':=zqm H;clear H
   go_wp2
   go_meet
   case rel=>exact⟨_,(b0),H',⟨zq30⟩,⟨zqfR b2.out⟩,⟨by refine zqfR ?_;exact Kd.R_mono b4.out (fun _ hk=>hk.2)⟩,⟨zqe a2.out⟩,⟨zq2⟩⟩
 case rest=>
  clear i9;(try clear c1);(try clear p1);(try clear q1);(try clear l7);(try clear m4);(try clear p2);(try clear c3);(try clear c9);(try clear c5);(try clear g2);(try clear e1);(try clear f9);(try clear g0);(try clear e2);(try clear l3);(try clear b6);(try clear b7);(try clear d7);(try clear d8);(try clear d9);(try clear e0);obtain⟨kq,c0,HA,f3,HO_4,HO_5,a2,HB⟩:=hcut
  cases kq with
  |zero=>exact absurd HA.out (by simp [spec_ReadDeed.j0])
  |succ e5=>
   have H:=HA.out;clear HA;simp only [spec_ReadDeed.j0] at H;have g8:=zqm H;clear H
   go_upto_if 30 with (fail)
   go_cut [5] (fun v5 wc=> ∃(kq:Nat) (a5:List (S25)),Aside0 (spec_ReadDeed.j1 kq a0 a5=some (r1,r2,r3,r4))∧Aside0 (kq≤e5)∧Aside0 (Kd.R k25 25 wc w.heap.size (fun k_=>k_≠a3) v5 a5)∧Aside0 (wc.heap[a3]? =some (.cells #[.int .i64 0,.int .i64 0,.int .i64 0] 25 (0,0)))∧Aside0 (Below w.heap.size w wc))
   case first=>
    have H:=g8.out;clear g8
    by_cases d5:(a1.length:Int)=3
    ·rw [if_pos d5] at H;have c4:((a1.length:Int)==3)=true:=beq_iff_eq.mpr d5;have g1:((a1.length:Int) !=3)=false:=bne_eq_false_iff_eq.mpr d5;clear d5;(first|rw [c4]|(simp only [i64_w,i32_w];rw [c4])|skip)
     by_cases f4:1<(a1.length:Int)
     ·rw [if_pos f4] at H;have h6:decide (1<(a1.length:Int))=true:=decide_eq_true f4;have h7:decide (1<a1.length)=true:=decide_eq_true (by omega);clear f4;replace H:=Option.bind_eq_some_iff.mp H;obtain⟨d1,i6,H⟩:=H;replace H:(if 2<(a1.length:Int) then((spec_l1Digits.f e5 (rdOf ByteArray.empty a1 2)).bind fun c6=>(if c0.length<5864062014805 then(spec_ReadDeed.j1 e5 a0 (c0 ++ [(⟨3,d1,c6⟩:S25)])) else(none))) else(none))=some (r1,r2,r3,r4):=H;have q4:=zqm i6;clear i6
      by_cases f5:2<(a1.length:Int)
      ·rw [if_pos f5] at H;have h8:decide (2<(a1.length:Int))=true:=decide_eq_true f5;have h9:decide (2<a1.length)=true:=decide_eq_true (by omega);clear f5;replace H:=Option.bind_eq_some_iff.mp H;obtain⟨c6,i7,H⟩:=H;replace H:(if c0.length<5864062014805 then(spec_ReadDeed.j1 e5 a0 (c0 ++ [(⟨3,d1,c6⟩:S25)])) else(none))=some (r1,r2,r3,r4):=H;have q5:=zqm i7;clear i7
       by_cases f6:c0.length<5864062014805
       ·rw [if_pos f6] at H;have LMc25:=zqm f6;clear f6;obtain⟨j6,g6⟩: ∃y_:List (S25),y_=(c0 ++ [(⟨3,d1,c6⟩:S25)]):=⟨_,rfl⟩;replace H:(spec_ReadDeed.j1 e5 a0 j6)=some (r1,r2,r3,r4):=zqy g6 H;have k0:=zqm g6;clear g6;have H':=zqm H;clear H;(try go_wp2);replace HO_4:=zqm (Kd.R_drew HO_4.out);replace HO_5:=zqm (Kd.R_drew HO_5.out);replace a2:=zqm (blk_drew a2.out);replace HB:=zqm (below_drew1 HB.out);have e6:0≤(1:Int):=(by omega);have e8:1<(a1.length:Int):=zqo;obtain⟨d4,n1,b8⟩:=Kd.at_string (Kd.R_reads' HO_4.out).2.2 1 e6 e8
        cases n1
        (try simp only [show (1:Int).toNat=1 from rfl,Nat.reduceMul,Nat.reduceEqDiff,Go.Addr.add,↓reduceIte] at b8);have s2:(1<a1.length)=True:=eq_true (by omega);(try rw [show ((1:Int)).toNat=1 from rfl] at b8);replace e6:=eq_true e6;replace e8:=eq_true e8;have e7:0≤(2:Int):=(by omega);have e9:2<(a1.length:Int):=zqo;obtain⟨k2,n2,b9⟩:=Kd.at_string (Kd.R_reads' HO_4.out).2.2 2 e7 e9;obtain rfl:d4=k2:=(by injection n2);(try simp only [show (2:Int).toNat=2 from rfl,Nat.reduceMul,Nat.reduceEqDiff,Go.Addr.add,↓reduceIte] at b9);have s3:(2<a1.length)=True:=eq_true (by omega);(try rw [show ((2:Int)).toNat=2 from rfl] at b9);replace e7:=eq_true e7;replace e9:=eq_true e9;refine start_ (n:=13) (S:=fun w'=>w'.cell? ⟨d4.block,d4.off+1,none⟩=some (.string (rdOf ByteArray.empty a1 1))∧w'.cell? ⟨d4.block,d4.off+2,none⟩=some (.string (rdOf ByteArray.empty a1 2))) (ds:= [10,11]) (zqb 13 0) zqk rfl rfl ⟨b8,b9⟩ (fun hHeld=>?_);refine with_tabW spec_ReadDeed.tab6 spec_ReadDeed.bits6 (fun HT_ HW_=>?_);generalize wc.drew=t9 at HO_4 HO_5 a2 HB b8 b9 hHeld ⊢;refine zqp 0 31 (zqb 13 1) HT_ ?_;refine zqp 1 32 (zqb 13 3) HT_ ?_;refine zqp 2 33 (zqb 13 7) HT_ ?_;refine zqp 5 36 (zqb 13 39) HT_ ?_;refine zqp 6 37 (zqb 13 103) HT_ ?_;refine zqw 3 34 (zqb 13 111) HT_ HW_ hHeld ?_;refine zqw 7 38 (zqb 13 239) HT_ HW_ hHeld ?_;refine one_ (i:=4) (N:=some 35) (zqb 13 255) rfl rfl (one_of HT_.out zqk) (by decide) (fun K hK=>?_);refine goes_ Tryd.func35 zqk rfl #[.string (rdOf ByteArray.empty a1 1)] (by rfl) rfl rfl zq4 ?_;(with_reducible refine(spec_l1Digits.calls e5 (rdOf ByteArray.empty a1 1) d1 _ q4.out).mono ?_);rintro e w' ⟨rfl,⟨nd,rfl⟩⟩;refine⟨_,rfl,?_⟩;refine hK.out _ _ ⟨hHeld.1,hHeld.2⟩ (fun hHeld=>?_);clear hK K;refine norm_ (a':=?_) ?_ ?_;rotate_left
        ·show Act.put _ (some 35) _=_;exact zqs
        refine one_ (i:=8) (N:=some 39) (zqb 13 511) rfl rfl (one_of HT_.out zqk) (by decide) (fun K hK=>?_);refine goes_ Tryd.func35 zqk rfl #[.string (rdOf ByteArray.empty a1 2)] (by rfl) rfl rfl zq4 ?_;(with_reducible refine(spec_l1Digits.calls e5 (rdOf ByteArray.empty a1 2) c6 _ q5.out).mono ?_);rintro e w' ⟨rfl,⟨nd,rfl⟩⟩;refine⟨_,rfl,?_⟩;refine hK.out _ _ ⟨hHeld.1,hHeld.2⟩ (fun hHeld=>?_);clear hK K;refine norm_ (a':=?_) ?_ ?_;rotate_left
        ·show Act.put _ (some 39) _=_;exact zqs
        refine zqp 9 40 (zqb 13 1023) HT_ ?_;refine last_ (i:=10) (N:=some 41) (zqb 13 2047) rfl rfl (one_of HT_.out zqk) (by decide) (fun K hK=>?_);refine value_ (w1:=?_) (v:=?_) (by rfl) rfl ?_ ?_;rotate_left 2
        ·go_simp
         constructor
         ·rfl
         ·rfl
        refine hK.out _ _ ?_;clear hK K;refine norm_ (a':=?_) ?_ ?_;rotate_left
        ·show Act.put _ (some 41) _=_;exact zqs
        refine last_ (i:=11) (N:=some 42) (zqb 13 4095) rfl rfl (one_of HT_.out zqk) (by decide) (fun K hK=>?_);refine Kd.R_append_step k25 (w0:=w) w.heap.size (by rfl) (.tmp 31) (.tmp 41) 31 25 (.agg #[(.int .i64 0),(.int .i64 0),(.int .i64 0)]) 24 rfl Tryd.underlying31 info25 rfl (by decide) (by omega) u5 c0 (⟨3,d1,c6⟩:S25) [.int .i64 3,.int .i64 d1,.int .i64 c6] (fun k_=>k_≠a3) (fun _=>False) rfl rfl ?aP (fun _ hk=>hk.elim) ?aF ?aO ?aB ?aS ?aL ?_;(case aP=>exact k25_mkM _ _ _ (⟨3,d1,c6⟩:S25));(case aB=> exact zq29);(case aF=>exact(fun k_ hk=>Kd.freshB (g:=a3) (o:= .cells #[.int .i64 0,.int .i64 0,.int .i64 0] 25 (0,0)) (zqe a2.out) k_ hk));(case aO=>exact(zqfR HO_5.out));(case aS=> exact zq27);(case aL=>have:=LMc25.out;omega);intro t5 u0 ho hb hg hat;rw [← k0.out] at ho;replace HO_4:=zqm (Kd.R_over' (zqfR HO_4.out) (Kd.R_typed (zqfR HO_5.out)) (by decide) hg);replace a2:=zqm (blk_grown (g:=a3) (o:= .cells #[.int .i64 0,.int .i64 0,.int .i64 0] 25 (0,0)) (zqe a2.out) hg (Kd.R_away HO_5.out (fun _ hk=>hk)));replace HB:=zqm (hb);have j8:=zqm (ho);clear HO_5;clear ho hb hg hat;refine hK.out _ _ ?_;clear hK K;refine norm_ (a':=?_) ?_ ?_;rotate_left
        ·show Act.put _ (some 42) _=_;exact zqs
        refine zqp 12 5 (zqb 13 8191) HT_ ?_;refine done_ (done_of HT_.out zqk) ?_;try go_wp2
        go_meet
        case rel=>exact⟨_,(j6),H',⟨by have:=f3.out;first|omega|exact Nat.le_refl _⟩,⟨zqfR j8.out⟩,⟨zqe a2.out⟩,⟨zq2⟩⟩
       ·rw [if_neg f6] at H;exact absurd H (by simp)
      ·rw [if_neg f5] at H;exact absurd H (by simp)
     ·rw [if_neg f4] at H;exact absurd H (by simp)
    ·rw [if_neg d5] at H;have c4:((a1.length:Int)==3)=false:=beq_eq_false_iff_ne.mpr d5;have g1:((a1.length:Int) !=3)=true:=bne_iff_ne.mpr d5;(first|rw [c4]|(simp only [i64_w,i32_w];rw [c4])|skip);have H':=zqm H;clear H
     go_wp2
     go_meet
     case rel=>exact⟨_,(c0),H',⟨by have:=f3.out;first|omega|exact Nat.le_refl _⟩,⟨zqfR HO_5.out⟩,⟨zqe a2.out⟩,⟨zq2⟩⟩
   case rest=>
    clear g8;(try clear c1);(try clear p1);(try clear q1);(try clear l7);(try clear m4);(try clear c2);(try clear p2);(try clear q2);(try clear r6);(try clear r7);(try clear c3);(try clear c9);(try clear c5);(try clear g2);(try clear e1);(try clear f9);(try clear g0);(try clear e2);(try clear l3);(try clear m0);(try clear m2);(try clear n8);(try clear o0);(try clear d5);(try clear c4);(try clear g1);(try clear m1);(try clear m3);(try clear n9);(try clear o1);(try clear f4);(try clear h6);(try clear h7);(try clear f5);(try clear h8);(try clear h9);(try clear f6);(try clear b6);(try clear b7);(try clear b8);(try clear b9);(try clear p1);(try clear d7);(try clear d8);(try clear p2);(try clear e6);(try clear e7);(try clear q1);(try clear d9);(try clear e0);(try clear e8);(try clear e9);obtain⟨kq,a5,HA,f8,HO_5,a2,HB⟩:=hcut
    cases kq with
    |zero=>exact absurd HA.out (by simp [spec_ReadDeed.j1])
    |succ j3=>
     have H:=HA.out;clear HA;simp only [spec_ReadDeed.j1] at H;have H':=zqm H;clear H
     go_wp2
     go_loopg [6] j3 (fun kq v6 w'=> ∃(a4:Int) (a9:Int) (a7:Int) (a6:Int),v6= .int .i64 a4∧Aside0 (spec_ReadDeed.l0 kq a0 a5 a4=some (r1,r2,r3,r4))∧Aside0 (kq≤j3)∧Aside0 (Kd.R k25 25 w' w.heap.size (fun k_=>k_≠a3) u5 a5)∧Aside0 (w'.heap[a3]? =some (.cells #[.int .i64 a9,.int .i64 a7,.int .i64 a6] 25 (0,0)))∧Aside0 (Below w.heap.size w w'))
     case atStart=>exact⟨(0),(0),(0),(0),zq7,H',⟨Nat.le_refl _⟩,⟨zqfR HO_5.out⟩,⟨zqe a2.out⟩,⟨zq2⟩⟩
     case round=>
      clear H';(try clear c1);(try clear p1);(try clear q1);(try clear l7);(try clear m4);(try clear c2);(try clear p2);(try clear q2);(try clear r6);(try clear r7);(try clear c3);(try clear c9);(try clear c5);(try clear g2);(try clear e1);(try clear f9);(try clear g0);(try clear e2);(try clear l3);(try clear m0);(try clear m2);(try clear n8);(try clear o0);(try clear d5);(try clear c4);(try clear g1);(try clear m1);(try clear m3);(try clear n9);(try clear o1);(try clear f4);(try clear h6);(try clear h7);(try clear f5);(try clear h8);(try clear h9);(try clear f6);(try clear b6);(try clear b7);(try clear b8);(try clear b9);(try clear p1);(try clear m0);(try clear d7);(try clear d8);(try clear p2);(try clear m1);(try clear e6);(try clear e7);(try clear q1);(try clear m2);(try clear d9);(try clear e0);(try clear q2);(try clear m3);(try clear e8);(try clear e9);obtain⟨a4,a9,a7,a6,rfl,HA,h2,HO_5,a2,HB⟩:=hrel
      cases gk with
      |zero=>exact absurd HA.out (by simp [spec_ReadDeed.l0])
      |succ k3=>
       have H:=HA.out;clear HA;simp only [spec_ReadDeed.l0] at H
       by_cases f7:a4<(a5.length:Int)
       ·rw [if_pos f7] at H;have k5:decide (a4<(a5.length:Int))=true:=decide_eq_true f7;clear f7
        by_cases e3:a0.toList=([]:List UInt8)
        ·rw [if_pos e3] at H;have k6:(a0.toList==([]:List UInt8))=true:=beq_iff_eq.mpr e3;have k7:(a0.toList !=([]:List UInt8))=false:=bne_eq_false_iff_eq.mpr e3;clear e3;have H':=zqm H;clear H;obtain⟨s4,s8,n4⟩:=Kd.R_slice HO_5.out;subst n4
         go_wp2
         go_roundg k3
         (case measure=> exact zq37);case rel=>exact⟨(wrap64 (a4+1)),(a9),(a7),(a6),zq7,H',⟨zq37⟩,⟨zqfR HO_5.out⟩,⟨zqe a2.out⟩,⟨zq2⟩⟩
        ·rw [if_neg e3] at H;have k6:(a0.toList==([]:List UInt8))=false:=beq_eq_false_iff_ne.mpr e3;have k7:(a0.toList !=([]:List UInt8))=true:=bne_iff_ne.mpr e3
         by_cases i0:0≤a4
         ·rw [if_pos i0] at H;have r9:decide (0≤a4)=true:=decide_eq_true i0;clear i0;replace H:=Option.bind_eq_some_iff.mp H;obtain⟨c7,i8,H⟩:=H;replace H:(if c7.toList=a0.toList then(some ((rd_T25 a5 a4).f0,(rd_T25 a5 a4).f1,(rd_T25 a5 a4).f2,true)) else(spec_ReadDeed.l0 k3 a0 a5 (wrap64 (a4+1))))=some (r1,r2,r3,r4):=H;have l2:=zqm i8;clear i8
          by_cases e4:c7.toList=a0.toList
          ·rw [if_pos e4] at H;have k8:(c7.toList==a0.toList)=true:=beq_iff_eq.mpr e4;have k9:(c7.toList !=a0.toList)=false:=bne_eq_false_iff_eq.mpr e4;clear e4;simp only [Option.some.injEq,Prod.mk.injEq] at H;obtain⟨rfl,rfl,rfl,rfl⟩:=H;obtain⟨s5,s9,n5⟩:=Kd.R_slice HO_5.out;subst n5;have c8:0≤(a4:Int):=zqo;have d0:a4<(a5.length:Int):=zqo;obtain⟨h5,g9,i1,i2,i3⟩:=at_T25 (Kd.R_reads' HO_5.out).2.2 a4 c8 d0
           cases g9
           replace c8:=eq_true c8;replace d0:=eq_true d0
           go_wp2_with (first|(go_at_call 10;(with_reducible refine(spec_DeedText.calls k3 ((rd_T25 a5 a4).f0) ((rd_T25 a5 a4).f1) ((rd_T25 a5 a4).f2) c7 _ l2.out).mono ?_);rintro e j4 ⟨rfl,hb⟩;replace HO_5:=zqm (Kd.R_below (zqfR HO_5.out) hb);replace a2:=zqm (blk_below (g:=a3) (o:= .cells #[.int .i64 a9,.int .i64 a7,.int .i64 a6] 25 (0,0)) (zqe a2.out) hb);replace HB:=zqm (below_step zq2 hb);clear hb;have h0:0≤(a4:Int):=zqo;have h1:a4<(a5.length:Int):=zqo;obtain⟨k4,n3,p7,p8,p9⟩:=at_T25 (Kd.R_reads' HO_5.out).2.2 a4 h0 h1;obtain rfl:h5=k4:=(by injection n3);replace h0:=eq_true h0;replace h1:=eq_true h1;have o3:j4.cell? ⟨a3,0,none⟩=some (.int .i64 a9):=(blk_cell a2.out 0).trans rfl;have o4:j4.cell? ⟨a3,1,none⟩=some (.int .i64 a7):=(blk_cell a2.out 1).trans rfl;have o5:j4.cell? ⟨a3,2,none⟩=some (.int .i64 a6):=(blk_cell a2.out 2).trans rfl;have o9:=blk_frozen a2.out 0;have p0:=blk_frozen a2.out 1;have p3:=blk_frozen a2.out 2))
           refine bodyPost_ret (results_ct rfl _ _ a3 25 #[.int .i64 ((rd_T25 a5 a4).f0),.int .i64 ((rd_T25 a5 a4).f1),.int .i64 ((rd_T25 a5 a4).f2)] (0,0) _ rfl (by refine zqe ?_;refine blk_put (cs:= #[.int .i64 ((rd_T25 a5 a4).f0),.int .i64 ((rd_T25 a5 a4).f1),.int .i64 a6]) ?_ 2 _ rfl;refine zqe ?_;refine blk_put (cs:= #[.int .i64 ((rd_T25 a5 a4).f0),.int .i64 a7,.int .i64 a6]) ?_ 1 _ rfl;refine zqe ?_;refine blk_put (cs:= #[.int .i64 a9,.int .i64 a7,.int .i64 a6]) ?_ 0 _ rfl;refine zqe ?_;exact a2.out) Tryd.underlying25 rfl zqk) rfl ?_;exact⟨zq6,zq2⟩
          ·rw [if_neg e4] at H;have k8:(c7.toList==a0.toList)=false:=beq_eq_false_iff_ne.mpr e4;have k9:(c7.toList !=a0.toList)=true:=bne_iff_ne.mpr e4;have H':=zqm H;clear H;obtain⟨s6,t0,n6⟩:=Kd.R_slice HO_5.out;subst n6;have c8:0≤(a4:Int):=zqo;have d0:a4<(a5.length:Int):=zqo;obtain⟨h5,g9,i1,i2,i3⟩:=at_T25 (Kd.R_reads' HO_5.out).2.2 a4 c8 d0
           cases g9
           replace c8:=eq_true c8;replace d0:=eq_true d0
           go_wp2_with (first|(go_at_call 10;(with_reducible refine(spec_DeedText.calls k3 ((rd_T25 a5 a4).f0) ((rd_T25 a5 a4).f1) ((rd_T25 a5 a4).f2) c7 _ l2.out).mono ?_);rintro e u1 ⟨rfl,hb⟩;replace HO_5:=zqm (Kd.R_below (zqfR HO_5.out) hb);replace a2:=zqm (blk_below (g:=a3) (o:= .cells #[.int .i64 a9,.int .i64 a7,.int .i64 a6] 25 (0,0)) (zqe a2.out) hb);replace HB:=zqm (below_step zq2 hb);clear hb))
           go_roundg k3
           (case measure=> exact zq37);case rel=>exact⟨(wrap64 (a4+1)),(a9),(a7),(a6),zq7,H',⟨zq37⟩,⟨zqfR HO_5.out⟩,⟨zqe a2.out⟩,⟨zq2⟩⟩
         ·rw [if_neg i0] at H;exact absurd H (by simp)
       ·rw [if_neg f7] at H;have k5:decide (a4<(a5.length:Int))=false:=decide_eq_false f7;clear f7;simp only [Option.some.injEq,Prod.mk.injEq] at H;obtain⟨rfl,rfl,rfl,rfl⟩:=H;obtain⟨s7,t1,n7⟩:=Kd.R_slice HO_5.out;subst n7;have o6:wr.cell? ⟨a3,0,none⟩=some (.int .i64 a9):=(blk_cell a2.out 0).trans rfl;have o7:wr.cell? ⟨a3,1,none⟩=some (.int .i64 a7):=(blk_cell a2.out 1).trans rfl;have o8:wr.cell? ⟨a3,2,none⟩=some (.int .i64 a6):=(blk_cell a2.out 2).trans rfl;have p4:=blk_frozen a2.out 0;have p5:=blk_frozen a2.out 1;have p6:=blk_frozen a2.out 2
        go_wp2
        refine bodyPost_ret (results_ct rfl _ _ a3 25 #[.int .i64 0,.int .i64 0,.int .i64 0] (0,0) _ rfl (by refine zqe ?_;refine blk_put (cs:= #[.int .i64 0,.int .i64 0,.int .i64 a6]) ?_ 2 _ rfl;refine zqe ?_;refine blk_put (cs:= #[.int .i64 0,.int .i64 a7,.int .i64 a6]) ?_ 1 _ rfl;refine zqe ?_;refine blk_put (cs:= #[.int .i64 a9,.int .i64 a7,.int .i64 a6]) ?_ 0 _ rfl;refine zqe ?_;exact a2.out) Tryd.underlying25 rfl zqk) rfl ?_;exact⟨zq6,zq2⟩
end
end Go.Proofs.YtddgcdpogpppgaaDoor.Print
end
