/- Part 6 of what is common to several claims of this seat: RdL, JtL. -/
import Derived.Test.YtddgcdpogpppgaaDoorLB5
import Derived.Below
import Derived.Deep.Draws
import Derived.Deep.AppendLies
import Derived.Maps.AppendAt
import Derived.OwnWalk
import Derived.Laws.BytesArg
import Derived.Laws.MakeOwn
import Derived.Laws.OwnMore
import Derived.Deep.OwnRows
import Derived.Tactics
import Derived.Lib.ConvBytes
import Derived.Laws.Slices
import Derived.WalkKit
import Derived.KernelRfl
import Derived.RowKit3
import Derived.Deep.LoopGhost
import Derived.Deep.QuietTactic
import Derived.BigQuiet
import Derived.WideLaws
import Derived.Deep.DeepCutAuto
import Derived.Deep.CutBlock
import Derived.Deep.RegionHeld3
import Derived.Laws.Rows
import Derived.Lib.AppendStr
import Derived.ArgAppend
import Derived.Laws.IdiomCopy
import Derived.RowKit
import Derived.OrdersHeld
import Derived.Laws.BitsLemmas
import Derived.Laws.StructEq
import Derived.Test.YtddgcdpogpppgaaDoorProg
import Derived.Lib.ItoaNum
import Derived.Lib.Strings
import Derived.Shelf.Utf8.RuneCount
import Derived.Shelf.Strconv.Atoi
import Derived.Shelf.Strconv.Itoa0
import Derived.Shelf.Strconv.Itoa1
import Derived.Shelf.LaysM
import Derived.Shelf.Strconv.Itoa2
import Derived.Shelf.Strconv.Itoa3
import Derived.Shelf.Strconv.AtoiErrFast
import Derived.Shelf.Strconv.ParseIntEmpty
import Derived.Shelf.Strconv.AtoiFail
import Derived.Shelf.Strconv.Clone
import Derived.Shelf.Strconv.SyntaxError
import Derived.Shelf.LaysC
import Derived.Shelf.Strconv.ToError
import Derived.Shelf.Strconv.Lower
import Derived.Shelf.Strconv.ParseUint10
import Derived.Shelf.Strconv.ParseUint10Empty
import Derived.Shelf.Strconv.ParseUint10Any
import Derived.Shelf.Strconv.ParseInt10
import Derived.Shelf.Strconv.AtoiLong
import Derived.Shelf.Strconv.AtoiInnerAll
import Derived.Shelf.Strconv.RangeError
import Derived.Shelf.Strconv.ToErrorRange
import Derived.Shelf.Strconv.AtoiAll
import Derived.Shelf.Strconv.ErrVarAll
import Derived.Shelf.Strings.Search1
import Derived.Shelf.Strings.Search2
import Derived.Shelf.Strings.Search3
import Derived.Shelf.Strings.Cut
import Derived.Shelf.Strings.Count
import Derived.Shelf.Strings.Shaped
import Derived.Shelf.Strings.Split
import Derived.Shelf.Strings.SplitShaped
import Derived.Shelf.Unicode.Decode
import Derived.Shelf.Strings.RuneCount
import Derived.Shelf.Strings.Explode
import Derived.Shelf.Unicode.DecodeSlow
import Derived.Shelf.Unicode.DecodeAny
import Derived.Shelf.Slices.Turned
import Derived.ProofKit
import Derived.OpenShut
import Derived.LaidMore
import Derived.Lay
import Derived.ChangeVars
import Derived.Lib.LaidU8
import Derived.Lib.SmallJoins
import Derived.Deep.DeepHandedRow
import Derived.Lib.SplitLaws
import Derived.Lib.SlicesS
import Derived.Lib.AtoiAll
import Derived.Lib.IndexBytes
set_option linter.all false
section
namespace Go.Proofs.YtddgcdpogpppgaaDoor.Print
open Go.RowKit Go.Proofs.YtddgcdpogpppgaaDoorW.PrintWords Go.Proofs.YtddgcdpogpppgaaDoorW.PrintLast Go.Proofs.YtddgcdpogpppgaaDoorW.PrintMore
open Oml Go.ChangeShapes Go.WideShapes Go.ChangeAt Go.Joins
section
theorem cells9 : Tryd.prog.cellsOf 9 = 1 := by kernel_rfl
theorem gWords : (Tryd.prog.globals[0]?).map (·.type) = some 50 := by kernel_rfl
theorem laidOut : laidOutB Tryd.prog = true := by kernel_rfl
theorem own : ownKnob Tryd.prog.godebug = none := by kernel_rfl
def wordsD {H : Type} : DataW H := .slice [.lit (.string [103, 108, 117, 101]), .lit (.string [116, 105, 109, 101, 115]), .lit (.string [114, 105, 110, 103]), .lit (.string [112, 97, 114, 116]), .lit (.string [98, 97, 99, 107])] []
theorem word_of {W : World} {a : Addr} {v : Value} {n : Nat} {q : List MemPlace} {l : List UInt8} (hc : W.cell? a = some v) (h : DataW.trod (fun _ => ()) Tryd.prog W 0 (fun _ => true) false n 9 [v] = some (.lit (.string l), q)) : W.cell? a = some (.string ⟨l.toArray⟩) := by
 obtain⟨s,e,e2,_⟩:=DataW.trod_string Tryd.underlying9 h
 have e1:v= .string s:=by simpa using e
 have e3:l=s.data.toList:=by
  have:=congrArg Prod.fst e2
  simpa using this
 rw [hc,e1,e3,← ba_mk s]
theorem words_in {W : World} {l : List (String × DataW Unit)} (h : laidMet Tryd.prog l W) {n : String} (hg : Tryd.prog.globalNamed n = some 0) (hm : (n, wordsD) ∈ l) :
 ∃a c,WordsAt W a c∧W.var? Tryd.prog n=some #[.slice (some a) 5 c]:=by
 obtain⟨g,t,cs,fuel,p,hg2,ht,hv,hd⟩:=Lib.laidMet.reads h hm
 obtain rfl:=Option.some.inj (hg.symm.trans hg2)
 obtain rfl:=Option.some.inj (gWords.symm.trans ht)
 obtain⟨a,c,hcs,_,hel⟩:=open_row Tryd.underlying50 cells9 hd
 have hcs':cs= #[.slice (some a) 5 c]:=by cases cs;simp_all
 subst hcs'
 refine⟨a,c,⟨by simpa using World.var?_cell hg hv 0,?_,?_,?_,?_,?_⟩,hv⟩
 ·obtain⟨v,n,q,hc,hr⟩:=hel 0 _ rfl;exact word_of hc hr
 ·obtain⟨v,n,q,hc,hr⟩:=hel 1 _ rfl;exact word_of hc hr
 ·obtain⟨v,n,q,hc,hr⟩:=hel 2 _ rfl;exact word_of hc hr
 ·obtain⟨v,n,q,hc,hr⟩:=hel 3 _ rfl;exact word_of hc hr
 ·obtain⟨v,n,q,hc,hr⟩:=hel 4 _ rfl;exact word_of hc hr
theorem var?_below {P : Program} {B g : Nat} {W W' : World} {n : String} {cs : Array Value} (h : Below B W W') (hg : P.globalNamed n = some g) (hgB : g < B) (hv : W.var? P n = some cs) : W'.var? P n = some cs := by
 unfold World.var? at hv ⊢
 simp only [hg,Option.bind_some] at hv ⊢
 rw [h.block g hgB]
 exact hv
section
variable {H : Type} {enc : TypeId × Value → H}
theorem words_back {W W' : World} {n : String} {d : DataW H} {p : List MemPlace} {fuel : Nat} {a : Addr} {c : Nat} (hg : Tryd.prog.globalNamed n = some 0) (hv : W.var? Tryd.prog n = some #[.slice (some a) 5 c]) (hd : DataW.trod enc Tryd.prog W 0 (fun _ => true) true fuel 50 [.slice (some a) 5 c] = some (d, p))
 (hlt: ∀x ∈ p,x.block<W.heap.size) (hg0:0<W.heap.size) (hb:Below W.heap.size W W'): ∃q,DataW.TrodVars enc Tryd.prog W' (fun b=>decide (b<W.heap.size)) [n] [d] q:=by
 obtain⟨fuel',hd'⟩:=Below.trod laidOut zqk (of_decide_eq_true zqk) (v:= .slice (some a) 5 c) (⟨fuel,by simpa [Value.cells] using hd⟩:DataW.Trod enc Tryd.prog W 0 (fun _=>true) true 50 (.slice (some a) 5 c) d p) hb hlt
 exact⟨_,trodVars_mk1 (enc:=enc) (spare:=fun b=>decide (b<W.heap.size)) hg gWords (var?_below hb hg hg0 hv) (by simpa [Value.cells] using hd')⟩
theorem witness_row {C : Checked} {os : Os} {f : FuncId} {fn : Func} {s : OpenSpec} {conds : List PathCond} {apart : Bool} {laid : List (String × DataW Unit)} (modest : Bool) (w0 : World) (args : Array Value) (hos : w0.os = os)
 (hsh:(w0.forCall (fun _ _=>0) ⟨#[],args,[]⟩).Shaped C.prog) (hok:Input.okWideB C.prog (w0.forCall (fun _ _=>0) ⟨#[],args,[]⟩) f ⟨#[],args,[]⟩=true)
 (hrow:s.preRow enc C.prog fn conds apart laid (w0.forCall (fun _ _=>0) ⟨#[],args,[]⟩).memory args):
 ∃(w:World) (tape:Tape) (i:Input),w.os=os∧(w.forCall tape i).Shaped C.prog∧i.vars= []∧Input.okWide C.prog (w.forCall tape i) .any w.heap.size f i∧
  s.preRow enc C.prog fn conds apart laid (w.forCall tape i).memory i.args∧({ modest:=modest } :Assume).holds C.prog (lone (Frame.enter C.prog f i.args .normal) [] (w.forCall tape i)):=
 ⟨w0,fun _ _=>0,⟨#[],args,[]⟩,hos,hsh,(Input.okWide_of_okWideB (base:=0) hok).1,(Input.okWide_of_okWideB hok).2,hrow,by
  simp only [Assume.holds]
  exact⟨by simp,by simp,fun _=>Modest.zero,by simp,by simp⟩⟩
end
end
end Go.Proofs.YtddgcdpogpppgaaDoor.Print
end
section
namespace Go.Proofs.YtddgcdpogpppgaaDoor.Print
open Go.RowKit Go.Proofs.YtddgcdpogpppgaaDoorW.PrintWords Go.Proofs.YtddgcdpogpppgaaDoorW.PrintLast Go.Proofs.YtddgcdpogpppgaaDoorW.PrintMore
open Oml
def cutK : List UInt8 → List UInt8 → List (List UInt8)
 | cur, [] => [cur]
 | cur, c :: r => if c = 32 then cur :: cutK [] r else cutK (cur ++ [c]) r
theorem cutK_none : ∀ (p cur : List UInt8), (32 : UInt8) ∉ p → cutK cur p = [cur ++ p]
 | [],cur,_=>by rw [cutK,List.append_nil]
 |c :: r,cur,h=>by
  have h1: ¬c=32:=fun e=>h (by rw [e];exact List.mem_cons_self)
  rw [cutK,if_neg h1,cutK_none r _ (fun e=>h (List.mem_cons_of_mem _ e)),List.append_assoc];rfl
theorem cutK_pre (q : List UInt8) : ∀ (p cur : List UInt8), (32 : UInt8) ∉ p → cutK cur (p ++ 32 :: q) = (cur ++ p) :: cutK [] q
 | [],cur,_=>by rw [List.nil_append,cutK,if_pos rfl,List.append_nil]
 |c :: r,cur,h=>by
  have h1: ¬c=32:=fun e=>h (by rw [e];exact List.mem_cons_self)
  rw [List.cons_append,cutK,if_neg h1,cutK_pre q r _ (fun e=>h (List.mem_cons_of_mem _ e)),List.append_assoc];rfl
theorem cutK_len : ∀ (p cur : List UInt8), 1 ≤ (cutK cur p).length ∧ (cutK cur p).length ≤ p.length + 1
 | [],cur=>by rw [cutK];exact⟨Nat.le_refl _,Nat.le_refl _⟩
 |c :: r,cur=>by
  rw [cutK]
  split
  ·have:=cutK_len r []
   simp only [List.length_cons];omega
  ·have:=cutK_len r (cur ++ [c])
   simp only [List.length_cons];omega
theorem idx_pre (q : List UInt8) : ∀ (p : List UInt8), (32 : UInt8) ∉ p → Lib.index (p ++ 32 :: q) [32] = (p.length : Int) := by
 intro p
 rw [Lib.index_one]
 induction p with
 |nil=>intro _;simp [Lib.indexByte]
 |cons c r ih=>
  intro h
  have h1: ¬c=32:=fun e=>h (by rw [e];exact List.mem_cons_self)
  have h2:=ih (fun e=>h (List.mem_cons_of_mem _ e))
  rw [List.cons_append,Lib.indexByte,if_neg (by simpa using h1),h2,if_neg (by rw [beq_iff_eq];omega),List.length_cons]
  omega
theorem split_cut : ∀ (n : Nat) (l : List UInt8), l.length ≤ n → Lib.splitK [32] 0 (Lib.count l [32]) l = cutK [] l
 |n,l,hn=>by
  by_cases h:(32:UInt8) ∈ l
  ·obtain⟨p,q,e,hp⟩:=List.eq_append_cons_of_mem h
   have hl:l.length=p.length+(q.length+1):=by rw [e,List.length_append,List.length_cons]
   have hc:Lib.count l [32]=Lib.count q [32]+1:=by
    rw [Lib.count_one,Lib.count_one,e,List.count_append,List.count_cons_self,List.count_eq_zero.2 hp];omega
   rw [hc,Lib.splitK]
   have hi:Lib.index l [32]=(p.length:Int):=by rw [e];exact idx_pre q p hp
   rw [hi,if_neg (by rw [beq_iff_eq];omega),Int.toNat_natCast,Nat.add_zero]
   have e1:l.take p.length=p:=by rw [e];simp
   have e2:l.drop (p.length+([32]:List UInt8).length)=q:=by rw [e];simp
   match n,hn with
   |n+1,hn=>
    rw [e1,e2,split_cut n q (by omega)]
    rw [e,cutK_pre q p [] hp,List.nil_append]
   |0,hn=>omega
  ·rw [Lib.count_one,List.count_eq_zero.2 h,Lib.splitK,cutK_none l [] h,List.nil_append]
theorem bas_ext : ∀ {xs : List ByteArray} {ys : List (List UInt8)}, xs.map (·.data.toList) = ys → xs = ys.map (fun l => (⟨l.toArray⟩ : ByteArray))
 | [],ys,h=>by rw [← h];rfl
 |x :: xs,ys,h=>by
  rw [← h,List.map_cons,List.map_cons,← bas_ext (xs:=xs) rfl]
def pcs (s : ByteArray) : List ByteArray := (cutK [] s.data.toList).map fun l => ⟨l.toArray⟩
theorem split_pcs (s : ByteArray) : Lib.splitB ⟨#[32]⟩ 0 (Lib.countB s ⟨#[32]⟩) s = pcs s := by
 unfold pcs
 refine bas_ext ?_
 rw [Lib.splitB_data]
 exact split_cut _ _ (Nat.le_refl _)
theorem count_pcs (s : ByteArray) : Lib.countB s ⟨#[32]⟩ + 1 = (pcs s).length := by
 rw [← split_pcs, Lib.splitB_all ⟨#[32]⟩ (by decide) 0 _ s rfl]
theorem pcs_len (s : ByteArray) : 1 ≤ (pcs s).length ∧ (pcs s).length ≤ s.size + 1 := by
 unfold pcs
 rw [List.length_map, Lib.size_eq]
 exact cutK_len _ _
def wordsZ : List ByteArray := [⟨#[103, 108, 117, 101]⟩, ⟨#[116, 105, 109, 101, 115]⟩, ⟨#[114, 105, 110, 103]⟩, ⟨#[112, 97, 114, 116]⟩, ⟨#[98, 97, 99, 107]⟩]
def atoV (t : ByteArray) : Int := match Lib.atoiAll t.data.toList with
 | .ok v => v
 | .syntax => 0
 | .range => Lib.atoiSat t.data.toList
def pK (s : ByteArray) : Int := Lib.idxOfS wordsZ ((pcs s).getD 0 ByteArray.empty)
def pA (s : ByteArray) : Int := if 1 < (pcs s).length then atoV ((pcs s).getD 1 ByteArray.empty) else 0
def pB (s : ByteArray) : Int := if 2 < (pcs s).length then atoV ((pcs s).getD 2 ByteArray.empty) else 0
theorem ato_tab : ∀ n : Fin 100, atoV (numT n.1) = (n.1 : Int) := by decide +kernel
theorem num_tab : ∀ n : Fin 100, (32 : UInt8) ∉ numL n.1 := by decide +kernel
theorem pcs1 {p : List UInt8} (h : (32 : UInt8) ∉ p) : pcs ⟨p.toArray⟩ = [⟨p.toArray⟩] := by
 unfold pcs
 rw [show (⟨p.toArray⟩ : ByteArray).data.toList = p from rfl, cutK_none p [] h]; rfl
theorem pcs2 {p q : List UInt8} (h : (32 : UInt8) ∉ p) (h2 : (32 : UInt8) ∉ q) : pcs ⟨(p ++ 32 :: q).toArray⟩ = [⟨p.toArray⟩, ⟨q.toArray⟩] := by
 unfold pcs
 rw [show (⟨(p ++ 32 :: q).toArray⟩:ByteArray).data.toList=p ++ 32 :: q by simp,cutK_pre q p [] h,cutK_none q [] h2];rfl
theorem pcs3 {p q r : List UInt8} (h : (32 : UInt8) ∉ p) (h2 : (32 : UInt8) ∉ q) (h3 : (32 : UInt8) ∉ r) : pcs ⟨(p ++ 32 :: (q ++ 32 :: r)).toArray⟩ = [⟨p.toArray⟩, ⟨q.toArray⟩, ⟨r.toArray⟩] := by
 unfold pcs
 rw [show (⟨(p ++ 32 :: (q ++ 32 :: r)).toArray⟩:ByteArray).data.toList=p ++ 32 :: (q ++ 32 :: r) by simp,cutK_pre _ p [] h,cutK_pre _ q [] h2,cutK_none r [] h3];rfl
theorem pcs_glue {n : Nat} (h : n < 100) : pcs (deedT 0 n 0) = if n ≤ 9 then [⟨#[103, 108, 117, 101]⟩, numT n] else pcs ⟨#[]⟩ := by
 unfold deedT
 by_cases h1:n≤9
 ·rw [if_pos (deedV_iff.2 (by omega)),if_pos h1]
  exact pcs2 (p:= [103,108,117,101]) (q:=numL n) (by decide) (num_tab ⟨n,h⟩)
 ·rw [if_neg (fun e=>by have:=deedV_iff.1 e;omega),if_neg h1]
theorem pcs_times {n : Nat} (h : n ≤ 9) : pcs (deedT 1 n 0) = [⟨#[116, 105, 109, 101, 115]⟩, numT n] := by
 unfold deedT
 rw [if_pos (deedV_iff.2 (by omega))]
 exact pcs2 (p:= [116,105,109,101,115]) (q:=numL n) (by decide) (num_tab ⟨n,by omega⟩)
theorem pcs_ring : pcs (deedT 2 0 0) = [⟨#[114, 105, 110, 103]⟩] := by
 unfold deedT
 rw [if_pos (deedV_iff.2 (by omega))]
 exact pcs1 (p := [114, 105, 110, 103]) (by decide)
theorem pcs_back : pcs (deedT 4 0 0) = [⟨#[98, 97, 99, 107]⟩] := by
 unfold deedT
 rw [if_pos (deedV_iff.2 (by omega))]
 exact pcs1 (p := [98, 97, 99, 107]) (by decide)
theorem pcs_part {n m : Nat} (h : n < 100) (h2 : m < 100) : pcs (deedT 3 n m) = [⟨#[112, 97, 114, 116]⟩, numT n, numT m] := by
 unfold deedT
 rw [if_pos (deedV_iff.2 (by omega))]
 unfold deedL
 rw [if_neg (by decide),if_neg (by decide),if_neg (by decide),if_pos rfl,Int.toNat_natCast,Int.toNat_natCast]
 have e:([112,97,114,116,32] ++ numL n ++ [32] ++ numL m:List UInt8)= [112,97,114,116] ++ 32 :: (numL n ++ 32 :: numL m):=by simp
 rw [e]
 exact pcs3 (p:= [112,97,114,116]) (q:=numL n) (r:=numL m) (by decide) (num_tab ⟨n,h⟩) (num_tab ⟨m,h2⟩)
theorem idx_words : Lib.idxOfS wordsZ ⟨#[103, 108, 117, 101]⟩ = 0 ∧ Lib.idxOfS wordsZ ⟨#[116, 105, 109, 101, 115]⟩ = 1 ∧ Lib.idxOfS wordsZ ⟨#[114, 105, 110, 103]⟩ = 2 ∧ Lib.idxOfS wordsZ ⟨#[112, 97, 114, 116]⟩ = 3 ∧ Lib.idxOfS wordsZ ⟨#[98, 97, 99, 107]⟩ = 4 := by decide +kernel
theorem rd_inv {k a b : Int} (h : deedV k a b = true) : pK (deedT k a b) = k ∧ pA (deedT k a b) = a ∧ pB (deedT k a b) = b := by
 obtain⟨i0,i1,i2,i3,i4⟩:=idx_words
 unfold pK pA pB
 rcases deedV_iff.1 h with ⟨rfl,h1,rfl⟩|⟨rfl,h1,rfl⟩|⟨rfl,rfl,rfl⟩|⟨rfl,h1,h2⟩|⟨rfl,rfl,rfl⟩
 ·obtain⟨x,rfl⟩: ∃x:Nat,a=(x:Int):=⟨a.toNat,by omega⟩
  rw [pcs_glue (by omega),if_pos (by omega)]
  exact⟨i0,ato_tab ⟨x,by omega⟩,rfl⟩
 ·obtain⟨x,rfl⟩: ∃x:Nat,a=(x:Int):=⟨a.toNat,by omega⟩
  rw [pcs_times (by omega)]
  exact⟨i1,ato_tab ⟨x,by omega⟩,rfl⟩
 ·rw [pcs_ring]
  exact⟨i2,rfl,rfl⟩
 ·obtain⟨x,rfl⟩: ∃x:Nat,a=(x:Int):=⟨a.toNat,by omega⟩
  obtain⟨y,rfl⟩: ∃y:Nat,b=(y:Int):=⟨b.toNat,by omega⟩
  rw [pcs_part (by omega) (by omega)]
  exact⟨i3,ato_tab ⟨x,by omega⟩,ato_tab ⟨y,by omega⟩⟩
 ·rw [pcs_back]
  exact⟨i4,rfl,rfl⟩
def rdB (s : ByteArray) : Bool := decide (s.data.toList ≠ []) && decide ((deedT (pK s) (pA s) (pB s)).data.toList = s.data.toList)
def rdD (s : ByteArray) : Int × Int × Int × Bool := if rdB s = true then (pK s, pA s, pB s, true) else (0, 0, 0, false)
theorem rd_hit {k a b : Int} {s : ByteArray} (hv : deedV k a b = true) (h : deedT k a b = s) : rdD s = (k, a, b, true) := by
 obtain⟨h1,h2,h3⟩:=rd_inv hv
 rw [h] at h1 h2 h3
 have hs:s.data.toList≠ []:=by
  intro e
  refine deedT_ne.2 hv ?_
  rw [h]
  exact ba_ext e
 unfold rdD rdB
 rw [h1,h2,h3,h,if_pos (by simp [hs])]
structure ErrsAt (w : World) : Prop where
 sy: ∃te pe,w.cell? ⟨1,0,none⟩=some (.iface te pe)
 ra: ∃te pe,w.cell? ⟨2,0,none⟩=some (.iface te pe)
 mx: ∃m,w.cell? ⟨3,0,none⟩=some (.int .i64 m)
theorem ErrsAt.below {w w1 : World} (h : ErrsAt w) (hb : Below w.heap.size w w1) : ErrsAt w1 := by
 obtain⟨⟨t1,p1,h1⟩,⟨t2,p2,h2⟩,⟨m,h3⟩⟩:=h
 exact⟨⟨t1,p1,cell_keep h1 hb⟩,⟨t2,p2,cell_keep h2 hb⟩,⟨m,cell_keep h3 hb⟩⟩
theorem atoi_calls (t : ByteArray) (ht : t.size ≤ 281474976710656) (w : World) (hE : ErrsAt w) : Calls Tryd.prog 38 #[.string t] w fun e w' => ∃ er, e = .returned (.tuple #[.int .i64 (atoV t), er]) ∧ Below w.heap.size w w' := by
 obtain⟨⟨t1,p1,h1⟩,⟨t2,p2,h2⟩,_⟩:=hE
 cases hv:Lib.atoiAll t.data.toList with
 |ok v=>
  have e:atoV t=v:=by unfold atoV;rw [hv]
  rw [e]
  refine(Tryd.strconv_Atoi_ok t (by omega) v hv w).mono ?_
  rintro e w' ⟨rfl,h⟩
  refine⟨_,rfl,?_⟩
  rcases h with rfl|⟨x,rfl⟩
  ·exact Below.refl _ _
  ·exact Lib.bytesWorld_below _ _ _
 | «syntax» =>
  have e:atoV t=0:=by unfold atoV;rw [hv]
  rw [e]
  refine(Tryd.strconv_Atoi_syntax t ht hv _ w h1 (.inr ⟨_,_,rfl⟩)).mono ?_
  rintro e w' ⟨N,rfl,_,_,hb⟩
  exact⟨_,rfl,hb⟩
 |range=>
  have e:atoV t=Lib.atoiSat t.data.toList:=by unfold atoV;rw [hv]
  rw [e]
  refine(Tryd.strconv_Atoi_range t ht hv _ w h2 (.inr ⟨_,_,rfl⟩)).mono ?_
  rintro e w' ⟨N,rfl,_,_,hb⟩
  exact⟨_,rfl,hb⟩
theorem split_calls (s : ByteArray) (hs : s.size < 4294967281) (n : Nat) (hn : (pcs s).length = n) (w : World) (hE : ErrsAt w) : Calls Tryd.prog 36 #[.string s, .string ⟨#[32]⟩] w fun e w' => ∃ N, e = .returned (.slice (some ⟨N, 0, none⟩) n n) ∧ w.heap.size = N ∧ w'.heap[N]? = some (.cells ((pcs s).map Value.string).toArray 9 (0, 0)) ∧ Below w.heap.size w w' := by
 obtain⟨_,_,⟨m,hm⟩⟩:=hE
 refine(Tryd.strings_Split s ⟨#[32]⟩ m w hs hm (by decide)).mono ?_
 rintro e w' ⟨rfl,rfl⟩
 rw [split_pcs,count_pcs,hn]
 exact⟨_,rfl,rfl,blk_new w _,below_alloc (Below.refl _ _) _⟩
theorem index_calls (x : ByteArray) (w : World) (ad : Addr) (c : Nat) (hW : WordsAt w ad c) : Calls Tryd.prog 37 #[.slice (some ad) 5 c, .string x] w fun e w' => e = .returned (.int .i64 (Lib.idxOfS wordsZ x)) ∧ w' = w := by
 obtain⟨b,o,f⟩:=ad
 obtain⟨_,e0,e1,e2,e3,e4⟩:=hW
 have hf:f=none:=by
  cases f with
  |none=>rfl
  |some f=>simp [Addr.add,World.cell?] at e0;split at e0 <;> simp at e0
 subst hf
 refine Tryd.slices_Index_string b o 5 c wordsZ x w (Nat.le_refl _) (by decide) fun j hj=>?_
 match j,hj with
 |0,_=>exact e0
 |1,_=>exact e1
 |2,_=>exact e2
 |3,_=>exact e3
 |4,_=>exact e4
set_option maxHeartbeats 4000000 in
set_option maxRecDepth 100000 in
theorem read1e (s z0 : ByteArray) (hp : pcs s = [z0]) (w : World) (ad : Addr) (c : Nat) (hW : WordsAt w ad c) (hE : ErrsAt w) (hs : s.size < 4294967281) (he : s.data.toList = []) :
 Calls Tryd.prog 19 #[.string s] w fun e w'=>e= .returned (.tuple #[.agg #[.int .i64 0,.int .i64 0,.int .i64 0],.bool false])∧Below w.heap.size w w':=by
 have hu25:=Tryd.underlying25
 have HW:=zqm hW
 have HE:=zqm hE
 have HS:=zqm (split_calls s hs 1 (by rw [hp];rfl))
 rw [hp] at HS
 have HI:=zqm (index_calls z0)
 obtain⟨k,hk⟩: ∃k,k=Lib.idxOfS wordsZ z0:=⟨_,rfl⟩
 rw [← hk] at HI
 clear hW hE hs hp hk
 have sl:s.toList=s.data.toList:=ba_toList s
 have x1:(s.toList= [])=True:=eq_true (sl.trans he)
 have x2:(s.toList== [])=true:=by rw [sl,he];rfl
 have x3:s.toList.isEmpty=true:=by rw [sl,he];rfl
 clear sl he
 go_enter Tryd.func19,Tryd.ntmps19
 go_wp2_with (first|((with_reducible refine gate_dst (N:=2) rfl ?_);refine box_event ?hg (N:=2) ?hd (cs:= #[.int .i64 0,.int .i64 0,.int .i64 0]) (t:=25) ?hr ?_;(case hd=>rfl);(case hg=>rfl);(case hr=> exact zq18);intro gr hg_ w1 hbox hb;have HB:=zqm hb;have HR:=zqm hbox;have HRW:=zqm (Nat.le_of_eq hg_.symm);clear hbox hb hg_)|(go_at_call 36;(with_reducible refine(HS.out _ (HE.out.below HB.out)).mono ?_);rintro e w2 ⟨N,rfl,hN,hz,hb⟩;have HNR:=zqm (show gr≠N from zq103);have HNW:=zqm (show w.heap.size≤N from zq121);have HZ:=zqm hz;clear hz;have n0_:=zqm (below_step HB.out hb);have n1_:=zqm (blk_below HR.out hb);clear HB HR;have HB:=n0_;have HR:=n1_;clear n0_ n1_;clear hb hN))
 have n0_:=zqm (below_drew1 HB.out);have n1_:=zqm (blk_drew HR.out);have n2_:=zqm (blk_drew HZ.out);clear HB HR HZ;have HB:=n0_;have HR:=n1_;have HZ:=n2_;clear n0_ n1_ n2_
 refine start_ (n:=8) (S:=fun w'=>w'.cell? ⟨0,0,none⟩=some (.slice (some ad) 5 c)∧w'.cell? ⟨N,0,none⟩=some (.string z0)) (ds:= []) (zqb 8 0) zqk rfl rfl ⟨(HW.out.below HB.out).v,(blk_cell HZ.out 0).trans rfl⟩ (fun hHeld=>?_)
 generalize w2.drew=w3 at HB HR HZ hHeld ⊢
 refine take_ (i:=0) (N:=some 8) (v:=?_) (a':=?_) (zqb 8 1) rfl rfl zqk (fun _ _ _ h=>h) (Or.inl ⟨by rfl,?_⟩) hHeld ?_ ?_
 rotate_left
 ·rintro w' ⟨hh0,hh1⟩
  go_simp
  with_reducible rfl
 rotate_left
 ·simp only [Act.put,List.setIfInBounds_toArray,List.set_cons_zero,List.set_cons_succ,i64_w,i32_w]
  rfl
 refine pure_ (i:=1) (N:=some 9) (v:=?_) (a':=?_) (zqb 8 3) rfl rfl zqk (fun _ _ _ h=>h) (Or.inl ⟨by rfl,?_⟩) ?_ ?_
 rotate_left
 ·intro w'
  go_simp
  with_reducible rfl
 rotate_left
 ·simp only [Act.put,List.setIfInBounds_toArray,List.set_cons_zero,List.set_cons_succ,i64_w,i32_w]
  rfl
 refine pure_ (i:=2) (N:=some 10) (v:=?_) (a':=?_) (zqb 8 7) rfl rfl zqk (fun _ _ _ h=>h) (Or.inl ⟨by rfl,?_⟩) ?_ ?_
 rotate_left
 ·intro w'
  go_simp
  with_reducible rfl
 rotate_left
 ·simp only [Act.put,List.setIfInBounds_toArray,List.set_cons_zero,List.set_cons_succ,i64_w,i32_w]
  rfl
 refine take_ (i:=3) (N:=some 11) (v:=?_) (a':=?_) (zqb 8 15) rfl rfl zqk (fun _ _ _ h=>h) (Or.inl ⟨by rfl,?_⟩) hHeld ?_ ?_
 rotate_left
 ·rintro w' ⟨hh0,hh1⟩
  go_simp
  with_reducible rfl
 rotate_left
 ·simp only [Act.put,List.setIfInBounds_toArray,List.set_cons_zero,List.set_cons_succ,i64_w,i32_w]
  rfl
 refine join_ (σ:=Nat) 1 (zqb 8 127) (fun s_=> [(12,.int .i64 k),(5,.pointer (some ⟨s_,0,none⟩)),(13,.agg #[.int .i64 k,.int .i64 0,.int .i64 0])]) (fun s_ w'=>(w'.heap[gr]? =some (.cells #[.int .i64 0,.int .i64 0,.int .i64 0] 25 (0,0)))∧(w'.heap[N]? =some (.cells (([z0]:List ByteArray).map Value.string).toArray 9 (0,0)))∧(w'.heap[s_]? =some (.cells #[.int .i64 0,.int .i64 0,.int .i64 0] 25 (0,0)))∧gr≠s_∧N≠s_∧w.heap.size≤s_∧Below w.heap.size w w') ?_ ?_
 rotate_left
 ·intro hJ
  refine two_ (i:=4) (j:=6) (Ni:=some 12) (Nj:=some 5) (zqb 8 31) (zqb 8 79) rfl rfl rfl rfl zqk (by decide) (by decide) (fun K hK=>?_) (fun K hK=>?_)
  ·refine goes_ Tryd.func37 zqk rfl #[.slice (some ad) 5 c,.string z0] (by rfl) rfl rfl zq38 ?_
   with_reducible refine(HI.out w3 ad c (HW.out.below HB.out)).mono ?_
   rintro e w' ⟨rfl,rfl⟩
   refine⟨_,rfl,?_⟩
   refine hK.out _ _ ⟨(HW.out.below HB.out).v,(blk_cell HZ.out 0).trans rfl⟩ (fun hHeld=>?_)
   clear hK K
   refine norm_ (a':=?_) ?_ ?_
   rotate_left
   ·show Act.put _ (some 12) _=_
    simp only [Act.put,List.setIfInBounds_toArray,List.set_cons_zero,List.set_cons_succ,i64_w,i32_w]
    rfl
   refine pure_ (i:=5) (N:=some 13) (v:=?_) (a':=?_) (zqb 8 63) rfl rfl zqk (fun _ _ _ h=>h) (Or.inl ⟨by rfl,?_⟩) ?_ ?_
   rotate_left
   ·intro w'
    go_simp
    with_reducible rfl
   rotate_left
   ·simp only [Act.put,List.setIfInBounds_toArray,List.set_cons_zero,List.set_cons_succ,i64_w,i32_w]
    rfl
   refine one_ (i:=6) (N:=some 5) (zqb 8 127) rfl rfl zqk (by decide) (fun K hK=>?_)
   refine box_step ?hg (N:=5) ?hd (cs:= #[.int .i64 0,.int .i64 0,.int .i64 0]) (t:=25) ?hr ?_;(case hd=>rfl);(case hg=>rfl);(case hr=> exact zq18)
   intro ga hg w4 hbox hb
   have HGR:=zqm (show gr≠ga from zq57)
   have HGN:=zqm (show N≠ga from zq58)
   have HGW:=zqm (show w.heap.size≤ga from zq91)
   have HA:=zqm hbox
   have n0_:=zqm (below_step HB.out hb);have n1_:=zqm (blk_below HR.out hb);have n2_:=zqm (blk_below HZ.out hb);clear HB HR HZ;have HB:=n0_;have HR:=n1_;have HZ:=n2_;clear n0_ n1_ n2_
   clear hbox hb hg
   refine hK.out _ _ ⟨(HW.out.below HB.out).v,(blk_cell HZ.out 0).trans rfl⟩ (fun hHeld=>?_)
   clear hK K
   refine norm_ (a':=?_) ?_ ?_
   rotate_left
   ·show Act.put _ (some 5) _=_
    simp only [Act.put,List.setIfInBounds_toArray,List.set_cons_zero,List.set_cons_succ,i64_w,i32_w]
    rfl
   exact norm_ zq10 (hJ ga _ ⟨HR.out,HZ.out,HA.out,HGR.out,HGN.out,HGW.out,HB.out⟩)
  ·refine box_step ?hg (N:=5) ?hd (cs:= #[.int .i64 0,.int .i64 0,.int .i64 0]) (t:=25) ?hr ?_;(case hd=>rfl);(case hg=>rfl);(case hr=> exact zq18)
   intro ga hg w4 hbox hb
   have HGR:=zqm (show gr≠ga from zq57)
   have HGN:=zqm (show N≠ga from zq58)
   have HGW:=zqm (show w.heap.size≤ga from zq91)
   have HA:=zqm hbox
   have n0_:=zqm (below_step HB.out hb);have n1_:=zqm (blk_below HR.out hb);have n2_:=zqm (blk_below HZ.out hb);clear HB HR HZ;have HB:=n0_;have HR:=n1_;have HZ:=n2_;clear n0_ n1_ n2_
   clear hbox hb hg
   refine hK.out _ _ ⟨(HW.out.below HB.out).v,(blk_cell HZ.out 0).trans rfl⟩ (fun hHeld=>?_)
   clear hK K
   refine norm_ (a':=?_) ?_ ?_
   rotate_left
   ·show Act.put _ (some 5) _=_
    simp only [Act.put,List.setIfInBounds_toArray,List.set_cons_zero,List.set_cons_succ,i64_w,i32_w]
    rfl
   refine one_ (i:=4) (N:=some 12) (zqb 8 95) rfl rfl zqk (by decide) (fun K hK=>?_)
   refine goes_ Tryd.func37 zqk rfl #[.slice (some ad) 5 c,.string z0] (by rfl) rfl rfl zq38 ?_
   with_reducible refine(HI.out w4 ad c (HW.out.below HB.out)).mono ?_
   rintro e w' ⟨rfl,rfl⟩
   refine⟨_,rfl,?_⟩
   refine hK.out _ _ ⟨(HW.out.below HB.out).v,(blk_cell HZ.out 0).trans rfl⟩ (fun hHeld=>?_)
   clear hK K
   refine norm_ (a':=?_) ?_ ?_
   rotate_left
   ·show Act.put _ (some 12) _=_
    simp only [Act.put,List.setIfInBounds_toArray,List.set_cons_zero,List.set_cons_succ,i64_w,i32_w]
    rfl
   refine pure_ (i:=5) (N:=some 13) (v:=?_) (a':=?_) (zqb 8 127) rfl rfl zqk (fun _ _ _ h=>h) (Or.inl ⟨by rfl,?_⟩) ?_ ?_
   rotate_left
   ·intro w'
    go_simp
    with_reducible rfl
   rotate_left
   ·simp only [Act.put,List.setIfInBounds_toArray,List.set_cons_zero,List.set_cons_succ,i64_w,i32_w]
    rfl
   exact norm_ zq10 (hJ ga _ ⟨HR.out,HZ.out,HA.out,HGR.out,HGN.out,HGW.out,HB.out⟩)
 rintro ga w5 ⟨h0_,h1_,h2_,h3_,h4_,h5_,h6_⟩
 clear HB HR HZ hHeld
 have HR:=zqm h0_
 have HZ:=zqm h1_
 have HA:=zqm h2_
 have HGR:=zqm h3_
 have HGN:=zqm h4_
 have HGW:=zqm h5_
 have HB:=zqm h6_
 clear h0_ h1_ h2_ h3_ h4_ h5_ h6_
 refine norm_ (a':=?_) ?_ ?_
 rotate_left
 ·simp only [putAll,Act.put,List.setIfInBounds_toArray,List.set_cons_zero,List.set_cons_succ]
  rfl
 refine one_ (i:=7) (N:=none) (zqb 8 255) rfl rfl zqk (by decide) (fun K hK=>?_)
 have hs0:w5.cell? ⟨ga,0,none⟩=some (.int .i64 0):=(blk_cell HA.out 0).trans rfl
 have hf0:=blk_frozen HA.out 0
 have hs1:w5.cell? ⟨ga,1,none⟩=some (.int .i64 0):=(blk_cell HA.out 1).trans rfl
 have hf1:=blk_frozen HA.out 1
 have hs2:w5.cell? ⟨ga,2,none⟩=some (.int .i64 0):=(blk_cell HA.out 2).trans rfl
 have hf2:=blk_frozen HA.out 2
 refine skip_ (w1:=?_) (by rfl) rfl ?_ ?_
 rotate_left
 ·go_simp
  rfl
 clear hs0 hs1 hs2 hf0 hf1 hf2
 have n0_:=zqm ((below_set (below_set (below_set HB.out HGW.out) HGW.out) HGW.out:Below w.heap.size w (((w5.setCell ⟨ga,0,none⟩ (.int .i64 k)).setCell ⟨ga,1,none⟩ (.int .i64 0)).setCell ⟨ga,2,none⟩ (.int .i64 0))));have n1_:=zqm ((blk_far (blk_far (blk_far HR.out HGR.out _) HGR.out _) HGR.out _:(((w5.setCell ⟨ga,0,none⟩ (.int .i64 k)).setCell ⟨ga,1,none⟩ (.int .i64 0)).setCell ⟨ga,2,none⟩ (.int .i64 0)).heap[gr]? =_));have n2_:=zqm ((blk_far (blk_far (blk_far HZ.out HGN.out _) HGN.out _) HGN.out _:(((w5.setCell ⟨ga,0,none⟩ (.int .i64 k)).setCell ⟨ga,1,none⟩ (.int .i64 0)).setCell ⟨ga,2,none⟩ (.int .i64 0)).heap[N]? =_));have n3_:=zqm ((blk_put (blk_put (blk_put HA.out 0 _ rfl) 1 _ rfl) 2 _ rfl:(((w5.setCell ⟨ga,0,none⟩ (.int .i64 k)).setCell ⟨ga,1,none⟩ (.int .i64 0)).setCell ⟨ga,2,none⟩ (.int .i64 0)).heap[ga]? =some (.cells #[.int .i64 k,.int .i64 0,.int .i64 0] 25 (0,0))));clear HB HR HZ HA;have HB:=n0_;have HR:=n1_;have HZ:=n2_;have HA:=n3_;clear n0_ n1_ n2_ n3_
 generalize hw6:((w5.setCell ⟨ga,0,none⟩ (.int .i64 k)).setCell ⟨ga,1,none⟩ (.int .i64 0)).setCell ⟨ga,2,none⟩ (.int .i64 0)=w6 at HB HR HZ HA ⊢
 clear hw6
 refine hK.out _ _ ⟨(HW.out.below HB.out).v,(blk_cell HZ.out 0).trans rfl⟩ (fun hHeld=>?_)
 clear hK K hHeld
 refine done_ zqk ?_
 have tok0:True:=trivial
 have ha0:w6.cell? ⟨ga,0,none⟩=some (.int .i64 k):=(blk_cell HA.out 0).trans rfl
 have ha1:w6.cell? ⟨ga,1,none⟩=some (.int .i64 0):=(blk_cell HA.out 1).trans rfl
 have ha2:w6.cell? ⟨ga,2,none⟩=some (.int .i64 0):=(blk_cell HA.out 2).trans rfl
 have hr0:w6.cell? ⟨gr,0,none⟩=some (.int .i64 0):=(blk_cell HR.out 0).trans rfl
 have hrf0:=blk_frozen HR.out 0
 have hr1:w6.cell? ⟨gr,1,none⟩=some (.int .i64 0):=(blk_cell HR.out 1).trans rfl
 have hrf1:=blk_frozen HR.out 1
 have hr2:w6.cell? ⟨gr,2,none⟩=some (.int .i64 0):=(blk_cell HR.out 2).trans rfl
 have hrf2:=blk_frozen HR.out 2
 have hgr:=HGR.out
 have hgr':=Ne.symm HGR.out
 go_wp2_with fail
 refine bodyPost_ret (results_ct rfl _ _ gr 25 #[.int .i64 0,.int .i64 0,.int .i64 0] (0,0) _ rfl zq39 Tryd.underlying25 rfl zqk) rfl ?_
 exact⟨rfl,zq48⟩
set_option maxHeartbeats 4000000 in
set_option maxRecDepth 100000 in
theorem read1n (s z0 : ByteArray) (hp : pcs s = [z0]) (w : World) (ad : Addr) (c : Nat) (hW : WordsAt w ad c) (hE : ErrsAt w) (hs : s.size < 4294967281) (he : ¬ s.data.toList = []) (hd : ¬ (deedT (Lib.idxOfS wordsZ z0) 0 0).data.toList = s.data.toList) :
 Calls Tryd.prog 19 #[.string s] w fun e w'=>e= .returned (.tuple #[.agg #[.int .i64 0,.int .i64 0,.int .i64 0],.bool false])∧Below w.heap.size w w':=by
 have hu25:=Tryd.underlying25
 have HW:=zqm hW
 have HE:=zqm hE
 have HS:=zqm (split_calls s hs 1 (by rw [hp];rfl))
 rw [hp] at HS
 have HI:=zqm (index_calls z0)
 obtain⟨k,hk⟩: ∃k,k=Lib.idxOfS wordsZ z0:=⟨_,rfl⟩
 rw [← hk] at HI
 rw [← hk] at hd
 have HD:=zqm (fun w (h:WordsAt w ad c)=>deed_calls k 0 0 w ad c h)
 obtain⟨t,ht⟩: ∃t,t=deedT k 0 0:=⟨_,rfl⟩
 rw [← ht] at HD hd
 clear hW hE hs hp hk ht
 have sl:s.toList=s.data.toList:=ba_toList s
 have x1:(s.toList= [])=False:=eq_false (by rw [sl];exact he)
 have x2:(s.toList== [])=false:=by cases h:s.toList <;> simp_all
 have x3:s.toList.isEmpty=false:=by cases h:s.toList <;> simp_all
 have tl:t.toList=t.data.toList:=ba_toList t
 have y1:(t.toList=s.toList)=False:=eq_false (by rw [sl,tl];exact hd)
 have y2:(t.toList==s.toList)=false:=by rw [beq_eq_false_iff_ne,sl,tl];exact hd
 have y3:(t.toList !=s.toList)=true:=by rw [bne_iff_ne,sl,tl];exact hd
 clear sl he hd tl
 go_enter Tryd.func19,Tryd.ntmps19
 go_wp2_with (first|((with_reducible refine gate_dst (N:=2) rfl ?_);refine box_event ?hg (N:=2) ?hd (cs:= #[.int .i64 0,.int .i64 0,.int .i64 0]) (t:=25) ?hr ?_;(case hd=>rfl);(case hg=>rfl);(case hr=> exact zq18);intro gr hg_ w1 hbox hb;have HB:=zqm hb;have HR:=zqm hbox;have HRW:=zqm (Nat.le_of_eq hg_.symm);clear hbox hb hg_)|(go_at_call 36;(with_reducible refine(HS.out _ (HE.out.below HB.out)).mono ?_);rintro e w2 ⟨N,rfl,hN,hz,hb⟩;have HNR:=zqm (show gr≠N from zq103);have HNW:=zqm (show w.heap.size≤N from zq121);have HZ:=zqm hz;clear hz;have n0_:=zqm (below_step HB.out hb);have n1_:=zqm (blk_below HR.out hb);clear HB HR;have HB:=n0_;have HR:=n1_;clear n0_ n1_;clear hb hN))
 have n0_:=zqm (below_drew1 HB.out);have n1_:=zqm (blk_drew HR.out);have n2_:=zqm (blk_drew HZ.out);clear HB HR HZ;have HB:=n0_;have HR:=n1_;have HZ:=n2_;clear n0_ n1_ n2_
 refine start_ (n:=8) (S:=fun w'=>w'.cell? ⟨0,0,none⟩=some (.slice (some ad) 5 c)∧w'.cell? ⟨N,0,none⟩=some (.string z0)) (ds:= []) (zqb 8 0) zqk rfl rfl ⟨(HW.out.below HB.out).v,(blk_cell HZ.out 0).trans rfl⟩ (fun hHeld=>?_)
 generalize w2.drew=w3 at HB HR HZ hHeld ⊢
 refine take_ (i:=0) (N:=some 8) (v:=?_) (a':=?_) (zqb 8 1) rfl rfl zqk (fun _ _ _ h=>h) (Or.inl ⟨by rfl,?_⟩) hHeld ?_ ?_
 rotate_left
 ·rintro w' ⟨hh0,hh1⟩
  go_simp
  with_reducible rfl
 rotate_left
 ·simp only [Act.put,List.setIfInBounds_toArray,List.set_cons_zero,List.set_cons_succ,i64_w,i32_w]
  rfl
 refine pure_ (i:=1) (N:=some 9) (v:=?_) (a':=?_) (zqb 8 3) rfl rfl zqk (fun _ _ _ h=>h) (Or.inl ⟨by rfl,?_⟩) ?_ ?_
 rotate_left
 ·intro w'
  go_simp
  with_reducible rfl
 rotate_left
 ·simp only [Act.put,List.setIfInBounds_toArray,List.set_cons_zero,List.set_cons_succ,i64_w,i32_w]
  rfl
 refine pure_ (i:=2) (N:=some 10) (v:=?_) (a':=?_) (zqb 8 7) rfl rfl zqk (fun _ _ _ h=>h) (Or.inl ⟨by rfl,?_⟩) ?_ ?_
 rotate_left
 ·intro w'
  go_simp
  with_reducible rfl
 rotate_left
 ·simp only [Act.put,List.setIfInBounds_toArray,List.set_cons_zero,List.set_cons_succ,i64_w,i32_w]
  rfl
 refine take_ (i:=3) (N:=some 11) (v:=?_) (a':=?_) (zqb 8 15) rfl rfl zqk (fun _ _ _ h=>h) (Or.inl ⟨by rfl,?_⟩) hHeld ?_ ?_
 rotate_left
 ·rintro w' ⟨hh0,hh1⟩
  go_simp
  with_reducible rfl
 rotate_left
 ·simp only [Act.put,List.setIfInBounds_toArray,List.set_cons_zero,List.set_cons_succ,i64_w,i32_w]
  rfl
 refine join_ (σ:=Nat) 1 (zqb 8 127) (fun s_=> [(12,.int .i64 k),(5,.pointer (some ⟨s_,0,none⟩)),(13,.agg #[.int .i64 k,.int .i64 0,.int .i64 0])]) (fun s_ w'=>(w'.heap[gr]? =some (.cells #[.int .i64 0,.int .i64 0,.int .i64 0] 25 (0,0)))∧(w'.heap[N]? =some (.cells (([z0]:List ByteArray).map Value.string).toArray 9 (0,0)))∧(w'.heap[s_]? =some (.cells #[.int .i64 0,.int .i64 0,.int .i64 0] 25 (0,0)))∧gr≠s_∧N≠s_∧w.heap.size≤s_∧Below w.heap.size w w') ?_ ?_
 rotate_left
 ·intro hJ
  refine two_ (i:=4) (j:=6) (Ni:=some 12) (Nj:=some 5) (zqb 8 31) (zqb 8 79) rfl rfl rfl rfl zqk (by decide) (by decide) (fun K hK=>?_) (fun K hK=>?_)
  ·refine goes_ Tryd.func37 zqk rfl #[.slice (some ad) 5 c,.string z0] (by rfl) rfl rfl zq38 ?_
   with_reducible refine(HI.out w3 ad c (HW.out.below HB.out)).mono ?_
   rintro e w' ⟨rfl,rfl⟩
   refine⟨_,rfl,?_⟩
   refine hK.out _ _ ⟨(HW.out.below HB.out).v,(blk_cell HZ.out 0).trans rfl⟩ (fun hHeld=>?_)
   clear hK K
   refine norm_ (a':=?_) ?_ ?_
   rotate_left
   ·show Act.put _ (some 12) _=_
    simp only [Act.put,List.setIfInBounds_toArray,List.set_cons_zero,List.set_cons_succ,i64_w,i32_w]
    rfl
   refine pure_ (i:=5) (N:=some 13) (v:=?_) (a':=?_) (zqb 8 63) rfl rfl zqk (fun _ _ _ h=>h) (Or.inl ⟨by rfl,?_⟩) ?_ ?_
   rotate_left
   ·intro w'
    go_simp
    with_reducible rfl
   rotate_left
   ·simp only [Act.put,List.setIfInBounds_toArray,List.set_cons_zero,List.set_cons_succ,i64_w,i32_w]
    rfl
   refine one_ (i:=6) (N:=some 5) (zqb 8 127) rfl rfl zqk (by decide) (fun K hK=>?_)
   refine box_step ?hg (N:=5) ?hd (cs:= #[.int .i64 0,.int .i64 0,.int .i64 0]) (t:=25) ?hr ?_;(case hd=>rfl);(case hg=>rfl);(case hr=> exact zq18)
   intro ga hg w4 hbox hb
   have HGR:=zqm (show gr≠ga from zq57)
   have HGN:=zqm (show N≠ga from zq58)
   have HGW:=zqm (show w.heap.size≤ga from zq91)
   have HA:=zqm hbox
   have n0_:=zqm (below_step HB.out hb);have n1_:=zqm (blk_below HR.out hb);have n2_:=zqm (blk_below HZ.out hb);clear HB HR HZ;have HB:=n0_;have HR:=n1_;have HZ:=n2_;clear n0_ n1_ n2_
   clear hbox hb hg
   refine hK.out _ _ ⟨(HW.out.below HB.out).v,(blk_cell HZ.out 0).trans rfl⟩ (fun hHeld=>?_)
   clear hK K
   refine norm_ (a':=?_) ?_ ?_
   rotate_left
   ·show Act.put _ (some 5) _=_
    simp only [Act.put,List.setIfInBounds_toArray,List.set_cons_zero,List.set_cons_succ,i64_w,i32_w]
    rfl
   exact norm_ zq10 (hJ ga _ ⟨HR.out,HZ.out,HA.out,HGR.out,HGN.out,HGW.out,HB.out⟩)
  ·refine box_step ?hg (N:=5) ?hd (cs:= #[.int .i64 0,.int .i64 0,.int .i64 0]) (t:=25) ?hr ?_;(case hd=>rfl);(case hg=>rfl);(case hr=> exact zq18)
   intro ga hg w4 hbox hb
   have HGR:=zqm (show gr≠ga from zq57)
   have HGN:=zqm (show N≠ga from zq58)
   have HGW:=zqm (show w.heap.size≤ga from zq91)
   have HA:=zqm hbox
   have n0_:=zqm (below_step HB.out hb);have n1_:=zqm (blk_below HR.out hb);have n2_:=zqm (blk_below HZ.out hb);clear HB HR HZ;have HB:=n0_;have HR:=n1_;have HZ:=n2_;clear n0_ n1_ n2_
   clear hbox hb hg
   refine hK.out _ _ ⟨(HW.out.below HB.out).v,(blk_cell HZ.out 0).trans rfl⟩ (fun hHeld=>?_)
   clear hK K
   refine norm_ (a':=?_) ?_ ?_
   rotate_left
   ·show Act.put _ (some 5) _=_
    simp only [Act.put,List.setIfInBounds_toArray,List.set_cons_zero,List.set_cons_succ,i64_w,i32_w]
    rfl
   refine one_ (i:=4) (N:=some 12) (zqb 8 95) rfl rfl zqk (by decide) (fun K hK=>?_)
   refine goes_ Tryd.func37 zqk rfl #[.slice (some ad) 5 c,.string z0] (by rfl) rfl rfl zq38 ?_
   with_reducible refine(HI.out w4 ad c (HW.out.below HB.out)).mono ?_
   rintro e w' ⟨rfl,rfl⟩
   refine⟨_,rfl,?_⟩
   refine hK.out _ _ ⟨(HW.out.below HB.out).v,(blk_cell HZ.out 0).trans rfl⟩ (fun hHeld=>?_)
   clear hK K
   refine norm_ (a':=?_) ?_ ?_
   rotate_left
   ·show Act.put _ (some 12) _=_
    simp only [Act.put,List.setIfInBounds_toArray,List.set_cons_zero,List.set_cons_succ,i64_w,i32_w]
    rfl
   refine pure_ (i:=5) (N:=some 13) (v:=?_) (a':=?_) (zqb 8 127) rfl rfl zqk (fun _ _ _ h=>h) (Or.inl ⟨by rfl,?_⟩) ?_ ?_
   rotate_left
   ·intro w'
    go_simp
    with_reducible rfl
   rotate_left
   ·simp only [Act.put,List.setIfInBounds_toArray,List.set_cons_zero,List.set_cons_succ,i64_w,i32_w]
    rfl
   exact norm_ zq10 (hJ ga _ ⟨HR.out,HZ.out,HA.out,HGR.out,HGN.out,HGW.out,HB.out⟩)
 rintro ga w5 ⟨h0_,h1_,h2_,h3_,h4_,h5_,h6_⟩
 clear HB HR HZ hHeld
 have HR:=zqm h0_
 have HZ:=zqm h1_
 have HA:=zqm h2_
 have HGR:=zqm h3_
 have HGN:=zqm h4_
 have HGW:=zqm h5_
 have HB:=zqm h6_
 clear h0_ h1_ h2_ h3_ h4_ h5_ h6_
 refine norm_ (a':=?_) ?_ ?_
 rotate_left
 ·simp only [putAll,Act.put,List.setIfInBounds_toArray,List.set_cons_zero,List.set_cons_succ]
  rfl
 refine one_ (i:=7) (N:=none) (zqb 8 255) rfl rfl zqk (by decide) (fun K hK=>?_)
 have hs0:w5.cell? ⟨ga,0,none⟩=some (.int .i64 0):=(blk_cell HA.out 0).trans rfl
 have hf0:=blk_frozen HA.out 0
 have hs1:w5.cell? ⟨ga,1,none⟩=some (.int .i64 0):=(blk_cell HA.out 1).trans rfl
 have hf1:=blk_frozen HA.out 1
 have hs2:w5.cell? ⟨ga,2,none⟩=some (.int .i64 0):=(blk_cell HA.out 2).trans rfl
 have hf2:=blk_frozen HA.out 2
 refine skip_ (w1:=?_) (by rfl) rfl ?_ ?_
 rotate_left
 ·go_simp
  rfl
 clear hs0 hs1 hs2 hf0 hf1 hf2
 have n0_:=zqm ((below_set (below_set (below_set HB.out HGW.out) HGW.out) HGW.out:Below w.heap.size w (((w5.setCell ⟨ga,0,none⟩ (.int .i64 k)).setCell ⟨ga,1,none⟩ (.int .i64 0)).setCell ⟨ga,2,none⟩ (.int .i64 0))));have n1_:=zqm ((blk_far (blk_far (blk_far HR.out HGR.out _) HGR.out _) HGR.out _:(((w5.setCell ⟨ga,0,none⟩ (.int .i64 k)).setCell ⟨ga,1,none⟩ (.int .i64 0)).setCell ⟨ga,2,none⟩ (.int .i64 0)).heap[gr]? =_));have n2_:=zqm ((blk_far (blk_far (blk_far HZ.out HGN.out _) HGN.out _) HGN.out _:(((w5.setCell ⟨ga,0,none⟩ (.int .i64 k)).setCell ⟨ga,1,none⟩ (.int .i64 0)).setCell ⟨ga,2,none⟩ (.int .i64 0)).heap[N]? =_));have n3_:=zqm ((blk_put (blk_put (blk_put HA.out 0 _ rfl) 1 _ rfl) 2 _ rfl:(((w5.setCell ⟨ga,0,none⟩ (.int .i64 k)).setCell ⟨ga,1,none⟩ (.int .i64 0)).setCell ⟨ga,2,none⟩ (.int .i64 0)).heap[ga]? =some (.cells #[.int .i64 k,.int .i64 0,.int .i64 0] 25 (0,0))));clear HB HR HZ HA;have HB:=n0_;have HR:=n1_;have HZ:=n2_;have HA:=n3_;clear n0_ n1_ n2_ n3_
 generalize hw6:((w5.setCell ⟨ga,0,none⟩ (.int .i64 k)).setCell ⟨ga,1,none⟩ (.int .i64 0)).setCell ⟨ga,2,none⟩ (.int .i64 0)=w6 at HB HR HZ HA ⊢
 clear hw6
 refine hK.out _ _ ⟨(HW.out.below HB.out).v,(blk_cell HZ.out 0).trans rfl⟩ (fun hHeld=>?_)
 clear hK K hHeld
 refine done_ zqk ?_
 have tok0:True:=trivial
 have ha0:w6.cell? ⟨ga,0,none⟩=some (.int .i64 k):=(blk_cell HA.out 0).trans rfl
 have ha1:w6.cell? ⟨ga,1,none⟩=some (.int .i64 0):=(blk_cell HA.out 1).trans rfl
 have ha2:w6.cell? ⟨ga,2,none⟩=some (.int .i64 0):=(blk_cell HA.out 2).trans rfl
 have hgr:=HGR.out
 have hgr':=Ne.symm HGR.out
 go_wp2_with (first|(have _t:=tok0;go_at_call 12;(with_reducible refine(HD.out _ (HW.out.below HB.out)).mono ?_);rintro e w9 ⟨rfl,hb⟩;clear ha0 ha1 ha2;have n0_:=zqm (below_step HB.out hb);have n1_:=zqm (blk_below HR.out hb);have n2_:=zqm (blk_below HA.out hb);clear HB HR HA;have HB:=n0_;have HR:=n1_;have HA:=n2_;clear n0_ n1_ n2_;clear hb;have ha0:w9.cell? ⟨ga,0,none⟩=some (.int .i64 k):=(blk_cell HA.out 0).trans rfl;have ha1:w9.cell? ⟨ga,1,none⟩=some (.int .i64 0):=(blk_cell HA.out 1).trans rfl;have ha2:w9.cell? ⟨ga,2,none⟩=some (.int .i64 0):=(blk_cell HA.out 2).trans rfl;have hr0:w9.cell? ⟨gr,0,none⟩=some (.int .i64 0):=(blk_cell HR.out 0).trans rfl;have hrf0:=blk_frozen HR.out 0;have hr1:w9.cell? ⟨gr,1,none⟩=some (.int .i64 0):=(blk_cell HR.out 1).trans rfl;have hrf1:=blk_frozen HR.out 1;have hr2:w9.cell? ⟨gr,2,none⟩=some (.int .i64 0):=(blk_cell HR.out 2).trans rfl;have hrf2:=blk_frozen HR.out 2;clear tok0 _t))
 refine bodyPost_ret (results_ct rfl _ _ gr 25 #[.int .i64 0,.int .i64 0,.int .i64 0] (0,0) _ rfl zq39 Tryd.underlying25 rfl zqk) rfl ?_
 exact⟨rfl,zq48⟩
set_option maxHeartbeats 4000000 in
set_option maxRecDepth 100000 in
theorem read1y (s z0 : ByteArray) (hp : pcs s = [z0]) (w : World) (ad : Addr) (c : Nat) (hW : WordsAt w ad c) (hE : ErrsAt w) (hs : s.size < 4294967281) (he : ¬ s.data.toList = []) (hd : deedT (Lib.idxOfS wordsZ z0) 0 0 = s) :
 Calls Tryd.prog 19 #[.string s] w fun e w'=>e= .returned (.tuple #[.agg #[.int .i64 (Lib.idxOfS wordsZ z0),.int .i64 0,.int .i64 0],.bool true])∧Below w.heap.size w w':=by
 have hu25:=Tryd.underlying25
 have HW:=zqm hW
 have HE:=zqm hE
 have HS:=zqm (split_calls s hs 1 (by rw [hp];rfl))
 rw [hp] at HS
 have HI:=zqm (index_calls z0)
 obtain⟨k,hk⟩: ∃k,k=Lib.idxOfS wordsZ z0:=⟨_,rfl⟩
 rw [← hk] at HI ⊢
 rw [← hk] at hd
 have HD:=zqm (fun w (h:WordsAt w ad c)=>deed_calls k 0 0 w ad c h)
 rw [hd] at HD
 clear hW hE hs hp hk
 have sl:s.toList=s.data.toList:=ba_toList s
 have x1:(s.toList= [])=False:=eq_false (by rw [sl];exact he)
 have x2:(s.toList== [])=false:=by cases h:s.toList <;> simp_all
 have x3:s.toList.isEmpty=false:=by cases h:s.toList <;> simp_all
 clear sl he hd
 go_enter Tryd.func19,Tryd.ntmps19
 go_wp2_with (first|((with_reducible refine gate_dst (N:=2) rfl ?_);refine box_event ?hg (N:=2) ?hd (cs:= #[.int .i64 0,.int .i64 0,.int .i64 0]) (t:=25) ?hr ?_;(case hd=>rfl);(case hg=>rfl);(case hr=> exact zq18);intro gr hg_ w1 hbox hb;have HB:=zqm hb;have HR:=zqm hbox;have HRW:=zqm (Nat.le_of_eq hg_.symm);clear hbox hb hg_)|(go_at_call 36;(with_reducible refine(HS.out _ (HE.out.below HB.out)).mono ?_);rintro e w2 ⟨N,rfl,hN,hz,hb⟩;have HNR:=zqm (show gr≠N from zq103);have HNW:=zqm (show w.heap.size≤N from zq121);have HZ:=zqm hz;clear hz;have n0_:=zqm (below_step HB.out hb);have n1_:=zqm (blk_below HR.out hb);clear HB HR;have HB:=n0_;have HR:=n1_;clear n0_ n1_;clear hb hN))
 have n0_:=zqm (below_drew1 HB.out);have n1_:=zqm (blk_drew HR.out);have n2_:=zqm (blk_drew HZ.out);clear HB HR HZ;have HB:=n0_;have HR:=n1_;have HZ:=n2_;clear n0_ n1_ n2_
 refine start_ (n:=8) (S:=fun w'=>w'.cell? ⟨0,0,none⟩=some (.slice (some ad) 5 c)∧w'.cell? ⟨N,0,none⟩=some (.string z0)) (ds:= []) (zqb 8 0) zqk rfl rfl ⟨(HW.out.below HB.out).v,(blk_cell HZ.out 0).trans rfl⟩ (fun hHeld=>?_)
 generalize w2.drew=w3 at HB HR HZ hHeld ⊢
 refine take_ (i:=0) (N:=some 8) (v:=?_) (a':=?_) (zqb 8 1) rfl rfl zqk (fun _ _ _ h=>h) (Or.inl ⟨by rfl,?_⟩) hHeld ?_ ?_
 rotate_left
 ·rintro w' ⟨hh0,hh1⟩
  go_simp
  with_reducible rfl
 rotate_left
 ·simp only [Act.put,List.setIfInBounds_toArray,List.set_cons_zero,List.set_cons_succ,i64_w,i32_w]
  rfl
 refine pure_ (i:=1) (N:=some 9) (v:=?_) (a':=?_) (zqb 8 3) rfl rfl zqk (fun _ _ _ h=>h) (Or.inl ⟨by rfl,?_⟩) ?_ ?_
 rotate_left
 ·intro w'
  go_simp
  with_reducible rfl
 rotate_left
 ·simp only [Act.put,List.setIfInBounds_toArray,List.set_cons_zero,List.set_cons_succ,i64_w,i32_w]
  rfl
 refine pure_ (i:=2) (N:=some 10) (v:=?_) (a':=?_) (zqb 8 7) rfl rfl zqk (fun _ _ _ h=>h) (Or.inl ⟨by rfl,?_⟩) ?_ ?_
 rotate_left
 ·intro w'
  go_simp
  with_reducible rfl
 rotate_left
 ·simp only [Act.put,List.setIfInBounds_toArray,List.set_cons_zero,List.set_cons_succ,i64_w,i32_w]
  rfl
 refine take_ (i:=3) (N:=some 11) (v:=?_) (a':=?_) (zqb 8 15) rfl rfl zqk (fun _ _ _ h=>h) (Or.inl ⟨by rfl,?_⟩) hHeld ?_ ?_
 rotate_left
 ·rintro w' ⟨hh0,hh1⟩
  go_simp
  with_reducible rfl
 rotate_left
 ·simp only [Act.put,List.setIfInBounds_toArray,List.set_cons_zero,List.set_cons_succ,i64_w,i32_w]
  rfl
 refine join_ (σ:=Nat) 1 (zqb 8 127) (fun s_=> [(12,.int .i64 k),(5,.pointer (some ⟨s_,0,none⟩)),(13,.agg #[.int .i64 k,.int .i64 0,.int .i64 0])]) (fun s_ w'=>(w'.heap[gr]? =some (.cells #[.int .i64 0,.int .i64 0,.int .i64 0] 25 (0,0)))∧(w'.heap[N]? =some (.cells (([z0]:List ByteArray).map Value.string).toArray 9 (0,0)))∧(w'.heap[s_]? =some (.cells #[.int .i64 0,.int .i64 0,.int .i64 0] 25 (0,0)))∧gr≠s_∧N≠s_∧w.heap.size≤s_∧Below w.heap.size w w') ?_ ?_
 rotate_left
 ·intro hJ
  refine two_ (i:=4) (j:=6) (Ni:=some 12) (Nj:=some 5) (zqb 8 31) (zqb 8 79) rfl rfl rfl rfl zqk (by decide) (by decide) (fun K hK=>?_) (fun K hK=>?_)
  ·refine goes_ Tryd.func37 zqk rfl #[.slice (some ad) 5 c,.string z0] (by rfl) rfl rfl zq38 ?_
   with_reducible refine(HI.out w3 ad c (HW.out.below HB.out)).mono ?_
   rintro e w' ⟨rfl,rfl⟩
   refine⟨_,rfl,?_⟩
   refine hK.out _ _ ⟨(HW.out.below HB.out).v,(blk_cell HZ.out 0).trans rfl⟩ (fun hHeld=>?_)
   clear hK K
   refine norm_ (a':=?_) ?_ ?_
   rotate_left
   ·show Act.put _ (some 12) _=_
    simp only [Act.put,List.setIfInBounds_toArray,List.set_cons_zero,List.set_cons_succ,i64_w,i32_w]
    rfl
   refine pure_ (i:=5) (N:=some 13) (v:=?_) (a':=?_) (zqb 8 63) rfl rfl zqk (fun _ _ _ h=>h) (Or.inl ⟨by rfl,?_⟩) ?_ ?_
   rotate_left
   ·intro w'
    go_simp
    with_reducible rfl
   rotate_left
   ·simp only [Act.put,List.setIfInBounds_toArray,List.set_cons_zero,List.set_cons_succ,i64_w,i32_w]
    rfl
   refine one_ (i:=6) (N:=some 5) (zqb 8 127) rfl rfl zqk (by decide) (fun K hK=>?_)
   refine box_step ?hg (N:=5) ?hd (cs:= #[.int .i64 0,.int .i64 0,.int .i64 0]) (t:=25) ?hr ?_;(case hd=>rfl);(case hg=>rfl);(case hr=> exact zq18)
   intro ga hg w4 hbox hb
   have HGR:=zqm (show gr≠ga from zq57)
   have HGN:=zqm (show N≠ga from zq58)
   have HGW:=zqm (show w.heap.size≤ga from zq91)
   have HA:=zqm hbox
   have n0_:=zqm (below_step HB.out hb);have n1_:=zqm (blk_below HR.out hb);have n2_:=zqm (blk_below HZ.out hb);clear HB HR HZ;have HB:=n0_;have HR:=n1_;have HZ:=n2_;clear n0_ n1_ n2_
   clear hbox hb hg
   refine hK.out _ _ ⟨(HW.out.below HB.out).v,(blk_cell HZ.out 0).trans rfl⟩ (fun hHeld=>?_)
   clear hK K
   refine norm_ (a':=?_) ?_ ?_
   rotate_left
   ·show Act.put _ (some 5) _=_
    simp only [Act.put,List.setIfInBounds_toArray,List.set_cons_zero,List.set_cons_succ,i64_w,i32_w]
    rfl
   exact norm_ zq10 (hJ ga _ ⟨HR.out,HZ.out,HA.out,HGR.out,HGN.out,HGW.out,HB.out⟩)
  ·refine box_step ?hg (N:=5) ?hd (cs:= #[.int .i64 0,.int .i64 0,.int .i64 0]) (t:=25) ?hr ?_;(case hd=>rfl);(case hg=>rfl);(case hr=> exact zq18)
   intro ga hg w4 hbox hb
   have HGR:=zqm (show gr≠ga from zq57)
   have HGN:=zqm (show N≠ga from zq58)
   have HGW:=zqm (show w.heap.size≤ga from zq91)
   have HA:=zqm hbox
   have n0_:=zqm (below_step HB.out hb);have n1_:=zqm (blk_below HR.out hb);have n2_:=zqm (blk_below HZ.out hb);clear HB HR HZ;have HB:=n0_;have HR:=n1_;have HZ:=n2_;clear n0_ n1_ n2_
   clear hbox hb hg
   refine hK.out _ _ ⟨(HW.out.below HB.out).v,(blk_cell HZ.out 0).trans rfl⟩ (fun hHeld=>?_)
   clear hK K
   refine norm_ (a':=?_) ?_ ?_
   rotate_left
   ·show Act.put _ (some 5) _=_
    simp only [Act.put,List.setIfInBounds_toArray,List.set_cons_zero,List.set_cons_succ,i64_w,i32_w]
    rfl
   refine one_ (i:=4) (N:=some 12) (zqb 8 95) rfl rfl zqk (by decide) (fun K hK=>?_)
   refine goes_ Tryd.func37 zqk rfl #[.slice (some ad) 5 c,.string z0] (by rfl) rfl rfl zq38 ?_
   with_reducible refine(HI.out w4 ad c (HW.out.below HB.out)).mono ?_
   rintro e w' ⟨rfl,rfl⟩
   refine⟨_,rfl,?_⟩
   refine hK.out _ _ ⟨(HW.out.below HB.out).v,(blk_cell HZ.out 0).trans rfl⟩ (fun hHeld=>?_)
   clear hK K
   refine norm_ (a':=?_) ?_ ?_
   rotate_left
   ·show Act.put _ (some 12) _=_
    simp only [Act.put,List.setIfInBounds_toArray,List.set_cons_zero,List.set_cons_succ,i64_w,i32_w]
    rfl
   refine pure_ (i:=5) (N:=some 13) (v:=?_) (a':=?_) (zqb 8 127) rfl rfl zqk (fun _ _ _ h=>h) (Or.inl ⟨by rfl,?_⟩) ?_ ?_
   rotate_left
   ·intro w'
    go_simp
    with_reducible rfl
   rotate_left
   ·simp only [Act.put,List.setIfInBounds_toArray,List.set_cons_zero,List.set_cons_succ,i64_w,i32_w]
    rfl
   exact norm_ zq10 (hJ ga _ ⟨HR.out,HZ.out,HA.out,HGR.out,HGN.out,HGW.out,HB.out⟩)
 rintro ga w5 ⟨h0_,h1_,h2_,h3_,h4_,h5_,h6_⟩
 clear HB HR HZ hHeld
 have HR:=zqm h0_
 have HZ:=zqm h1_
 have HA:=zqm h2_
 have HGR:=zqm h3_
 have HGN:=zqm h4_
 have HGW:=zqm h5_
 have HB:=zqm h6_
 clear h0_ h1_ h2_ h3_ h4_ h5_ h6_
 refine norm_ (a':=?_) ?_ ?_
 rotate_left
 ·simp only [putAll,Act.put,List.setIfInBounds_toArray,List.set_cons_zero,List.set_cons_succ]
  rfl
 refine one_ (i:=7) (N:=none) (zqb 8 255) rfl rfl zqk (by decide) (fun K hK=>?_)
 have hs0:w5.cell? ⟨ga,0,none⟩=some (.int .i64 0):=(blk_cell HA.out 0).trans rfl
 have hf0:=blk_frozen HA.out 0
 have hs1:w5.cell? ⟨ga,1,none⟩=some (.int .i64 0):=(blk_cell HA.out 1).trans rfl
 have hf1:=blk_frozen HA.out 1
 have hs2:w5.cell? ⟨ga,2,none⟩=some (.int .i64 0):=(blk_cell HA.out 2).trans rfl
 have hf2:=blk_frozen HA.out 2
 refine skip_ (w1:=?_) (by rfl) rfl ?_ ?_
 rotate_left
 ·go_simp
  rfl
 clear hs0 hs1 hs2 hf0 hf1 hf2
 have n0_:=zqm ((below_set (below_set (below_set HB.out HGW.out) HGW.out) HGW.out:Below w.heap.size w (((w5.setCell ⟨ga,0,none⟩ (.int .i64 k)).setCell ⟨ga,1,none⟩ (.int .i64 0)).setCell ⟨ga,2,none⟩ (.int .i64 0))));have n1_:=zqm ((blk_far (blk_far (blk_far HR.out HGR.out _) HGR.out _) HGR.out _:(((w5.setCell ⟨ga,0,none⟩ (.int .i64 k)).setCell ⟨ga,1,none⟩ (.int .i64 0)).setCell ⟨ga,2,none⟩ (.int .i64 0)).heap[gr]? =_));have n2_:=zqm ((blk_far (blk_far (blk_far HZ.out HGN.out _) HGN.out _) HGN.out _:(((w5.setCell ⟨ga,0,none⟩ (.int .i64 k)).setCell ⟨ga,1,none⟩ (.int .i64 0)).setCell ⟨ga,2,none⟩ (.int .i64 0)).heap[N]? =_));have n3_:=zqm ((blk_put (blk_put (blk_put HA.out 0 _ rfl) 1 _ rfl) 2 _ rfl:(((w5.setCell ⟨ga,0,none⟩ (.int .i64 k)).setCell ⟨ga,1,none⟩ (.int .i64 0)).setCell ⟨ga,2,none⟩ (.int .i64 0)).heap[ga]? =some (.cells #[.int .i64 k,.int .i64 0,.int .i64 0] 25 (0,0))));clear HB HR HZ HA;have HB:=n0_;have HR:=n1_;have HZ:=n2_;have HA:=n3_;clear n0_ n1_ n2_ n3_
 generalize hw6:((w5.setCell ⟨ga,0,none⟩ (.int .i64 k)).setCell ⟨ga,1,none⟩ (.int .i64 0)).setCell ⟨ga,2,none⟩ (.int .i64 0)=w6 at HB HR HZ HA ⊢
 clear hw6
 refine hK.out _ _ ⟨(HW.out.below HB.out).v,(blk_cell HZ.out 0).trans rfl⟩ (fun hHeld=>?_)
 clear hK K hHeld
 refine done_ zqk ?_
 have tok0:True:=trivial
 have ha0:w6.cell? ⟨ga,0,none⟩=some (.int .i64 k):=(blk_cell HA.out 0).trans rfl
 have ha1:w6.cell? ⟨ga,1,none⟩=some (.int .i64 0):=(blk_cell HA.out 1).trans rfl
 have ha2:w6.cell? ⟨ga,2,none⟩=some (.int .i64 0):=(blk_cell HA.out 2).trans rfl
 have hgr:=HGR.out
 have hgr':=Ne.symm HGR.out
 go_wp2_with (first|(have _t:=tok0;go_at_call 12;(with_reducible refine(HD.out _ (HW.out.below HB.out)).mono ?_);rintro e w9 ⟨rfl,hb⟩;clear ha0 ha1 ha2;have n0_:=zqm (below_step HB.out hb);have n1_:=zqm (blk_below HR.out hb);have n2_:=zqm (blk_below HA.out hb);clear HB HR HA;have HB:=n0_;have HR:=n1_;have HA:=n2_;clear n0_ n1_ n2_;clear hb;have ha0:w9.cell? ⟨ga,0,none⟩=some (.int .i64 k):=(blk_cell HA.out 0).trans rfl;have ha1:w9.cell? ⟨ga,1,none⟩=some (.int .i64 0):=(blk_cell HA.out 1).trans rfl;have ha2:w9.cell? ⟨ga,2,none⟩=some (.int .i64 0):=(blk_cell HA.out 2).trans rfl;have hr0:w9.cell? ⟨gr,0,none⟩=some (.int .i64 0):=(blk_cell HR.out 0).trans rfl;have hrf0:=blk_frozen HR.out 0;have hr1:w9.cell? ⟨gr,1,none⟩=some (.int .i64 0):=(blk_cell HR.out 1).trans rfl;have hrf1:=blk_frozen HR.out 1;have hr2:w9.cell? ⟨gr,2,none⟩=some (.int .i64 0):=(blk_cell HR.out 2).trans rfl;have hrf2:=blk_frozen HR.out 2;clear tok0 _t))
 refine bodyPost_ret (results_ct rfl _ _ gr 25 #[.int .i64 k,.int .i64 0,.int .i64 0] (0,0) _ rfl (by refine zqe ?_;refine blk_put (cs:= #[.int .i64 k,.int .i64 0,.int .i64 0]) ?_ 2 _ rfl;refine blk_put (cs:= #[.int .i64 k,.int .i64 0,.int .i64 0]) ?_ 1 _ rfl;refine blk_put (cs:= #[.int .i64 0,.int .i64 0,.int .i64 0]) ?_ 0 _ rfl;refine zqe ?_;exact HR.out) Tryd.underlying25 rfl zqk) rfl ?_
 exact⟨rfl,zq48⟩
set_option maxHeartbeats 4000000 in
set_option maxRecDepth 100000 in
theorem read2n (s z0 z1 : ByteArray) (hp : pcs s = [z0, z1]) (w : World) (ad : Addr) (c : Nat) (hW : WordsAt w ad c) (hE : ErrsAt w) (hs : s.size < 4294967281) (hz1 : z1.size ≤ 281474976710656) (he : ¬ s.data.toList = []) (hd : ¬ (deedT (Lib.idxOfS wordsZ z0) (atoV z1) 0).data.toList = s.data.toList) :
 Calls Tryd.prog 19 #[.string s] w fun e w'=>e= .returned (.tuple #[.agg #[.int .i64 0,.int .i64 0,.int .i64 0],.bool false])∧Below w.heap.size w w':=by
 have hu25:=Tryd.underlying25
 have HW:=zqm hW
 have HE:=zqm hE
 have HS:=zqm (split_calls s hs 2 (by rw [hp];rfl))
 rw [hp] at HS
 have HI:=zqm (index_calls z0)
 obtain⟨k,hk⟩: ∃k,k=Lib.idxOfS wordsZ z0:=⟨_,rfl⟩
 rw [← hk] at HI
 rw [← hk] at hd
 have HA1:=zqm (atoi_calls z1 hz1)
 obtain⟨v1,hv1⟩: ∃v,v=atoV z1:=⟨_,rfl⟩
 rw [← hv1] at HA1
 rw [← hv1] at hd
 have HD:=zqm (fun w (h:WordsAt w ad c)=>deed_calls k v1 0 w ad c h)
 obtain⟨t,ht⟩: ∃t,t=deedT k v1 0:=⟨_,rfl⟩
 rw [← ht] at HD hd
 clear hW hE hs hp hk hz1 hv1 ht
 have sl:s.toList=s.data.toList:=ba_toList s
 have x1:(s.toList= [])=False:=eq_false (by rw [sl];exact he)
 have x2:(s.toList== [])=false:=by cases h:s.toList <;> simp_all
 have x3:s.toList.isEmpty=false:=by cases h:s.toList <;> simp_all
 have tl:t.toList=t.data.toList:=ba_toList t
 have y1:(t.toList=s.toList)=False:=eq_false (by rw [sl,tl];exact hd)
 have y2:(t.toList==s.toList)=false:=by rw [beq_eq_false_iff_ne,sl,tl];exact hd
 have y3:(t.toList !=s.toList)=true:=by rw [bne_iff_ne,sl,tl];exact hd
 clear sl he hd tl
 go_enter Tryd.func19,Tryd.ntmps19
 go_wp2_with (first|((with_reducible refine gate_dst (N:=2) rfl ?_);refine box_event ?hg (N:=2) ?hd (cs:= #[.int .i64 0,.int .i64 0,.int .i64 0]) (t:=25) ?hr ?_;(case hd=>rfl);(case hg=>rfl);(case hr=> exact zq18);intro gr hg_ w1 hbox hb;have HB:=zqm hb;have HR:=zqm hbox;have HRW:=zqm (Nat.le_of_eq hg_.symm);clear hbox hb hg_)|(go_at_call 36;(with_reducible refine(HS.out _ (HE.out.below HB.out)).mono ?_);rintro e w2 ⟨N,rfl,hN,hz,hb⟩;have HNR:=zqm (show gr≠N from zq103);have HNW:=zqm (show w.heap.size≤N from zq121);have HZ:=zqm hz;clear hz;have n0_:=zqm (below_step HB.out hb);have n1_:=zqm (blk_below HR.out hb);clear HB HR;have HB:=n0_;have HR:=n1_;clear n0_ n1_;clear hb hN))
 have n0_:=zqm (below_drew1 HB.out);have n1_:=zqm (blk_drew HR.out);have n2_:=zqm (blk_drew HZ.out);clear HB HR HZ;have HB:=n0_;have HR:=n1_;have HZ:=n2_;clear n0_ n1_ n2_
 refine start_ (n:=8) (S:=fun w'=>w'.cell? ⟨0,0,none⟩=some (.slice (some ad) 5 c)∧w'.cell? ⟨N,0,none⟩=some (.string z0)) (ds:= []) (zqb 8 0) zqk rfl rfl ⟨(HW.out.below HB.out).v,(blk_cell HZ.out 0).trans rfl⟩ (fun hHeld=>?_)
 generalize w2.drew=w3 at HB HR HZ hHeld ⊢
 refine take_ (i:=0) (N:=some 8) (v:=?_) (a':=?_) (zqb 8 1) rfl rfl zqk (fun _ _ _ h=>h) (Or.inl ⟨by rfl,?_⟩) hHeld ?_ ?_
 rotate_left
 ·rintro w' ⟨hh0,hh1⟩
  go_simp
  with_reducible rfl
 rotate_left
 ·simp only [Act.put,List.setIfInBounds_toArray,List.set_cons_zero,List.set_cons_succ,i64_w,i32_w]
  rfl
 refine pure_ (i:=1) (N:=some 9) (v:=?_) (a':=?_) (zqb 8 3) rfl rfl zqk (fun _ _ _ h=>h) (Or.inl ⟨by rfl,?_⟩) ?_ ?_
 rotate_left
 ·intro w'
  go_simp
  with_reducible rfl
 rotate_left
 ·simp only [Act.put,List.setIfInBounds_toArray,List.set_cons_zero,List.set_cons_succ,i64_w,i32_w]
  rfl
 refine pure_ (i:=2) (N:=some 10) (v:=?_) (a':=?_) (zqb 8 7) rfl rfl zqk (fun _ _ _ h=>h) (Or.inl ⟨by rfl,?_⟩) ?_ ?_
 rotate_left
 ·intro w'
  go_simp
  with_reducible rfl
 rotate_left
 ·simp only [Act.put,List.setIfInBounds_toArray,List.set_cons_zero,List.set_cons_succ,i64_w,i32_w]
  rfl
 refine take_ (i:=3) (N:=some 11) (v:=?_) (a':=?_) (zqb 8 15) rfl rfl zqk (fun _ _ _ h=>h) (Or.inl ⟨by rfl,?_⟩) hHeld ?_ ?_
 rotate_left
 ·rintro w' ⟨hh0,hh1⟩
  go_simp
  with_reducible rfl
 rotate_left
 ·simp only [Act.put,List.setIfInBounds_toArray,List.set_cons_zero,List.set_cons_succ,i64_w,i32_w]
  rfl
 refine join_ (σ:=Nat) 1 (zqb 8 127) (fun s_=> [(12,.int .i64 k),(5,.pointer (some ⟨s_,0,none⟩)),(13,.agg #[.int .i64 k,.int .i64 0,.int .i64 0])]) (fun s_ w'=>(w'.heap[gr]? =some (.cells #[.int .i64 0,.int .i64 0,.int .i64 0] 25 (0,0)))∧(w'.heap[N]? =some (.cells (([z0,z1]:List ByteArray).map Value.string).toArray 9 (0,0)))∧(w'.heap[s_]? =some (.cells #[.int .i64 0,.int .i64 0,.int .i64 0] 25 (0,0)))∧gr≠s_∧N≠s_∧w.heap.size≤s_∧Below w.heap.size w w') ?_ ?_
 rotate_left
 ·intro hJ
  refine two_ (i:=4) (j:=6) (Ni:=some 12) (Nj:=some 5) (zqb 8 31) (zqb 8 79) rfl rfl rfl rfl zqk (by decide) (by decide) (fun K hK=>?_) (fun K hK=>?_)
  ·refine goes_ Tryd.func37 zqk rfl #[.slice (some ad) 5 c,.string z0] (by rfl) rfl rfl zq38 ?_
   with_reducible refine(HI.out w3 ad c (HW.out.below HB.out)).mono ?_
   rintro e w' ⟨rfl,rfl⟩
   refine⟨_,rfl,?_⟩
   refine hK.out _ _ ⟨(HW.out.below HB.out).v,(blk_cell HZ.out 0).trans rfl⟩ (fun hHeld=>?_)
   clear hK K
   refine norm_ (a':=?_) ?_ ?_
   rotate_left
   ·show Act.put _ (some 12) _=_
    simp only [Act.put,List.setIfInBounds_toArray,List.set_cons_zero,List.set_cons_succ,i64_w,i32_w]
    rfl
   refine pure_ (i:=5) (N:=some 13) (v:=?_) (a':=?_) (zqb 8 63) rfl rfl zqk (fun _ _ _ h=>h) (Or.inl ⟨by rfl,?_⟩) ?_ ?_
   rotate_left
   ·intro w'
    go_simp
    with_reducible rfl
   rotate_left
   ·simp only [Act.put,List.setIfInBounds_toArray,List.set_cons_zero,List.set_cons_succ,i64_w,i32_w]
    rfl
   refine one_ (i:=6) (N:=some 5) (zqb 8 127) rfl rfl zqk (by decide) (fun K hK=>?_)
   refine box_step ?hg (N:=5) ?hd (cs:= #[.int .i64 0,.int .i64 0,.int .i64 0]) (t:=25) ?hr ?_;(case hd=>rfl);(case hg=>rfl);(case hr=> exact zq18)
   intro ga hg w4 hbox hb
   have HGR:=zqm (show gr≠ga from zq57)
   have HGN:=zqm (show N≠ga from zq58)
   have HGW:=zqm (show w.heap.size≤ga from zq91)
   have HA:=zqm hbox
   have n0_:=zqm (below_step HB.out hb);have n1_:=zqm (blk_below HR.out hb);have n2_:=zqm (blk_below HZ.out hb);clear HB HR HZ;have HB:=n0_;have HR:=n1_;have HZ:=n2_;clear n0_ n1_ n2_
   clear hbox hb hg
   refine hK.out _ _ ⟨(HW.out.below HB.out).v,(blk_cell HZ.out 0).trans rfl⟩ (fun hHeld=>?_)
   clear hK K
   refine norm_ (a':=?_) ?_ ?_
   rotate_left
   ·show Act.put _ (some 5) _=_
    simp only [Act.put,List.setIfInBounds_toArray,List.set_cons_zero,List.set_cons_succ,i64_w,i32_w]
    rfl
   exact norm_ zq10 (hJ ga _ ⟨HR.out,HZ.out,HA.out,HGR.out,HGN.out,HGW.out,HB.out⟩)
  ·refine box_step ?hg (N:=5) ?hd (cs:= #[.int .i64 0,.int .i64 0,.int .i64 0]) (t:=25) ?hr ?_;(case hd=>rfl);(case hg=>rfl);(case hr=> exact zq18)
   intro ga hg w4 hbox hb
   have HGR:=zqm (show gr≠ga from zq57)
   have HGN:=zqm (show N≠ga from zq58)
   have HGW:=zqm (show w.heap.size≤ga from zq91)
   have HA:=zqm hbox
   have n0_:=zqm (below_step HB.out hb);have n1_:=zqm (blk_below HR.out hb);have n2_:=zqm (blk_below HZ.out hb);clear HB HR HZ;have HB:=n0_;have HR:=n1_;have HZ:=n2_;clear n0_ n1_ n2_
   clear hbox hb hg
   refine hK.out _ _ ⟨(HW.out.below HB.out).v,(blk_cell HZ.out 0).trans rfl⟩ (fun hHeld=>?_)
   clear hK K
   refine norm_ (a':=?_) ?_ ?_
   rotate_left
   ·show Act.put _ (some 5) _=_
    simp only [Act.put,List.setIfInBounds_toArray,List.set_cons_zero,List.set_cons_succ,i64_w,i32_w]
    rfl
   refine one_ (i:=4) (N:=some 12) (zqb 8 95) rfl rfl zqk (by decide) (fun K hK=>?_)
   refine goes_ Tryd.func37 zqk rfl #[.slice (some ad) 5 c,.string z0] (by rfl) rfl rfl zq38 ?_
   with_reducible refine(HI.out w4 ad c (HW.out.below HB.out)).mono ?_
   rintro e w' ⟨rfl,rfl⟩
   refine⟨_,rfl,?_⟩
   refine hK.out _ _ ⟨(HW.out.below HB.out).v,(blk_cell HZ.out 0).trans rfl⟩ (fun hHeld=>?_)
   clear hK K
   refine norm_ (a':=?_) ?_ ?_
   rotate_left
   ·show Act.put _ (some 12) _=_
    simp only [Act.put,List.setIfInBounds_toArray,List.set_cons_zero,List.set_cons_succ,i64_w,i32_w]
    rfl
   refine pure_ (i:=5) (N:=some 13) (v:=?_) (a':=?_) (zqb 8 127) rfl rfl zqk (fun _ _ _ h=>h) (Or.inl ⟨by rfl,?_⟩) ?_ ?_
   rotate_left
   ·intro w'
    go_simp
    with_reducible rfl
   rotate_left
   ·simp only [Act.put,List.setIfInBounds_toArray,List.set_cons_zero,List.set_cons_succ,i64_w,i32_w]
    rfl
   exact norm_ zq10 (hJ ga _ ⟨HR.out,HZ.out,HA.out,HGR.out,HGN.out,HGW.out,HB.out⟩)
 rintro ga w5 ⟨h0_,h1_,h2_,h3_,h4_,h5_,h6_⟩
 clear HB HR HZ hHeld
 have HR:=zqm h0_
 have HZ:=zqm h1_
 have HA:=zqm h2_
 have HGR:=zqm h3_
 have HGN:=zqm h4_
 have HGW:=zqm h5_
 have HB:=zqm h6_
 clear h0_ h1_ h2_ h3_ h4_ h5_ h6_
 refine norm_ (a':=?_) ?_ ?_
 rotate_left
 ·simp only [putAll,Act.put,List.setIfInBounds_toArray,List.set_cons_zero,List.set_cons_succ]
  rfl
 refine one_ (i:=7) (N:=none) (zqb 8 255) rfl rfl zqk (by decide) (fun K hK=>?_)
 have hs0:w5.cell? ⟨ga,0,none⟩=some (.int .i64 0):=(blk_cell HA.out 0).trans rfl
 have hf0:=blk_frozen HA.out 0
 have hs1:w5.cell? ⟨ga,1,none⟩=some (.int .i64 0):=(blk_cell HA.out 1).trans rfl
 have hf1:=blk_frozen HA.out 1
 have hs2:w5.cell? ⟨ga,2,none⟩=some (.int .i64 0):=(blk_cell HA.out 2).trans rfl
 have hf2:=blk_frozen HA.out 2
 refine skip_ (w1:=?_) (by rfl) rfl ?_ ?_
 rotate_left
 ·go_simp
  rfl
 clear hs0 hs1 hs2 hf0 hf1 hf2
 have n0_:=zqm ((below_set (below_set (below_set HB.out HGW.out) HGW.out) HGW.out:Below w.heap.size w (((w5.setCell ⟨ga,0,none⟩ (.int .i64 k)).setCell ⟨ga,1,none⟩ (.int .i64 0)).setCell ⟨ga,2,none⟩ (.int .i64 0))));have n1_:=zqm ((blk_far (blk_far (blk_far HR.out HGR.out _) HGR.out _) HGR.out _:(((w5.setCell ⟨ga,0,none⟩ (.int .i64 k)).setCell ⟨ga,1,none⟩ (.int .i64 0)).setCell ⟨ga,2,none⟩ (.int .i64 0)).heap[gr]? =_));have n2_:=zqm ((blk_far (blk_far (blk_far HZ.out HGN.out _) HGN.out _) HGN.out _:(((w5.setCell ⟨ga,0,none⟩ (.int .i64 k)).setCell ⟨ga,1,none⟩ (.int .i64 0)).setCell ⟨ga,2,none⟩ (.int .i64 0)).heap[N]? =_));have n3_:=zqm ((blk_put (blk_put (blk_put HA.out 0 _ rfl) 1 _ rfl) 2 _ rfl:(((w5.setCell ⟨ga,0,none⟩ (.int .i64 k)).setCell ⟨ga,1,none⟩ (.int .i64 0)).setCell ⟨ga,2,none⟩ (.int .i64 0)).heap[ga]? =some (.cells #[.int .i64 k,.int .i64 0,.int .i64 0] 25 (0,0))));clear HB HR HZ HA;have HB:=n0_;have HR:=n1_;have HZ:=n2_;have HA:=n3_;clear n0_ n1_ n2_ n3_
 generalize hw6:((w5.setCell ⟨ga,0,none⟩ (.int .i64 k)).setCell ⟨ga,1,none⟩ (.int .i64 0)).setCell ⟨ga,2,none⟩ (.int .i64 0)=w6 at HB HR HZ HA ⊢
 clear hw6
 refine hK.out _ _ ⟨(HW.out.below HB.out).v,(blk_cell HZ.out 0).trans rfl⟩ (fun hHeld=>?_)
 clear hK K hHeld
 refine done_ zqk ?_
 have tok0:True:=trivial
 have hz1:w6.cell? ⟨N,1,none⟩=some (.string z1):=(blk_cell HZ.out 1).trans rfl
 have hgr:=HGR.out
 have hgr':=Ne.symm HGR.out
 go_wp2_with (first|(have _t:=tok0;go_at_call 38;(with_reducible refine(HA1.out _ (HE.out.below HB.out)).mono ?_);rintro e w71 ⟨er,rfl,hb⟩;clear hz1;have n0_:=zqm (below_step HB.out hb);have n1_:=zqm (blk_below HR.out hb);have n2_:=zqm (blk_below HZ.out hb);have n3_:=zqm (blk_below HA.out hb);clear HB HR HZ HA;have HB:=n0_;have HR:=n1_;have HZ:=n2_;have HA:=n3_;clear n0_ n1_ n2_ n3_;have hfa:=blk_frozen HA.out 1;have ha:w71.cell? ⟨ga,1,none⟩=some (.int .i64 0):=(blk_cell HA.out 1).trans rfl;clear hb tok0 _t;have tok1:True:=trivial)|(have _t:=tok1;(with_reducible refine gate_store (t:=3) (p:=24) rfl ?_);refine store_event (t:=3) (p:=24) (v:=?vo_w81) (w1:=(w71.setCell ⟨ga,1,none⟩ (.int .i64 v1))) ?hg ?ho ?hn ?hr ?_;(case ho=>rfl);(case hg=>rfl);(case hn=>rfl);(case hr=> exact zq18);intro w81 hw;clear hfa ha;have n0_:=zqm ((by rw [hw];exact below_set HB.out HGW.out:Below w.heap.size w w81));have n1_:=zqm ((by rw [hw];exact blk_far HR.out HGR.out _:w81.heap[gr]? =some (.cells #[.int .i64 0,.int .i64 0,.int .i64 0] 25 (0,0))));have n2_:=zqm ((by rw [hw];exact blk_far HZ.out HGN.out _:w81.heap[N]? =some (.cells (([z0,z1]:List ByteArray).map Value.string).toArray 9 (0,0))));have n3_:=zqm ((by rw [hw];exact blk_put HA.out 1 _ rfl:w81.heap[ga]? =some (.cells #[.int .i64 k,.int .i64 v1,.int .i64 0] 25 (0,0))));clear HB HR HZ HA;have HB:=n0_;have HR:=n1_;have HZ:=n2_;have HA:=n3_;clear n0_ n1_ n2_ n3_;clear hw;have ha0:w81.cell? ⟨ga,0,none⟩=some (.int .i64 k):=(blk_cell HA.out 0).trans rfl;have ha1:w81.cell? ⟨ga,1,none⟩=some (.int .i64 v1):=(blk_cell HA.out 1).trans rfl;have ha2:w81.cell? ⟨ga,2,none⟩=some (.int .i64 0):=(blk_cell HA.out 2).trans rfl;clear tok1 _t;have tok2:True:=trivial)|(have _t:=tok2;go_at_call 12;(with_reducible refine(HD.out _ (HW.out.below HB.out)).mono ?_);rintro e w9 ⟨rfl,hb⟩;clear ha0 ha1 ha2;have n0_:=zqm (below_step HB.out hb);have n1_:=zqm (blk_below HR.out hb);have n2_:=zqm (blk_below HA.out hb);clear HB HR HA;have HB:=n0_;have HR:=n1_;have HA:=n2_;clear n0_ n1_ n2_;clear hb;have ha0:w9.cell? ⟨ga,0,none⟩=some (.int .i64 k):=(blk_cell HA.out 0).trans rfl;have ha1:w9.cell? ⟨ga,1,none⟩=some (.int .i64 v1):=(blk_cell HA.out 1).trans rfl;have ha2:w9.cell? ⟨ga,2,none⟩=some (.int .i64 0):=(blk_cell HA.out 2).trans rfl;have hr0:w9.cell? ⟨gr,0,none⟩=some (.int .i64 0):=(blk_cell HR.out 0).trans rfl;have hrf0:=blk_frozen HR.out 0;have hr1:w9.cell? ⟨gr,1,none⟩=some (.int .i64 0):=(blk_cell HR.out 1).trans rfl;have hrf1:=blk_frozen HR.out 1;have hr2:w9.cell? ⟨gr,2,none⟩=some (.int .i64 0):=(blk_cell HR.out 2).trans rfl;have hrf2:=blk_frozen HR.out 2;clear tok2 _t))
 refine bodyPost_ret (results_ct rfl _ _ gr 25 #[.int .i64 0,.int .i64 0,.int .i64 0] (0,0) _ rfl zq39 Tryd.underlying25 rfl zqk) rfl ?_
 exact⟨rfl,zq48⟩
set_option maxHeartbeats 4000000 in
set_option maxRecDepth 100000 in
theorem read2y (s z0 z1 : ByteArray) (hp : pcs s = [z0, z1]) (w : World) (ad : Addr) (c : Nat) (hW : WordsAt w ad c) (hE : ErrsAt w) (hs : s.size < 4294967281) (hz1 : z1.size ≤ 281474976710656) (he : ¬ s.data.toList = []) (hd : deedT (Lib.idxOfS wordsZ z0) (atoV z1) 0 = s) :
 Calls Tryd.prog 19 #[.string s] w fun e w'=>e= .returned (.tuple #[.agg #[.int .i64 (Lib.idxOfS wordsZ z0),.int .i64 (atoV z1),.int .i64 0],.bool true])∧Below w.heap.size w w':=by
 have hu25:=Tryd.underlying25
 have HW:=zqm hW
 have HE:=zqm hE
 have HS:=zqm (split_calls s hs 2 (by rw [hp];rfl))
 rw [hp] at HS
 have HI:=zqm (index_calls z0)
 obtain⟨k,hk⟩: ∃k,k=Lib.idxOfS wordsZ z0:=⟨_,rfl⟩
 rw [← hk] at HI ⊢
 rw [← hk] at hd
 have HA1:=zqm (atoi_calls z1 hz1)
 obtain⟨v1,hv1⟩: ∃v,v=atoV z1:=⟨_,rfl⟩
 rw [← hv1] at HA1 ⊢
 rw [← hv1] at hd
 have HD:=zqm (fun w (h:WordsAt w ad c)=>deed_calls k v1 0 w ad c h)
 rw [hd] at HD
 clear hW hE hs hp hk hz1 hv1
 have sl:s.toList=s.data.toList:=ba_toList s
 have x1:(s.toList= [])=False:=eq_false (by rw [sl];exact he)
 have x2:(s.toList== [])=false:=by cases h:s.toList <;> simp_all
 have x3:s.toList.isEmpty=false:=by cases h:s.toList <;> simp_all
 clear sl he hd
 go_enter Tryd.func19,Tryd.ntmps19
 go_wp2_with (first|((with_reducible refine gate_dst (N:=2) rfl ?_);refine box_event ?hg (N:=2) ?hd (cs:= #[.int .i64 0,.int .i64 0,.int .i64 0]) (t:=25) ?hr ?_;(case hd=>rfl);(case hg=>rfl);(case hr=> exact zq18);intro gr hg_ w1 hbox hb;have HB:=zqm hb;have HR:=zqm hbox;have HRW:=zqm (Nat.le_of_eq hg_.symm);clear hbox hb hg_)|(go_at_call 36;(with_reducible refine(HS.out _ (HE.out.below HB.out)).mono ?_);rintro e w2 ⟨N,rfl,hN,hz,hb⟩;have HNR:=zqm (show gr≠N from zq103);have HNW:=zqm (show w.heap.size≤N from zq121);have HZ:=zqm hz;clear hz;have n0_:=zqm (below_step HB.out hb);have n1_:=zqm (blk_below HR.out hb);clear HB HR;have HB:=n0_;have HR:=n1_;clear n0_ n1_;clear hb hN))
 have n0_:=zqm (below_drew1 HB.out);have n1_:=zqm (blk_drew HR.out);have n2_:=zqm (blk_drew HZ.out);clear HB HR HZ;have HB:=n0_;have HR:=n1_;have HZ:=n2_;clear n0_ n1_ n2_
 refine start_ (n:=8) (S:=fun w'=>w'.cell? ⟨0,0,none⟩=some (.slice (some ad) 5 c)∧w'.cell? ⟨N,0,none⟩=some (.string z0)) (ds:= []) (zqb 8 0) zqk rfl rfl ⟨(HW.out.below HB.out).v,(blk_cell HZ.out 0).trans rfl⟩ (fun hHeld=>?_)
 generalize w2.drew=w3 at HB HR HZ hHeld ⊢
 refine take_ (i:=0) (N:=some 8) (v:=?_) (a':=?_) (zqb 8 1) rfl rfl zqk (fun _ _ _ h=>h) (Or.inl ⟨by rfl,?_⟩) hHeld ?_ ?_
 rotate_left
 ·rintro w' ⟨hh0,hh1⟩
  go_simp
  with_reducible rfl
 rotate_left
 ·simp only [Act.put,List.setIfInBounds_toArray,List.set_cons_zero,List.set_cons_succ,i64_w,i32_w]
  rfl
 refine pure_ (i:=1) (N:=some 9) (v:=?_) (a':=?_) (zqb 8 3) rfl rfl zqk (fun _ _ _ h=>h) (Or.inl ⟨by rfl,?_⟩) ?_ ?_
 rotate_left
 ·intro w'
  go_simp
  with_reducible rfl
 rotate_left
 ·simp only [Act.put,List.setIfInBounds_toArray,List.set_cons_zero,List.set_cons_succ,i64_w,i32_w]
  rfl
 refine pure_ (i:=2) (N:=some 10) (v:=?_) (a':=?_) (zqb 8 7) rfl rfl zqk (fun _ _ _ h=>h) (Or.inl ⟨by rfl,?_⟩) ?_ ?_
 rotate_left
 ·intro w'
  go_simp
  with_reducible rfl
 rotate_left
 ·simp only [Act.put,List.setIfInBounds_toArray,List.set_cons_zero,List.set_cons_succ,i64_w,i32_w]
  rfl
 refine take_ (i:=3) (N:=some 11) (v:=?_) (a':=?_) (zqb 8 15) rfl rfl zqk (fun _ _ _ h=>h) (Or.inl ⟨by rfl,?_⟩) hHeld ?_ ?_
 rotate_left
 ·rintro w' ⟨hh0,hh1⟩
  go_simp
  with_reducible rfl
 rotate_left
 ·simp only [Act.put,List.setIfInBounds_toArray,List.set_cons_zero,List.set_cons_succ,i64_w,i32_w]
  rfl
 refine join_ (σ:=Nat) 1 (zqb 8 127) (fun s_=> [(12,.int .i64 k),(5,.pointer (some ⟨s_,0,none⟩)),(13,.agg #[.int .i64 k,.int .i64 0,.int .i64 0])]) (fun s_ w'=>(w'.heap[gr]? =some (.cells #[.int .i64 0,.int .i64 0,.int .i64 0] 25 (0,0)))∧(w'.heap[N]? =some (.cells (([z0,z1]:List ByteArray).map Value.string).toArray 9 (0,0)))∧(w'.heap[s_]? =some (.cells #[.int .i64 0,.int .i64 0,.int .i64 0] 25 (0,0)))∧gr≠s_∧N≠s_∧w.heap.size≤s_∧Below w.heap.size w w') ?_ ?_
 rotate_left
 ·intro hJ
  refine two_ (i:=4) (j:=6) (Ni:=some 12) (Nj:=some 5) (zqb 8 31) (zqb 8 79) rfl rfl rfl rfl zqk (by decide) (by decide) (fun K hK=>?_) (fun K hK=>?_)
  ·refine goes_ Tryd.func37 zqk rfl #[.slice (some ad) 5 c,.string z0] (by rfl) rfl rfl zq38 ?_
   with_reducible refine(HI.out w3 ad c (HW.out.below HB.out)).mono ?_
   rintro e w' ⟨rfl,rfl⟩
   refine⟨_,rfl,?_⟩
   refine hK.out _ _ ⟨(HW.out.below HB.out).v,(blk_cell HZ.out 0).trans rfl⟩ (fun hHeld=>?_)
   clear hK K
   refine norm_ (a':=?_) ?_ ?_
   rotate_left
   ·show Act.put _ (some 12) _=_
    simp only [Act.put,List.setIfInBounds_toArray,List.set_cons_zero,List.set_cons_succ,i64_w,i32_w]
    rfl
   refine pure_ (i:=5) (N:=some 13) (v:=?_) (a':=?_) (zqb 8 63) rfl rfl zqk (fun _ _ _ h=>h) (Or.inl ⟨by rfl,?_⟩) ?_ ?_
   rotate_left
   ·intro w'
    go_simp
    with_reducible rfl
   rotate_left
   ·simp only [Act.put,List.setIfInBounds_toArray,List.set_cons_zero,List.set_cons_succ,i64_w,i32_w]
    rfl
   refine one_ (i:=6) (N:=some 5) (zqb 8 127) rfl rfl zqk (by decide) (fun K hK=>?_)
   refine box_step ?hg (N:=5) ?hd (cs:= #[.int .i64 0,.int .i64 0,.int .i64 0]) (t:=25) ?hr ?_;(case hd=>rfl);(case hg=>rfl);(case hr=> exact zq18)
   intro ga hg w4 hbox hb
   have HGR:=zqm (show gr≠ga from zq57)
   have HGN:=zqm (show N≠ga from zq58)
   have HGW:=zqm (show w.heap.size≤ga from zq91)
   have HA:=zqm hbox
   have n0_:=zqm (below_step HB.out hb);have n1_:=zqm (blk_below HR.out hb);have n2_:=zqm (blk_below HZ.out hb);clear HB HR HZ;have HB:=n0_;have HR:=n1_;have HZ:=n2_;clear n0_ n1_ n2_
   clear hbox hb hg
   refine hK.out _ _ ⟨(HW.out.below HB.out).v,(blk_cell HZ.out 0).trans rfl⟩ (fun hHeld=>?_)
   clear hK K
   refine norm_ (a':=?_) ?_ ?_
   rotate_left
   ·show Act.put _ (some 5) _=_
    simp only [Act.put,List.setIfInBounds_toArray,List.set_cons_zero,List.set_cons_succ,i64_w,i32_w]
    rfl
   exact norm_ zq10 (hJ ga _ ⟨HR.out,HZ.out,HA.out,HGR.out,HGN.out,HGW.out,HB.out⟩)
  ·refine box_step ?hg (N:=5) ?hd (cs:= #[.int .i64 0,.int .i64 0,.int .i64 0]) (t:=25) ?hr ?_;(case hd=>rfl);(case hg=>rfl);(case hr=> exact zq18)
   intro ga hg w4 hbox hb
   have HGR:=zqm (show gr≠ga from zq57)
   have HGN:=zqm (show N≠ga from zq58)
   have HGW:=zqm (show w.heap.size≤ga from zq91)
   have HA:=zqm hbox
   have n0_:=zqm (below_step HB.out hb);have n1_:=zqm (blk_below HR.out hb);have n2_:=zqm (blk_below HZ.out hb);clear HB HR HZ;have HB:=n0_;have HR:=n1_;have HZ:=n2_;clear n0_ n1_ n2_
   clear hbox hb hg
   refine hK.out _ _ ⟨(HW.out.below HB.out).v,(blk_cell HZ.out 0).trans rfl⟩ (fun hHeld=>?_)
   clear hK K
   refine norm_ (a':=?_) ?_ ?_
   rotate_left
   ·show Act.put _ (some 5) _=_
    simp only [Act.put,List.setIfInBounds_toArray,List.set_cons_zero,List.set_cons_succ,i64_w,i32_w]
    rfl
   refine one_ (i:=4) (N:=some 12) (zqb 8 95) rfl rfl zqk (by decide) (fun K hK=>?_)
   refine goes_ Tryd.func37 zqk rfl #[.slice (some ad) 5 c,.string z0] (by rfl) rfl rfl zq38 ?_
   with_reducible refine(HI.out w4 ad c (HW.out.below HB.out)).mono ?_
   rintro e w' ⟨rfl,rfl⟩
   refine⟨_,rfl,?_⟩
   refine hK.out _ _ ⟨(HW.out.below HB.out).v,(blk_cell HZ.out 0).trans rfl⟩ (fun hHeld=>?_)
   clear hK K
   refine norm_ (a':=?_) ?_ ?_
   rotate_left
   ·show Act.put _ (some 12) _=_
    simp only [Act.put,List.setIfInBounds_toArray,List.set_cons_zero,List.set_cons_succ,i64_w,i32_w]
    rfl
   refine pure_ (i:=5) (N:=some 13) (v:=?_) (a':=?_) (zqb 8 127) rfl rfl zqk (fun _ _ _ h=>h) (Or.inl ⟨by rfl,?_⟩) ?_ ?_
   rotate_left
   ·intro w'
    go_simp
    with_reducible rfl
   rotate_left
   ·simp only [Act.put,List.setIfInBounds_toArray,List.set_cons_zero,List.set_cons_succ,i64_w,i32_w]
    rfl
   exact norm_ zq10 (hJ ga _ ⟨HR.out,HZ.out,HA.out,HGR.out,HGN.out,HGW.out,HB.out⟩)
 rintro ga w5 ⟨h0_,h1_,h2_,h3_,h4_,h5_,h6_⟩
 clear HB HR HZ hHeld
 have HR:=zqm h0_
 have HZ:=zqm h1_
 have HA:=zqm h2_
 have HGR:=zqm h3_
 have HGN:=zqm h4_
 have HGW:=zqm h5_
 have HB:=zqm h6_
 clear h0_ h1_ h2_ h3_ h4_ h5_ h6_
 refine norm_ (a':=?_) ?_ ?_
 rotate_left
 ·simp only [putAll,Act.put,List.setIfInBounds_toArray,List.set_cons_zero,List.set_cons_succ]
  rfl
 refine one_ (i:=7) (N:=none) (zqb 8 255) rfl rfl zqk (by decide) (fun K hK=>?_)
 have hs0:w5.cell? ⟨ga,0,none⟩=some (.int .i64 0):=(blk_cell HA.out 0).trans rfl
 have hf0:=blk_frozen HA.out 0
 have hs1:w5.cell? ⟨ga,1,none⟩=some (.int .i64 0):=(blk_cell HA.out 1).trans rfl
 have hf1:=blk_frozen HA.out 1
 have hs2:w5.cell? ⟨ga,2,none⟩=some (.int .i64 0):=(blk_cell HA.out 2).trans rfl
 have hf2:=blk_frozen HA.out 2
 refine skip_ (w1:=?_) (by rfl) rfl ?_ ?_
 rotate_left
 ·go_simp
  rfl
 clear hs0 hs1 hs2 hf0 hf1 hf2
 have n0_:=zqm ((below_set (below_set (below_set HB.out HGW.out) HGW.out) HGW.out:Below w.heap.size w (((w5.setCell ⟨ga,0,none⟩ (.int .i64 k)).setCell ⟨ga,1,none⟩ (.int .i64 0)).setCell ⟨ga,2,none⟩ (.int .i64 0))));have n1_:=zqm ((blk_far (blk_far (blk_far HR.out HGR.out _) HGR.out _) HGR.out _:(((w5.setCell ⟨ga,0,none⟩ (.int .i64 k)).setCell ⟨ga,1,none⟩ (.int .i64 0)).setCell ⟨ga,2,none⟩ (.int .i64 0)).heap[gr]? =_));have n2_:=zqm ((blk_far (blk_far (blk_far HZ.out HGN.out _) HGN.out _) HGN.out _:(((w5.setCell ⟨ga,0,none⟩ (.int .i64 k)).setCell ⟨ga,1,none⟩ (.int .i64 0)).setCell ⟨ga,2,none⟩ (.int .i64 0)).heap[N]? =_));have n3_:=zqm ((blk_put (blk_put (blk_put HA.out 0 _ rfl) 1 _ rfl) 2 _ rfl:(((w5.setCell ⟨ga,0,none⟩ (.int .i64 k)).setCell ⟨ga,1,none⟩ (.int .i64 0)).setCell ⟨ga,2,none⟩ (.int .i64 0)).heap[ga]? =some (.cells #[.int .i64 k,.int .i64 0,.int .i64 0] 25 (0,0))));clear HB HR HZ HA;have HB:=n0_;have HR:=n1_;have HZ:=n2_;have HA:=n3_;clear n0_ n1_ n2_ n3_
 generalize hw6:((w5.setCell ⟨ga,0,none⟩ (.int .i64 k)).setCell ⟨ga,1,none⟩ (.int .i64 0)).setCell ⟨ga,2,none⟩ (.int .i64 0)=w6 at HB HR HZ HA ⊢
 clear hw6
 refine hK.out _ _ ⟨(HW.out.below HB.out).v,(blk_cell HZ.out 0).trans rfl⟩ (fun hHeld=>?_)
 clear hK K hHeld
 refine done_ zqk ?_
 have tok0:True:=trivial
 have hz1:w6.cell? ⟨N,1,none⟩=some (.string z1):=(blk_cell HZ.out 1).trans rfl
 have hgr:=HGR.out
 have hgr':=Ne.symm HGR.out
 go_wp2_with (first|(have _t:=tok0;go_at_call 38;(with_reducible refine(HA1.out _ (HE.out.below HB.out)).mono ?_);rintro e w71 ⟨er,rfl,hb⟩;clear hz1;have n0_:=zqm (below_step HB.out hb);have n1_:=zqm (blk_below HR.out hb);have n2_:=zqm (blk_below HZ.out hb);have n3_:=zqm (blk_below HA.out hb);clear HB HR HZ HA;have HB:=n0_;have HR:=n1_;have HZ:=n2_;have HA:=n3_;clear n0_ n1_ n2_ n3_;have hfa:=blk_frozen HA.out 1;have ha:w71.cell? ⟨ga,1,none⟩=some (.int .i64 0):=(blk_cell HA.out 1).trans rfl;clear hb tok0 _t;have tok1:True:=trivial)|(have _t:=tok1;(with_reducible refine gate_store (t:=3) (p:=24) rfl ?_);refine store_event (t:=3) (p:=24) (v:=?vo_w81) (w1:=(w71.setCell ⟨ga,1,none⟩ (.int .i64 v1))) ?hg ?ho ?hn ?hr ?_;(case ho=>rfl);(case hg=>rfl);(case hn=>rfl);(case hr=> exact zq18);intro w81 hw;clear hfa ha;have n0_:=zqm ((by rw [hw];exact below_set HB.out HGW.out:Below w.heap.size w w81));have n1_:=zqm ((by rw [hw];exact blk_far HR.out HGR.out _:w81.heap[gr]? =some (.cells #[.int .i64 0,.int .i64 0,.int .i64 0] 25 (0,0))));have n2_:=zqm ((by rw [hw];exact blk_far HZ.out HGN.out _:w81.heap[N]? =some (.cells (([z0,z1]:List ByteArray).map Value.string).toArray 9 (0,0))));have n3_:=zqm ((by rw [hw];exact blk_put HA.out 1 _ rfl:w81.heap[ga]? =some (.cells #[.int .i64 k,.int .i64 v1,.int .i64 0] 25 (0,0))));clear HB HR HZ HA;have HB:=n0_;have HR:=n1_;have HZ:=n2_;have HA:=n3_;clear n0_ n1_ n2_ n3_;clear hw;have ha0:w81.cell? ⟨ga,0,none⟩=some (.int .i64 k):=(blk_cell HA.out 0).trans rfl;have ha1:w81.cell? ⟨ga,1,none⟩=some (.int .i64 v1):=(blk_cell HA.out 1).trans rfl;have ha2:w81.cell? ⟨ga,2,none⟩=some (.int .i64 0):=(blk_cell HA.out 2).trans rfl;clear tok1 _t;have tok2:True:=trivial)|(have _t:=tok2;go_at_call 12;(with_reducible refine(HD.out _ (HW.out.below HB.out)).mono ?_);rintro e w9 ⟨rfl,hb⟩;clear ha0 ha1 ha2;have n0_:=zqm (below_step HB.out hb);have n1_:=zqm (blk_below HR.out hb);have n2_:=zqm (blk_below HA.out hb);clear HB HR HA;have HB:=n0_;have HR:=n1_;have HA:=n2_;clear n0_ n1_ n2_;clear hb;have ha0:w9.cell? ⟨ga,0,none⟩=some (.int .i64 k):=(blk_cell HA.out 0).trans rfl;have ha1:w9.cell? ⟨ga,1,none⟩=some (.int .i64 v1):=(blk_cell HA.out 1).trans rfl;have ha2:w9.cell? ⟨ga,2,none⟩=some (.int .i64 0):=(blk_cell HA.out 2).trans rfl;have hr0:w9.cell? ⟨gr,0,none⟩=some (.int .i64 0):=(blk_cell HR.out 0).trans rfl;have hrf0:=blk_frozen HR.out 0;have hr1:w9.cell? ⟨gr,1,none⟩=some (.int .i64 0):=(blk_cell HR.out 1).trans rfl;have hrf1:=blk_frozen HR.out 1;have hr2:w9.cell? ⟨gr,2,none⟩=some (.int .i64 0):=(blk_cell HR.out 2).trans rfl;have hrf2:=blk_frozen HR.out 2;clear tok2 _t))
 refine bodyPost_ret (results_ct rfl _ _ gr 25 #[.int .i64 k,.int .i64 v1,.int .i64 0] (0,0) _ rfl zq69 Tryd.underlying25 rfl zqk) rfl ?_
 exact⟨rfl,zq48⟩
set_option maxHeartbeats 4000000 in
set_option maxRecDepth 100000 in
theorem read3n (s z0 z1 z2 : ByteArray) (zr : List ByteArray) (hp : pcs s = z0 :: z1 :: z2 :: zr) (w : World) (ad : Addr) (c : Nat) (hW : WordsAt w ad c) (hE : ErrsAt w) (hs : s.size < 4294967281) (hz1 : z1.size ≤ 281474976710656) (hz2 : z2.size ≤ 281474976710656) (he : ¬ s.data.toList = []) (hd : ¬ (deedT (Lib.idxOfS wordsZ z0) (atoV z1) (atoV z2)).data.toList = s.data.toList) :
 Calls Tryd.prog 19 #[.string s] w fun e w'=>e= .returned (.tuple #[.agg #[.int .i64 0,.int .i64 0,.int .i64 0],.bool false])∧Below w.heap.size w w':=by
 have hu25:=Tryd.underlying25
 have HW:=zqm hW
 have HE:=zqm hE
 obtain⟨m,hm⟩: ∃m,(pcs s).length=m:=⟨_,rfl⟩
 have hm3:3≤m:=by rw [← hm,hp];simp
 have HS:=zqm (split_calls s hs m hm)
 rw [hp] at HS
 have HI:=zqm (index_calls z0)
 obtain⟨k,hk⟩: ∃k,k=Lib.idxOfS wordsZ z0:=⟨_,rfl⟩
 rw [← hk] at HI
 rw [← hk] at hd
 have HA1:=zqm (atoi_calls z1 hz1)
 obtain⟨v1,hv1⟩: ∃v,v=atoV z1:=⟨_,rfl⟩
 rw [← hv1] at HA1
 rw [← hv1] at hd
 have HA2:=zqm (atoi_calls z2 hz2)
 obtain⟨v2,hv2⟩: ∃v,v=atoV z2:=⟨_,rfl⟩
 rw [← hv2] at HA2
 rw [← hv2] at hd
 have HD:=zqm (fun w (h:WordsAt w ad c)=>deed_calls k v1 v2 w ad c h)
 obtain⟨t,ht⟩: ∃t,t=deedT k v1 v2:=⟨_,rfl⟩
 rw [← ht] at HD hd
 clear hW hE hs hp hk hz1 hv1 hz2 hv2 hm ht
 have sl:s.toList=s.data.toList:=ba_toList s
 have x1:(s.toList= [])=False:=eq_false (by rw [sl];exact he)
 have x2:(s.toList== [])=false:=by cases h:s.toList <;> simp_all
 have x3:s.toList.isEmpty=false:=by cases h:s.toList <;> simp_all
 have tl:t.toList=t.data.toList:=ba_toList t
 have y1:(t.toList=s.toList)=False:=eq_false (by rw [sl,tl];exact hd)
 have y2:(t.toList==s.toList)=false:=by rw [beq_eq_false_iff_ne,sl,tl];exact hd
 have y3:(t.toList !=s.toList)=true:=by rw [bne_iff_ne,sl,tl];exact hd
 clear sl he hd tl
 have c1:(1<m)=True:=eq_true (by omega)
 have c1':decide (1<m)=true:=decide_eq_true (by omega)
 have c1i:((1:Int)<(m:Int))=True:=eq_true (by omega)
 have c1j:decide ((1:Int)<(m:Int))=true:=decide_eq_true (by omega)
 have c2:(2<m)=True:=eq_true (by omega)
 have c2':decide (2<m)=true:=decide_eq_true (by omega)
 have c2i:((2:Int)<(m:Int))=True:=eq_true (by omega)
 have c2j:decide ((2:Int)<(m:Int))=true:=decide_eq_true (by omega)
 have c0:(0<m)=True:=eq_true (by omega)
 have c0':decide (0<m)=true:=decide_eq_true (by omega)
 have c0i:((0:Int)<(m:Int))=True:=eq_true (by omega)
 have c0j:decide ((0:Int)<(m:Int))=true:=decide_eq_true (by omega)
 clear hm3
 go_enter Tryd.func19,Tryd.ntmps19
 go_wp2_with (first|((with_reducible refine gate_dst (N:=2) rfl ?_);refine box_event ?hg (N:=2) ?hd (cs:= #[.int .i64 0,.int .i64 0,.int .i64 0]) (t:=25) ?hr ?_;(case hd=>rfl);(case hg=>rfl);(case hr=> exact zq18);intro gr hg_ w1 hbox hb;have HB:=zqm hb;have HR:=zqm hbox;have HRW:=zqm (Nat.le_of_eq hg_.symm);clear hbox hb hg_)|(go_at_call 36;(with_reducible refine(HS.out _ (HE.out.below HB.out)).mono ?_);rintro e w2 ⟨N,rfl,hN,hz,hb⟩;have HNR:=zqm (show gr≠N from zq103);have HNW:=zqm (show w.heap.size≤N from zq121);have HZ:=zqm hz;clear hz;have n0_:=zqm (below_step HB.out hb);have n1_:=zqm (blk_below HR.out hb);clear HB HR;have HB:=n0_;have HR:=n1_;clear n0_ n1_;clear hb hN))
 have n0_:=zqm (below_drew1 HB.out);have n1_:=zqm (blk_drew HR.out);have n2_:=zqm (blk_drew HZ.out);clear HB HR HZ;have HB:=n0_;have HR:=n1_;have HZ:=n2_;clear n0_ n1_ n2_
 refine start_ (n:=8) (S:=fun w'=>w'.cell? ⟨0,0,none⟩=some (.slice (some ad) 5 c)∧w'.cell? ⟨N,0,none⟩=some (.string z0)) (ds:= []) (zqb 8 0) zqk rfl rfl ⟨(HW.out.below HB.out).v,(blk_cell HZ.out 0).trans rfl⟩ (fun hHeld=>?_)
 generalize w2.drew=w3 at HB HR HZ hHeld ⊢
 refine take_ (i:=0) (N:=some 8) (v:=?_) (a':=?_) (zqb 8 1) rfl rfl zqk (fun _ _ _ h=>h) (Or.inl ⟨by rfl,?_⟩) hHeld ?_ ?_
 rotate_left
 ·rintro w' ⟨hh0,hh1⟩
  go_simp
  with_reducible rfl
 rotate_left
 ·simp only [Act.put,List.setIfInBounds_toArray,List.set_cons_zero,List.set_cons_succ,i64_w,i32_w]
  rfl
 refine pure_ (i:=1) (N:=some 9) (v:=?_) (a':=?_) (zqb 8 3) rfl rfl zqk (fun _ _ _ h=>h) (Or.inl ⟨by rfl,?_⟩) ?_ ?_
 rotate_left
 ·intro w'
  go_simp
  with_reducible rfl
 rotate_left
 ·simp only [Act.put,List.setIfInBounds_toArray,List.set_cons_zero,List.set_cons_succ,i64_w,i32_w]
  rfl
 refine pure_ (i:=2) (N:=some 10) (v:=?_) (a':=?_) (zqb 8 7) rfl rfl zqk (fun _ _ _ h=>h) (Or.inl ⟨by rfl,?_⟩) ?_ ?_
 rotate_left
 ·intro w'
  go_simp
  with_reducible rfl
 rotate_left
 ·simp only [Act.put,List.setIfInBounds_toArray,List.set_cons_zero,List.set_cons_succ,i64_w,i32_w]
  rfl
 refine take_ (i:=3) (N:=some 11) (v:=?_) (a':=?_) (zqb 8 15) rfl rfl zqk (fun _ _ _ h=>h) (Or.inl ⟨by rfl,?_⟩) hHeld ?_ ?_
 rotate_left
 ·rintro w' ⟨hh0,hh1⟩
  go_simp
  with_reducible rfl
 rotate_left
 ·simp only [Act.put,List.setIfInBounds_toArray,List.set_cons_zero,List.set_cons_succ,i64_w,i32_w]
  rfl
 refine join_ (σ:=Nat) 1 (zqb 8 127) (fun s_=> [(12,.int .i64 k),(5,.pointer (some ⟨s_,0,none⟩)),(13,.agg #[.int .i64 k,.int .i64 0,.int .i64 0])]) (fun s_ w'=>(w'.heap[gr]? =some (.cells #[.int .i64 0,.int .i64 0,.int .i64 0] 25 (0,0)))∧(w'.heap[N]? =some (.cells ((z0 :: z1 :: z2 :: zr:List ByteArray).map Value.string).toArray 9 (0,0)))∧(w'.heap[s_]? =some (.cells #[.int .i64 0,.int .i64 0,.int .i64 0] 25 (0,0)))∧gr≠s_∧N≠s_∧w.heap.size≤s_∧Below w.heap.size w w') ?_ ?_
 rotate_left
 ·intro hJ
  refine two_ (i:=4) (j:=6) (Ni:=some 12) (Nj:=some 5) (zqb 8 31) (zqb 8 79) rfl rfl rfl rfl zqk (by decide) (by decide) (fun K hK=>?_) (fun K hK=>?_)
  ·refine goes_ Tryd.func37 zqk rfl #[.slice (some ad) 5 c,.string z0] (by rfl) rfl rfl zq38 ?_
   with_reducible refine(HI.out w3 ad c (HW.out.below HB.out)).mono ?_
   rintro e w' ⟨rfl,rfl⟩
   refine⟨_,rfl,?_⟩
   refine hK.out _ _ ⟨(HW.out.below HB.out).v,(blk_cell HZ.out 0).trans rfl⟩ (fun hHeld=>?_)
   clear hK K
   refine norm_ (a':=?_) ?_ ?_
   rotate_left
   ·show Act.put _ (some 12) _=_
    simp only [Act.put,List.setIfInBounds_toArray,List.set_cons_zero,List.set_cons_succ,i64_w,i32_w]
    rfl
   refine pure_ (i:=5) (N:=some 13) (v:=?_) (a':=?_) (zqb 8 63) rfl rfl zqk (fun _ _ _ h=>h) (Or.inl ⟨by rfl,?_⟩) ?_ ?_
   rotate_left
   ·intro w'
    go_simp
    with_reducible rfl
   rotate_left
   ·simp only [Act.put,List.setIfInBounds_toArray,List.set_cons_zero,List.set_cons_succ,i64_w,i32_w]
    rfl
   refine one_ (i:=6) (N:=some 5) (zqb 8 127) rfl rfl zqk (by decide) (fun K hK=>?_)
   refine box_step ?hg (N:=5) ?hd (cs:= #[.int .i64 0,.int .i64 0,.int .i64 0]) (t:=25) ?hr ?_;(case hd=>rfl);(case hg=>rfl);(case hr=> exact zq18)
   intro ga hg w4 hbox hb
   have HGR:=zqm (show gr≠ga from zq57)
   have HGN:=zqm (show N≠ga from zq58)
   have HGW:=zqm (show w.heap.size≤ga from zq91)
   have HA:=zqm hbox
   have n0_:=zqm (below_step HB.out hb);have n1_:=zqm (blk_below HR.out hb);have n2_:=zqm (blk_below HZ.out hb);clear HB HR HZ;have HB:=n0_;have HR:=n1_;have HZ:=n2_;clear n0_ n1_ n2_
   clear hbox hb hg
   refine hK.out _ _ ⟨(HW.out.below HB.out).v,(blk_cell HZ.out 0).trans rfl⟩ (fun hHeld=>?_)
   clear hK K
   refine norm_ (a':=?_) ?_ ?_
   rotate_left
   ·show Act.put _ (some 5) _=_
    simp only [Act.put,List.setIfInBounds_toArray,List.set_cons_zero,List.set_cons_succ,i64_w,i32_w]
    rfl
   exact norm_ zq10 (hJ ga _ ⟨HR.out,HZ.out,HA.out,HGR.out,HGN.out,HGW.out,HB.out⟩)
  ·refine box_step ?hg (N:=5) ?hd (cs:= #[.int .i64 0,.int .i64 0,.int .i64 0]) (t:=25) ?hr ?_;(case hd=>rfl);(case hg=>rfl);(case hr=> exact zq18)
   intro ga hg w4 hbox hb
   have HGR:=zqm (show gr≠ga from zq57)
   have HGN:=zqm (show N≠ga from zq58)
   have HGW:=zqm (show w.heap.size≤ga from zq91)
   have HA:=zqm hbox
   have n0_:=zqm (below_step HB.out hb);have n1_:=zqm (blk_below HR.out hb);have n2_:=zqm (blk_below HZ.out hb);clear HB HR HZ;have HB:=n0_;have HR:=n1_;have HZ:=n2_;clear n0_ n1_ n2_
   clear hbox hb hg
   refine hK.out _ _ ⟨(HW.out.below HB.out).v,(blk_cell HZ.out 0).trans rfl⟩ (fun hHeld=>?_)
   clear hK K
   refine norm_ (a':=?_) ?_ ?_
   rotate_left
   ·show Act.put _ (some 5) _=_
    simp only [Act.put,List.setIfInBounds_toArray,List.set_cons_zero,List.set_cons_succ,i64_w,i32_w]
    rfl
   refine one_ (i:=4) (N:=some 12) (zqb 8 95) rfl rfl zqk (by decide) (fun K hK=>?_)
   refine goes_ Tryd.func37 zqk rfl #[.slice (some ad) 5 c,.string z0] (by rfl) rfl rfl zq38 ?_
   with_reducible refine(HI.out w4 ad c (HW.out.below HB.out)).mono ?_
   rintro e w' ⟨rfl,rfl⟩
   refine⟨_,rfl,?_⟩
   refine hK.out _ _ ⟨(HW.out.below HB.out).v,(blk_cell HZ.out 0).trans rfl⟩ (fun hHeld=>?_)
   clear hK K
   refine norm_ (a':=?_) ?_ ?_
   rotate_left
   ·show Act.put _ (some 12) _=_
    simp only [Act.put,List.setIfInBounds_toArray,List.set_cons_zero,List.set_cons_succ,i64_w,i32_w]
    rfl
   refine pure_ (i:=5) (N:=some 13) (v:=?_) (a':=?_) (zqb 8 127) rfl rfl zqk (fun _ _ _ h=>h) (Or.inl ⟨by rfl,?_⟩) ?_ ?_
   rotate_left
   ·intro w'
    go_simp
    with_reducible rfl
   rotate_left
   ·simp only [Act.put,List.setIfInBounds_toArray,List.set_cons_zero,List.set_cons_succ,i64_w,i32_w]
    rfl
   exact norm_ zq10 (hJ ga _ ⟨HR.out,HZ.out,HA.out,HGR.out,HGN.out,HGW.out,HB.out⟩)
 rintro ga w5 ⟨h0_,h1_,h2_,h3_,h4_,h5_,h6_⟩
 clear HB HR HZ hHeld
 have HR:=zqm h0_
 have HZ:=zqm h1_
 have HA:=zqm h2_
 have HGR:=zqm h3_
 have HGN:=zqm h4_
 have HGW:=zqm h5_
 have HB:=zqm h6_
 clear h0_ h1_ h2_ h3_ h4_ h5_ h6_
 refine norm_ (a':=?_) ?_ ?_
 rotate_left
 ·simp only [putAll,Act.put,List.setIfInBounds_toArray,List.set_cons_zero,List.set_cons_succ]
  rfl
 refine one_ (i:=7) (N:=none) (zqb 8 255) rfl rfl zqk (by decide) (fun K hK=>?_)
 have hs0:w5.cell? ⟨ga,0,none⟩=some (.int .i64 0):=(blk_cell HA.out 0).trans rfl
 have hf0:=blk_frozen HA.out 0
 have hs1:w5.cell? ⟨ga,1,none⟩=some (.int .i64 0):=(blk_cell HA.out 1).trans rfl
 have hf1:=blk_frozen HA.out 1
 have hs2:w5.cell? ⟨ga,2,none⟩=some (.int .i64 0):=(blk_cell HA.out 2).trans rfl
 have hf2:=blk_frozen HA.out 2
 refine skip_ (w1:=?_) (by rfl) rfl ?_ ?_
 rotate_left
 ·go_simp
  rfl
 clear hs0 hs1 hs2 hf0 hf1 hf2
 have n0_:=zqm ((below_set (below_set (below_set HB.out HGW.out) HGW.out) HGW.out:Below w.heap.size w (((w5.setCell ⟨ga,0,none⟩ (.int .i64 k)).setCell ⟨ga,1,none⟩ (.int .i64 0)).setCell ⟨ga,2,none⟩ (.int .i64 0))));have n1_:=zqm ((blk_far (blk_far (blk_far HR.out HGR.out _) HGR.out _) HGR.out _:(((w5.setCell ⟨ga,0,none⟩ (.int .i64 k)).setCell ⟨ga,1,none⟩ (.int .i64 0)).setCell ⟨ga,2,none⟩ (.int .i64 0)).heap[gr]? =_));have n2_:=zqm ((blk_far (blk_far (blk_far HZ.out HGN.out _) HGN.out _) HGN.out _:(((w5.setCell ⟨ga,0,none⟩ (.int .i64 k)).setCell ⟨ga,1,none⟩ (.int .i64 0)).setCell ⟨ga,2,none⟩ (.int .i64 0)).heap[N]? =_));have n3_:=zqm ((blk_put (blk_put (blk_put HA.out 0 _ rfl) 1 _ rfl) 2 _ rfl:(((w5.setCell ⟨ga,0,none⟩ (.int .i64 k)).setCell ⟨ga,1,none⟩ (.int .i64 0)).setCell ⟨ga,2,none⟩ (.int .i64 0)).heap[ga]? =some (.cells #[.int .i64 k,.int .i64 0,.int .i64 0] 25 (0,0))));clear HB HR HZ HA;have HB:=n0_;have HR:=n1_;have HZ:=n2_;have HA:=n3_;clear n0_ n1_ n2_ n3_
 generalize hw6:((w5.setCell ⟨ga,0,none⟩ (.int .i64 k)).setCell ⟨ga,1,none⟩ (.int .i64 0)).setCell ⟨ga,2,none⟩ (.int .i64 0)=w6 at HB HR HZ HA ⊢
 clear hw6
 refine hK.out _ _ ⟨(HW.out.below HB.out).v,(blk_cell HZ.out 0).trans rfl⟩ (fun hHeld=>?_)
 clear hK K hHeld
 refine done_ zqk ?_
 have tok0:True:=trivial
 have hz1:w6.cell? ⟨N,1,none⟩=some (.string z1):=(blk_cell HZ.out 1).trans rfl
 have hgr:=HGR.out
 have hgr':=Ne.symm HGR.out
 go_wp2_with (first|(have _t:=tok0;go_at_call 38;(with_reducible refine(HA1.out _ (HE.out.below HB.out)).mono ?_);rintro e w71 ⟨er,rfl,hb⟩;clear hz1;have n0_:=zqm (below_step HB.out hb);have n1_:=zqm (blk_below HR.out hb);have n2_:=zqm (blk_below HZ.out hb);have n3_:=zqm (blk_below HA.out hb);clear HB HR HZ HA;have HB:=n0_;have HR:=n1_;have HZ:=n2_;have HA:=n3_;clear n0_ n1_ n2_ n3_;have hfa:=blk_frozen HA.out 1;have ha:w71.cell? ⟨ga,1,none⟩=some (.int .i64 0):=(blk_cell HA.out 1).trans rfl;clear hb tok0 _t;have tok1:True:=trivial)|(have _t:=tok1;(with_reducible refine gate_store (t:=3) (p:=24) rfl ?_);refine store_event (t:=3) (p:=24) (v:=?vo_w81) (w1:=(w71.setCell ⟨ga,1,none⟩ (.int .i64 v1))) ?hg ?ho ?hn ?hr ?_;(case ho=>rfl);(case hg=>rfl);(case hn=>rfl);(case hr=> exact zq18);intro w81 hw;clear hfa ha;have n0_:=zqm ((by rw [hw];exact below_set HB.out HGW.out:Below w.heap.size w w81));have n1_:=zqm ((by rw [hw];exact blk_far HR.out HGR.out _:w81.heap[gr]? =some (.cells #[.int .i64 0,.int .i64 0,.int .i64 0] 25 (0,0))));have n2_:=zqm ((by rw [hw];exact blk_far HZ.out HGN.out _:w81.heap[N]? =some (.cells ((z0 :: z1 :: z2 :: zr:List ByteArray).map Value.string).toArray 9 (0,0))));have n3_:=zqm ((by rw [hw];exact blk_put HA.out 1 _ rfl:w81.heap[ga]? =some (.cells #[.int .i64 k,.int .i64 v1,.int .i64 0] 25 (0,0))));clear HB HR HZ HA;have HB:=n0_;have HR:=n1_;have HZ:=n2_;have HA:=n3_;clear n0_ n1_ n2_ n3_;clear hw;have hz2:w81.cell? ⟨N,2,none⟩=some (.string z2):=(blk_cell HZ.out 2).trans rfl;clear tok1 _t;have tok2:True:=trivial)|(have _t:=tok2;go_at_call 38;(with_reducible refine(HA2.out _ (HE.out.below HB.out)).mono ?_);rintro e w72 ⟨er,rfl,hb⟩;clear hz2;have n0_:=zqm (below_step HB.out hb);have n1_:=zqm (blk_below HR.out hb);have n2_:=zqm (blk_below HZ.out hb);have n3_:=zqm (blk_below HA.out hb);clear HB HR HZ HA;have HB:=n0_;have HR:=n1_;have HZ:=n2_;have HA:=n3_;clear n0_ n1_ n2_ n3_;have hfa:=blk_frozen HA.out 2;have ha:w72.cell? ⟨ga,2,none⟩=some (.int .i64 0):=(blk_cell HA.out 2).trans rfl;clear hb tok2 _t;have tok3:True:=trivial)|(have _t:=tok3;(with_reducible refine gate_store (t:=3) (p:=35) rfl ?_);refine store_event (t:=3) (p:=35) (v:=?vo_w82) (w1:=(w72.setCell ⟨ga,2,none⟩ (.int .i64 v2))) ?hg ?ho ?hn ?hr ?_;(case ho=>rfl);(case hg=>rfl);(case hn=>rfl);(case hr=> exact zq18);intro w82 hw;clear hfa ha;have n0_:=zqm ((by rw [hw];exact below_set HB.out HGW.out:Below w.heap.size w w82));have n1_:=zqm ((by rw [hw];exact blk_far HR.out HGR.out _:w82.heap[gr]? =some (.cells #[.int .i64 0,.int .i64 0,.int .i64 0] 25 (0,0))));have n2_:=zqm ((by rw [hw];exact blk_far HZ.out HGN.out _:w82.heap[N]? =some (.cells ((z0 :: z1 :: z2 :: zr:List ByteArray).map Value.string).toArray 9 (0,0))));have n3_:=zqm ((by rw [hw];exact blk_put HA.out 2 _ rfl:w82.heap[ga]? =some (.cells #[.int .i64 k,.int .i64 v1,.int .i64 v2] 25 (0,0))));clear HB HR HZ HA;have HB:=n0_;have HR:=n1_;have HZ:=n2_;have HA:=n3_;clear n0_ n1_ n2_ n3_;clear hw;have ha0:w82.cell? ⟨ga,0,none⟩=some (.int .i64 k):=(blk_cell HA.out 0).trans rfl;have ha1:w82.cell? ⟨ga,1,none⟩=some (.int .i64 v1):=(blk_cell HA.out 1).trans rfl;have ha2:w82.cell? ⟨ga,2,none⟩=some (.int .i64 v2):=(blk_cell HA.out 2).trans rfl;clear tok3 _t;have tok4:True:=trivial)|(have _t:=tok4;go_at_call 12;(with_reducible refine(HD.out _ (HW.out.below HB.out)).mono ?_);rintro e w9 ⟨rfl,hb⟩;clear ha0 ha1 ha2;have n0_:=zqm (below_step HB.out hb);have n1_:=zqm (blk_below HR.out hb);have n2_:=zqm (blk_below HA.out hb);clear HB HR HA;have HB:=n0_;have HR:=n1_;have HA:=n2_;clear n0_ n1_ n2_;clear hb;have ha0:w9.cell? ⟨ga,0,none⟩=some (.int .i64 k):=(blk_cell HA.out 0).trans rfl;have ha1:w9.cell? ⟨ga,1,none⟩=some (.int .i64 v1):=(blk_cell HA.out 1).trans rfl;have ha2:w9.cell? ⟨ga,2,none⟩=some (.int .i64 v2):=(blk_cell HA.out 2).trans rfl;have hr0:w9.cell? ⟨gr,0,none⟩=some (.int .i64 0):=(blk_cell HR.out 0).trans rfl;have hrf0:=blk_frozen HR.out 0;have hr1:w9.cell? ⟨gr,1,none⟩=some (.int .i64 0):=(blk_cell HR.out 1).trans rfl;have hrf1:=blk_frozen HR.out 1;have hr2:w9.cell? ⟨gr,2,none⟩=some (.int .i64 0):=(blk_cell HR.out 2).trans rfl;have hrf2:=blk_frozen HR.out 2;clear tok4 _t))
 refine bodyPost_ret (results_ct rfl _ _ gr 25 #[.int .i64 0,.int .i64 0,.int .i64 0] (0,0) _ rfl zq39 Tryd.underlying25 rfl zqk) rfl ?_
 exact⟨rfl,zq48⟩
set_option maxHeartbeats 4000000 in
set_option maxRecDepth 100000 in
theorem read3y (s z0 z1 z2 : ByteArray) (zr : List ByteArray) (hp : pcs s = z0 :: z1 :: z2 :: zr) (w : World) (ad : Addr) (c : Nat) (hW : WordsAt w ad c) (hE : ErrsAt w) (hs : s.size < 4294967281) (hz1 : z1.size ≤ 281474976710656) (hz2 : z2.size ≤ 281474976710656) (he : ¬ s.data.toList = []) (hd : deedT (Lib.idxOfS wordsZ z0) (atoV z1) (atoV z2) = s) :
 Calls Tryd.prog 19 #[.string s] w fun e w'=>e= .returned (.tuple #[.agg #[.int .i64 (Lib.idxOfS wordsZ z0),.int .i64 (atoV z1),.int .i64 (atoV z2)],.bool true])∧Below w.heap.size w w':=by
 have hu25:=Tryd.underlying25
 have HW:=zqm hW
 have HE:=zqm hE
 obtain⟨m,hm⟩: ∃m,(pcs s).length=m:=⟨_,rfl⟩
 have hm3:3≤m:=by rw [← hm,hp];simp
 have HS:=zqm (split_calls s hs m hm)
 rw [hp] at HS
 have HI:=zqm (index_calls z0)
 obtain⟨k,hk⟩: ∃k,k=Lib.idxOfS wordsZ z0:=⟨_,rfl⟩
 rw [← hk] at HI ⊢
 rw [← hk] at hd
 have HA1:=zqm (atoi_calls z1 hz1)
 obtain⟨v1,hv1⟩: ∃v,v=atoV z1:=⟨_,rfl⟩
 rw [← hv1] at HA1 ⊢
 rw [← hv1] at hd
 have HA2:=zqm (atoi_calls z2 hz2)
 obtain⟨v2,hv2⟩: ∃v,v=atoV z2:=⟨_,rfl⟩
 rw [← hv2] at HA2 ⊢
 rw [← hv2] at hd
 have HD:=zqm (fun w (h:WordsAt w ad c)=>deed_calls k v1 v2 w ad c h)
 rw [hd] at HD
 clear hW hE hs hp hk hz1 hv1 hz2 hv2 hm
 have sl:s.toList=s.data.toList:=ba_toList s
 have x1:(s.toList= [])=False:=eq_false (by rw [sl];exact he)
 have x2:(s.toList== [])=false:=by cases h:s.toList <;> simp_all
 have x3:s.toList.isEmpty=false:=by cases h:s.toList <;> simp_all
 clear sl he hd
 have c1:(1<m)=True:=eq_true (by omega)
 have c1':decide (1<m)=true:=decide_eq_true (by omega)
 have c1i:((1:Int)<(m:Int))=True:=eq_true (by omega)
 have c1j:decide ((1:Int)<(m:Int))=true:=decide_eq_true (by omega)
 have c2:(2<m)=True:=eq_true (by omega)
 have c2':decide (2<m)=true:=decide_eq_true (by omega)
 have c2i:((2:Int)<(m:Int))=True:=eq_true (by omega)
 have c2j:decide ((2:Int)<(m:Int))=true:=decide_eq_true (by omega)
 have c0:(0<m)=True:=eq_true (by omega)
 have c0':decide (0<m)=true:=decide_eq_true (by omega)
 have c0i:((0:Int)<(m:Int))=True:=eq_true (by omega)
 have c0j:decide ((0:Int)<(m:Int))=true:=decide_eq_true (by omega)
 clear hm3
 go_enter Tryd.func19,Tryd.ntmps19
 go_wp2_with (first|((with_reducible refine gate_dst (N:=2) rfl ?_);refine box_event ?hg (N:=2) ?hd (cs:= #[.int .i64 0,.int .i64 0,.int .i64 0]) (t:=25) ?hr ?_;(case hd=>rfl);(case hg=>rfl);(case hr=> exact zq18);intro gr hg_ w1 hbox hb;have HB:=zqm hb;have HR:=zqm hbox;have HRW:=zqm (Nat.le_of_eq hg_.symm);clear hbox hb hg_)|(go_at_call 36;(with_reducible refine(HS.out _ (HE.out.below HB.out)).mono ?_);rintro e w2 ⟨N,rfl,hN,hz,hb⟩;have HNR:=zqm (show gr≠N from zq103);have HNW:=zqm (show w.heap.size≤N from zq121);have HZ:=zqm hz;clear hz;have n0_:=zqm (below_step HB.out hb);have n1_:=zqm (blk_below HR.out hb);clear HB HR;have HB:=n0_;have HR:=n1_;clear n0_ n1_;clear hb hN))
 have n0_:=zqm (below_drew1 HB.out);have n1_:=zqm (blk_drew HR.out);have n2_:=zqm (blk_drew HZ.out);clear HB HR HZ;have HB:=n0_;have HR:=n1_;have HZ:=n2_;clear n0_ n1_ n2_
 refine start_ (n:=8) (S:=fun w'=>w'.cell? ⟨0,0,none⟩=some (.slice (some ad) 5 c)∧w'.cell? ⟨N,0,none⟩=some (.string z0)) (ds:= []) (zqb 8 0) zqk rfl rfl ⟨(HW.out.below HB.out).v,(blk_cell HZ.out 0).trans rfl⟩ (fun hHeld=>?_)
 generalize w2.drew=w3 at HB HR HZ hHeld ⊢
 refine take_ (i:=0) (N:=some 8) (v:=?_) (a':=?_) (zqb 8 1) rfl rfl zqk (fun _ _ _ h=>h) (Or.inl ⟨by rfl,?_⟩) hHeld ?_ ?_
 rotate_left
 ·rintro w' ⟨hh0,hh1⟩
  go_simp
  with_reducible rfl
 rotate_left
 ·simp only [Act.put,List.setIfInBounds_toArray,List.set_cons_zero,List.set_cons_succ,i64_w,i32_w]
  rfl
 refine pure_ (i:=1) (N:=some 9) (v:=?_) (a':=?_) (zqb 8 3) rfl rfl zqk (fun _ _ _ h=>h) (Or.inl ⟨by rfl,?_⟩) ?_ ?_
 rotate_left
 ·intro w'
  go_simp
  with_reducible rfl
 rotate_left
 ·simp only [Act.put,List.setIfInBounds_toArray,List.set_cons_zero,List.set_cons_succ,i64_w,i32_w]
  rfl
 refine pure_ (i:=2) (N:=some 10) (v:=?_) (a':=?_) (zqb 8 7) rfl rfl zqk (fun _ _ _ h=>h) (Or.inl ⟨by rfl,?_⟩) ?_ ?_
 rotate_left
 ·intro w'
  go_simp
  with_reducible rfl
 rotate_left
 ·simp only [Act.put,List.setIfInBounds_toArray,List.set_cons_zero,List.set_cons_succ,i64_w,i32_w]
  rfl
 refine take_ (i:=3) (N:=some 11) (v:=?_) (a':=?_) (zqb 8 15) rfl rfl zqk (fun _ _ _ h=>h) (Or.inl ⟨by rfl,?_⟩) hHeld ?_ ?_
 rotate_left
 ·rintro w' ⟨hh0,hh1⟩
  go_simp
  with_reducible rfl
 rotate_left
 ·simp only [Act.put,List.setIfInBounds_toArray,List.set_cons_zero,List.set_cons_succ,i64_w,i32_w]
  rfl
 refine join_ (σ:=Nat) 1 (zqb 8 127) (fun s_=> [(12,.int .i64 k),(5,.pointer (some ⟨s_,0,none⟩)),(13,.agg #[.int .i64 k,.int .i64 0,.int .i64 0])]) (fun s_ w'=>(w'.heap[gr]? =some (.cells #[.int .i64 0,.int .i64 0,.int .i64 0] 25 (0,0)))∧(w'.heap[N]? =some (.cells ((z0 :: z1 :: z2 :: zr:List ByteArray).map Value.string).toArray 9 (0,0)))∧(w'.heap[s_]? =some (.cells #[.int .i64 0,.int .i64 0,.int .i64 0] 25 (0,0)))∧gr≠s_∧N≠s_∧w.heap.size≤s_∧Below w.heap.size w w') ?_ ?_
 rotate_left
 ·intro hJ
  refine two_ (i:=4) (j:=6) (Ni:=some 12) (Nj:=some 5) (zqb 8 31) (zqb 8 79) rfl rfl rfl rfl zqk (by decide) (by decide) (fun K hK=>?_) (fun K hK=>?_)
  ·refine goes_ Tryd.func37 zqk rfl #[.slice (some ad) 5 c,.string z0] (by rfl) rfl rfl zq38 ?_
   with_reducible refine(HI.out w3 ad c (HW.out.below HB.out)).mono ?_
   rintro e w' ⟨rfl,rfl⟩
   refine⟨_,rfl,?_⟩
   refine hK.out _ _ ⟨(HW.out.below HB.out).v,(blk_cell HZ.out 0).trans rfl⟩ (fun hHeld=>?_)
   clear hK K
   refine norm_ (a':=?_) ?_ ?_
   rotate_left
   ·show Act.put _ (some 12) _=_
    simp only [Act.put,List.setIfInBounds_toArray,List.set_cons_zero,List.set_cons_succ,i64_w,i32_w]
    rfl
   refine pure_ (i:=5) (N:=some 13) (v:=?_) (a':=?_) (zqb 8 63) rfl rfl zqk (fun _ _ _ h=>h) (Or.inl ⟨by rfl,?_⟩) ?_ ?_
   rotate_left
   ·intro w'
    go_simp
    with_reducible rfl
   rotate_left
   ·simp only [Act.put,List.setIfInBounds_toArray,List.set_cons_zero,List.set_cons_succ,i64_w,i32_w]
    rfl
   refine one_ (i:=6) (N:=some 5) (zqb 8 127) rfl rfl zqk (by decide) (fun K hK=>?_)
   refine box_step ?hg (N:=5) ?hd (cs:= #[.int .i64 0,.int .i64 0,.int .i64 0]) (t:=25) ?hr ?_;(case hd=>rfl);(case hg=>rfl);(case hr=> exact zq18)
   intro ga hg w4 hbox hb
   have HGR:=zqm (show gr≠ga from zq57)
   have HGN:=zqm (show N≠ga from zq58)
   have HGW:=zqm (show w.heap.size≤ga from zq91)
   have HA:=zqm hbox
   have n0_:=zqm (below_step HB.out hb);have n1_:=zqm (blk_below HR.out hb);have n2_:=zqm (blk_below HZ.out hb);clear HB HR HZ;have HB:=n0_;have HR:=n1_;have HZ:=n2_;clear n0_ n1_ n2_
   clear hbox hb hg
   refine hK.out _ _ ⟨(HW.out.below HB.out).v,(blk_cell HZ.out 0).trans rfl⟩ (fun hHeld=>?_)
   clear hK K
   refine norm_ (a':=?_) ?_ ?_
   rotate_left
   ·show Act.put _ (some 5) _=_
    simp only [Act.put,List.setIfInBounds_toArray,List.set_cons_zero,List.set_cons_succ,i64_w,i32_w]
    rfl
   exact norm_ zq10 (hJ ga _ ⟨HR.out,HZ.out,HA.out,HGR.out,HGN.out,HGW.out,HB.out⟩)
  ·refine box_step ?hg (N:=5) ?hd (cs:= #[.int .i64 0,.int .i64 0,.int .i64 0]) (t:=25) ?hr ?_;(case hd=>rfl);(case hg=>rfl);(case hr=> exact zq18)
   intro ga hg w4 hbox hb
   have HGR:=zqm (show gr≠ga from zq57)
   have HGN:=zqm (show N≠ga from zq58)
   have HGW:=zqm (show w.heap.size≤ga from zq91)
   have HA:=zqm hbox
   have n0_:=zqm (below_step HB.out hb);have n1_:=zqm (blk_below HR.out hb);have n2_:=zqm (blk_below HZ.out hb);clear HB HR HZ;have HB:=n0_;have HR:=n1_;have HZ:=n2_;clear n0_ n1_ n2_
   clear hbox hb hg
   refine hK.out _ _ ⟨(HW.out.below HB.out).v,(blk_cell HZ.out 0).trans rfl⟩ (fun hHeld=>?_)
   clear hK K
   refine norm_ (a':=?_) ?_ ?_
   rotate_left
   ·show Act.put _ (some 5) _=_
    simp only [Act.put,List.setIfInBounds_toArray,List.set_cons_zero,List.set_cons_succ,i64_w,i32_w]
    rfl
   refine one_ (i:=4) (N:=some 12) (zqb 8 95) rfl rfl zqk (by decide) (fun K hK=>?_)
   refine goes_ Tryd.func37 zqk rfl #[.slice (some ad) 5 c,.string z0] (by rfl) rfl rfl zq38 ?_
   with_reducible refine(HI.out w4 ad c (HW.out.below HB.out)).mono ?_
   rintro e w' ⟨rfl,rfl⟩
   refine⟨_,rfl,?_⟩
   refine hK.out _ _ ⟨(HW.out.below HB.out).v,(blk_cell HZ.out 0).trans rfl⟩ (fun hHeld=>?_)
   clear hK K
   refine norm_ (a':=?_) ?_ ?_
   rotate_left
   ·show Act.put _ (some 12) _=_
    simp only [Act.put,List.setIfInBounds_toArray,List.set_cons_zero,List.set_cons_succ,i64_w,i32_w]
    rfl
   refine pure_ (i:=5) (N:=some 13) (v:=?_) (a':=?_) (zqb 8 127) rfl rfl zqk (fun _ _ _ h=>h) (Or.inl ⟨by rfl,?_⟩) ?_ ?_
   rotate_left
   ·intro w'
    go_simp
    with_reducible rfl
   rotate_left
   ·simp only [Act.put,List.setIfInBounds_toArray,List.set_cons_zero,List.set_cons_succ,i64_w,i32_w]
    rfl
   exact norm_ zq10 (hJ ga _ ⟨HR.out,HZ.out,HA.out,HGR.out,HGN.out,HGW.out,HB.out⟩)
 rintro ga w5 ⟨h0_,h1_,h2_,h3_,h4_,h5_,h6_⟩
 clear HB HR HZ hHeld
 have HR:=zqm h0_
 have HZ:=zqm h1_
 have HA:=zqm h2_
 have HGR:=zqm h3_
 have HGN:=zqm h4_
 have HGW:=zqm h5_
 have HB:=zqm h6_
 clear h0_ h1_ h2_ h3_ h4_ h5_ h6_
 refine norm_ (a':=?_) ?_ ?_
 rotate_left
 ·simp only [putAll,Act.put,List.setIfInBounds_toArray,List.set_cons_zero,List.set_cons_succ]
  rfl
 refine one_ (i:=7) (N:=none) (zqb 8 255) rfl rfl zqk (by decide) (fun K hK=>?_)
 have hs0:w5.cell? ⟨ga,0,none⟩=some (.int .i64 0):=(blk_cell HA.out 0).trans rfl
 have hf0:=blk_frozen HA.out 0
 have hs1:w5.cell? ⟨ga,1,none⟩=some (.int .i64 0):=(blk_cell HA.out 1).trans rfl
 have hf1:=blk_frozen HA.out 1
 have hs2:w5.cell? ⟨ga,2,none⟩=some (.int .i64 0):=(blk_cell HA.out 2).trans rfl
 have hf2:=blk_frozen HA.out 2
 refine skip_ (w1:=?_) (by rfl) rfl ?_ ?_
 rotate_left
 ·go_simp
  rfl
 clear hs0 hs1 hs2 hf0 hf1 hf2
 have n0_:=zqm ((below_set (below_set (below_set HB.out HGW.out) HGW.out) HGW.out:Below w.heap.size w (((w5.setCell ⟨ga,0,none⟩ (.int .i64 k)).setCell ⟨ga,1,none⟩ (.int .i64 0)).setCell ⟨ga,2,none⟩ (.int .i64 0))));have n1_:=zqm ((blk_far (blk_far (blk_far HR.out HGR.out _) HGR.out _) HGR.out _:(((w5.setCell ⟨ga,0,none⟩ (.int .i64 k)).setCell ⟨ga,1,none⟩ (.int .i64 0)).setCell ⟨ga,2,none⟩ (.int .i64 0)).heap[gr]? =_));have n2_:=zqm ((blk_far (blk_far (blk_far HZ.out HGN.out _) HGN.out _) HGN.out _:(((w5.setCell ⟨ga,0,none⟩ (.int .i64 k)).setCell ⟨ga,1,none⟩ (.int .i64 0)).setCell ⟨ga,2,none⟩ (.int .i64 0)).heap[N]? =_));have n3_:=zqm ((blk_put (blk_put (blk_put HA.out 0 _ rfl) 1 _ rfl) 2 _ rfl:(((w5.setCell ⟨ga,0,none⟩ (.int .i64 k)).setCell ⟨ga,1,none⟩ (.int .i64 0)).setCell ⟨ga,2,none⟩ (.int .i64 0)).heap[ga]? =some (.cells #[.int .i64 k,.int .i64 0,.int .i64 0] 25 (0,0))));clear HB HR HZ HA;have HB:=n0_;have HR:=n1_;have HZ:=n2_;have HA:=n3_;clear n0_ n1_ n2_ n3_
 generalize hw6:((w5.setCell ⟨ga,0,none⟩ (.int .i64 k)).setCell ⟨ga,1,none⟩ (.int .i64 0)).setCell ⟨ga,2,none⟩ (.int .i64 0)=w6 at HB HR HZ HA ⊢
 clear hw6
 refine hK.out _ _ ⟨(HW.out.below HB.out).v,(blk_cell HZ.out 0).trans rfl⟩ (fun hHeld=>?_)
 clear hK K hHeld
 refine done_ zqk ?_
 have tok0:True:=trivial
 have hz1:w6.cell? ⟨N,1,none⟩=some (.string z1):=(blk_cell HZ.out 1).trans rfl
 have hgr:=HGR.out
 have hgr':=Ne.symm HGR.out
 go_wp2_with (first|(have _t:=tok0;go_at_call 38;(with_reducible refine(HA1.out _ (HE.out.below HB.out)).mono ?_);rintro e w71 ⟨er,rfl,hb⟩;clear hz1;have n0_:=zqm (below_step HB.out hb);have n1_:=zqm (blk_below HR.out hb);have n2_:=zqm (blk_below HZ.out hb);have n3_:=zqm (blk_below HA.out hb);clear HB HR HZ HA;have HB:=n0_;have HR:=n1_;have HZ:=n2_;have HA:=n3_;clear n0_ n1_ n2_ n3_;have hfa:=blk_frozen HA.out 1;have ha:w71.cell? ⟨ga,1,none⟩=some (.int .i64 0):=(blk_cell HA.out 1).trans rfl;clear hb tok0 _t;have tok1:True:=trivial)|(have _t:=tok1;(with_reducible refine gate_store (t:=3) (p:=24) rfl ?_);refine store_event (t:=3) (p:=24) (v:=?vo_w81) (w1:=(w71.setCell ⟨ga,1,none⟩ (.int .i64 v1))) ?hg ?ho ?hn ?hr ?_;(case ho=>rfl);(case hg=>rfl);(case hn=>rfl);(case hr=> exact zq18);intro w81 hw;clear hfa ha;have n0_:=zqm ((by rw [hw];exact below_set HB.out HGW.out:Below w.heap.size w w81));have n1_:=zqm ((by rw [hw];exact blk_far HR.out HGR.out _:w81.heap[gr]? =some (.cells #[.int .i64 0,.int .i64 0,.int .i64 0] 25 (0,0))));have n2_:=zqm ((by rw [hw];exact blk_far HZ.out HGN.out _:w81.heap[N]? =some (.cells ((z0 :: z1 :: z2 :: zr:List ByteArray).map Value.string).toArray 9 (0,0))));have n3_:=zqm ((by rw [hw];exact blk_put HA.out 1 _ rfl:w81.heap[ga]? =some (.cells #[.int .i64 k,.int .i64 v1,.int .i64 0] 25 (0,0))));clear HB HR HZ HA;have HB:=n0_;have HR:=n1_;have HZ:=n2_;have HA:=n3_;clear n0_ n1_ n2_ n3_;clear hw;have hz2:w81.cell? ⟨N,2,none⟩=some (.string z2):=(blk_cell HZ.out 2).trans rfl;clear tok1 _t;have tok2:True:=trivial)|(have _t:=tok2;go_at_call 38;(with_reducible refine(HA2.out _ (HE.out.below HB.out)).mono ?_);rintro e w72 ⟨er,rfl,hb⟩;clear hz2;have n0_:=zqm (below_step HB.out hb);have n1_:=zqm (blk_below HR.out hb);have n2_:=zqm (blk_below HZ.out hb);have n3_:=zqm (blk_below HA.out hb);clear HB HR HZ HA;have HB:=n0_;have HR:=n1_;have HZ:=n2_;have HA:=n3_;clear n0_ n1_ n2_ n3_;have hfa:=blk_frozen HA.out 2;have ha:w72.cell? ⟨ga,2,none⟩=some (.int .i64 0):=(blk_cell HA.out 2).trans rfl;clear hb tok2 _t;have tok3:True:=trivial)|(have _t:=tok3;(with_reducible refine gate_store (t:=3) (p:=35) rfl ?_);refine store_event (t:=3) (p:=35) (v:=?vo_w82) (w1:=(w72.setCell ⟨ga,2,none⟩ (.int .i64 v2))) ?hg ?ho ?hn ?hr ?_;(case ho=>rfl);(case hg=>rfl);(case hn=>rfl);(case hr=> exact zq18);intro w82 hw;clear hfa ha;have n0_:=zqm ((by rw [hw];exact below_set HB.out HGW.out:Below w.heap.size w w82));have n1_:=zqm ((by rw [hw];exact blk_far HR.out HGR.out _:w82.heap[gr]? =some (.cells #[.int .i64 0,.int .i64 0,.int .i64 0] 25 (0,0))));have n2_:=zqm ((by rw [hw];exact blk_far HZ.out HGN.out _:w82.heap[N]? =some (.cells ((z0 :: z1 :: z2 :: zr:List ByteArray).map Value.string).toArray 9 (0,0))));have n3_:=zqm ((by rw [hw];exact blk_put HA.out 2 _ rfl:w82.heap[ga]? =some (.cells #[.int .i64 k,.int .i64 v1,.int .i64 v2] 25 (0,0))));clear HB HR HZ HA;have HB:=n0_;have HR:=n1_;have HZ:=n2_;have HA:=n3_;clear n0_ n1_ n2_ n3_;clear hw;have ha0:w82.cell? ⟨ga,0,none⟩=some (.int .i64 k):=(blk_cell HA.out 0).trans rfl;have ha1:w82.cell? ⟨ga,1,none⟩=some (.int .i64 v1):=(blk_cell HA.out 1).trans rfl;have ha2:w82.cell? ⟨ga,2,none⟩=some (.int .i64 v2):=(blk_cell HA.out 2).trans rfl;clear tok3 _t;have tok4:True:=trivial)|(have _t:=tok4;go_at_call 12;(with_reducible refine(HD.out _ (HW.out.below HB.out)).mono ?_);rintro e w9 ⟨rfl,hb⟩;clear ha0 ha1 ha2;have n0_:=zqm (below_step HB.out hb);have n1_:=zqm (blk_below HR.out hb);have n2_:=zqm (blk_below HA.out hb);clear HB HR HA;have HB:=n0_;have HR:=n1_;have HA:=n2_;clear n0_ n1_ n2_;clear hb;have ha0:w9.cell? ⟨ga,0,none⟩=some (.int .i64 k):=(blk_cell HA.out 0).trans rfl;have ha1:w9.cell? ⟨ga,1,none⟩=some (.int .i64 v1):=(blk_cell HA.out 1).trans rfl;have ha2:w9.cell? ⟨ga,2,none⟩=some (.int .i64 v2):=(blk_cell HA.out 2).trans rfl;have hr0:w9.cell? ⟨gr,0,none⟩=some (.int .i64 0):=(blk_cell HR.out 0).trans rfl;have hrf0:=blk_frozen HR.out 0;have hr1:w9.cell? ⟨gr,1,none⟩=some (.int .i64 0):=(blk_cell HR.out 1).trans rfl;have hrf1:=blk_frozen HR.out 1;have hr2:w9.cell? ⟨gr,2,none⟩=some (.int .i64 0):=(blk_cell HR.out 2).trans rfl;have hrf2:=blk_frozen HR.out 2;clear tok4 _t))
 refine bodyPost_ret (results_ct rfl _ _ gr 25 #[.int .i64 k,.int .i64 v1,.int .i64 v2] (0,0) _ rfl zq69 Tryd.underlying25 rfl zqk) rfl ?_
 exact⟨rfl,zq48⟩
theorem cutK_mem : ∀ (l cur p : List UInt8), p ∈ cutK cur l → p.length ≤ cur.length + l.length
 | [],cur,p,h=>by
  rw [cutK,List.mem_singleton] at h
  rw [h];simp
 |c :: r,cur,p,h=>by
  rw [cutK] at h
  by_cases hc:c=32
  ·rw [if_pos hc] at h
   rcases List.mem_cons.1 h with e|h
   ·rw [e];omega
   ·have:=cutK_mem r [] p h
    simp only [List.length_cons,List.length_nil] at this ⊢;omega
  ·rw [if_neg hc] at h
   have:=cutK_mem r _ p h
   simp only [List.length_append,List.length_cons,List.length_nil] at this ⊢;omega
theorem pcs_mem {s z : ByteArray} (h : z ∈ pcs s) : z.size ≤ s.size := by
 unfold pcs at h
 obtain⟨p,hp,rfl⟩:=List.mem_map.1 h
 have:=cutK_mem _ _ _ hp
 rw [ba_size,Lib.size_eq]
 simpa using this
theorem read_calls (s : ByteArray) (w : World) (ad : Addr) (c : Nat) (hW : WordsAt w ad c) (hE : ErrsAt w) (hs : s.size < 4294967281) :
 Calls Tryd.prog 19 #[.string s] w fun e w'=>e= .returned (.tuple #[.agg #[.int .i64 (rdD s).1,.int .i64 (rdD s).2.1,.int .i64 (rdD s).2.2.1],.bool (rdD s).2.2.2])∧Below w.heap.size w w':=by
 have hm: ∀z,z ∈ pcs s→z.size≤281474976710656:=fun z h=>Nat.le_trans (pcs_mem h) (by omega)
 have hl:=pcs_len s
 have no:s.data.toList= []∨ ¬(deedT (pK s) (pA s) (pB s)).data.toList=s.data.toList→rdD s=(0,0,0,false):=fun h=>by
  unfold rdD rdB
  rw [if_neg]
  simp only [Bool.and_eq_true,decide_eq_true_eq]
  rintro ⟨h1,h2⟩
  rcases h with h|h
  ·exact h1 h
  ·exact h h2
 have yes: ¬s.data.toList= []→deedT (pK s) (pA s) (pB s)=s→rdD s=(pK s,pA s,pB s,true):=fun h1 h2=>by
  unfold rdD rdB
  rw [if_pos]
  simp only [Bool.and_eq_true,decide_eq_true_eq]
  exact⟨h1,by rw [h2]⟩
 by_cases he:s.data.toList= []
 ·rw [no (.inl he)]
  have h0:s.size=0:=by rw [Lib.size_eq,he];rfl
  cases hz:pcs s with
  |nil=>rw [hz] at hl;exact absurd hl.1 (by simp)
  |cons z0 r=>
   cases r with
   |nil=>exact read1e s z0 hz w ad c hW hE hs he
   |cons z1 r=>rw [hz] at hl;simp only [List.length_cons] at hl;omega
 ·by_cases hd:(deedT (pK s) (pA s) (pB s)).data.toList=s.data.toList
  ·have hd:=ba_ext hd
   rw [yes he hd]
   clear no yes
   cases hz:pcs s with
   |nil=>rw [hz] at hl;exact absurd hl.1 (by simp)
   |cons z0 r=>
    rw [hz] at hm
    unfold pK pA pB at hd ⊢
    rw [hz] at hd ⊢
    cases r with
    |nil=>exact read1y s z0 hz w ad c hW hE hs he hd
    |cons z1 r=>
     cases r with
     |nil=>exact read2y s z0 z1 hz w ad c hW hE hs (hm _ (by simp)) he hd
     |cons z2 r=>
      have l1:1<(z0 :: z1 :: z2 :: r).length:=by simp
      have l2:2<(z0 :: z1 :: z2 :: r).length:=by simp
      rw [if_pos l1,if_pos l2] at hd ⊢
      exact read3y s z0 z1 z2 r hz w ad c hW hE hs (hm _ (by simp)) (hm _ (by simp)) he hd
  ·rw [no (.inr hd)]
   clear no yes
   cases hz:pcs s with
   |nil=>rw [hz] at hl;exact absurd hl.1 (by simp)
   |cons z0 r=>
    rw [hz] at hm
    unfold pK pA pB at hd
    rw [hz] at hd
    cases r with
    |nil=>exact read1n s z0 hz w ad c hW hE hs he hd
    |cons z1 r=>
     cases r with
     |nil=>exact read2n s z0 z1 hz w ad c hW hE hs (hm _ (by simp)) he hd
     |cons z2 r=>
      have l1:1<(z0 :: z1 :: z2 :: r).length:=by simp
      have l2:2<(z0 :: z1 :: z2 :: r).length:=by simp
      rw [if_pos l1,if_pos l2] at hd
      exact read3n s z0 z1 z2 r hz w ad c hW hE hs (hm _ (by simp)) (hm _ (by simp)) he hd
end Go.Proofs.YtddgcdpogpppgaaDoor.Print
end
