/- Part 8 of what is common to several claims of this seat: XL. -/
import Derived.Test.YtddgcdpogpppgaaDoorLA7
import Derived.Below
import Derived.Deep.Draws
import Derived.Deep.AppendLies
import Derived.Maps.AppendAt
import Derived.OwnWalk
import Derived.Laws.BytesArg
import Derived.Laws.MakeOwn
import Derived.Laws.OwnMore
import Derived.Deep.OwnRows
import Derived.Tactics
import Derived.Lib.ConvBytes
import Derived.Laws.Slices
import Derived.WalkKit
import Derived.KernelRfl
import Derived.RowKit3
import Derived.Deep.LoopGhost
import Derived.Deep.QuietTactic
import Derived.BigQuiet
import Derived.WideLaws
import Derived.Deep.DeepCutAuto
import Derived.Deep.CutBlock
import Derived.Deep.RegionHeld3
import Derived.Laws.Rows
import Derived.Lib.AppendStr
import Derived.ArgAppend
import Derived.Laws.IdiomCopy
import Derived.RowKit
import Derived.OrdersHeld
import Derived.Laws.BitsLemmas
import Derived.Laws.StructEq
import Derived.Test.YtddgcdpogpppgaaDoorProg
import Derived.Lib.ItoaNum
import Derived.Lib.Strings
import Derived.Shelf.Utf8.RuneCount
import Derived.Shelf.Strconv.Atoi
import Derived.Shelf.Strconv.Itoa0
import Derived.Shelf.Strconv.Itoa1
import Derived.Shelf.LaysM
import Derived.Shelf.Strconv.Itoa2
import Derived.Shelf.Strconv.Itoa3
import Derived.Shelf.Strconv.AtoiErrFast
import Derived.Shelf.Strconv.ParseIntEmpty
import Derived.Shelf.Strconv.AtoiFail
import Derived.Shelf.Strconv.Clone
import Derived.Shelf.Strconv.SyntaxError
import Derived.Shelf.LaysC
import Derived.Shelf.Strconv.ToError
import Derived.Shelf.Strconv.Lower
import Derived.Shelf.Strconv.ParseUint10
import Derived.Shelf.Strconv.ParseUint10Empty
import Derived.Shelf.Strconv.ParseUint10Any
import Derived.Shelf.Strconv.ParseInt10
import Derived.Shelf.Strconv.AtoiLong
import Derived.Shelf.Strconv.AtoiInnerAll
import Derived.Shelf.Strconv.RangeError
import Derived.Shelf.Strconv.ToErrorRange
import Derived.Shelf.Strconv.AtoiAll
import Derived.Shelf.Strconv.ErrVarAll
import Derived.Shelf.Strings.Search1
import Derived.Shelf.Strings.Search2
import Derived.Shelf.Strings.Search3
import Derived.Shelf.Strings.Cut
import Derived.Shelf.Strings.Count
import Derived.Shelf.Strings.Shaped
import Derived.Shelf.Strings.Split
import Derived.Shelf.Strings.SplitShaped
import Derived.Shelf.Unicode.Decode
import Derived.Shelf.Strings.RuneCount
import Derived.Shelf.Strings.Explode
import Derived.Shelf.Unicode.DecodeSlow
import Derived.Shelf.Unicode.DecodeAny
import Derived.Shelf.Slices.Turned
import Derived.ProofKit
import Derived.OpenShut
import Derived.LaidMore
import Derived.Lay
import Derived.ChangeVars
import Derived.Lib.LaidU8
import Derived.Lib.SmallJoins
import Derived.Deep.DeepHandedRow
import Derived.Lib.SplitLaws
import Derived.Lib.SlicesS
import Derived.Lib.AtoiAll
import Derived.Lib.IndexBytes
import Derived.LaidLaws
set_option linter.all false
section
namespace Go.Proofs.YtddgcdpogpppgaaDoor.Print
open Go.RowKit Go.Proofs.YtddgcdpogpppgaaDoorW.PrintWords Go.Proofs.YtddgcdpogpppgaaDoorW.PrintLast Go.Proofs.YtddgcdpogpppgaaDoorW.PrintMore
open Oml Go.ChangeShapes Go.WideShapes Go.ChangeAt Go.Joins
theorem err_in {W : World} {l : List (String × DataW Unit)} (h : laidMet Tryd.prog l W) {n nm : String} {d : DataW Unit} {g : Nat} (hg : Tryd.prog.globalNamed n = some g) (ht : (Tryd.prog.globals[g]?).map (·.type) = some 56) (hm : (n, DataW.iface nm d) ∈ l) : ∃ te pe, W.cell? ⟨g, 0, none⟩ = some (.iface te pe) := by
 obtain⟨g2,t,cs,fuel,p,hg2,ht2,hv,hd⟩:=Lib.laidMet.reads h hm
 obtain rfl:=Option.some.inj (hg.symm.trans hg2)
 obtain rfl:=Option.some.inj (ht.symm.trans ht2)
 obtain⟨_,u,v,hcs,_,_⟩:=iface_of_trod Tryd.underlying56 hd
 have hcs':cs= #[.iface u v]:=by cases cs;simp_all
 subst hcs'
 exact⟨u,v,by simpa using World.var?_cell hg hv 0⟩
theorem maxlen_in {W : World} (h : W.ShapedOpen Tryd.prog) : ∃ m, W.cell? ⟨3, 0, none⟩ = some (.int .i64 m) :=
 Go.Proofs.cell_of_shapedOpen_int (zero:= #[.int .i64 0]) (t:=3) h (of_decide_eq_true zqk) zqk rfl zqk zqk Tryd.underlying3
end Go.Proofs.YtddgcdpogpppgaaDoor.Print
end
section
namespace Go.Proofs.YtddgcdpogpppgaaDoor.Print
open Go.RowKit Go.Proofs.YtddgcdpogpppgaaDoorW.PrintWords Go.Proofs.YtddgcdpogpppgaaDoorW.PrintLast Go.Proofs.YtddgcdpogpppgaaDoorW.PrintMore
section
attribute [local go_sem] max2_int min2_int max_two min_two max_three min_three max_four min_four
def spec_ReadJournal.l0 : Nat → ByteArray → List (S25) → Int → Int → Option ((List (S25)) × Int)
 | 0, _, _, _, _ => none
 | k + 1, x0, x4, x5, x6 => if x6 < (x0.size : Int) then (if 0 ≤ x6 then (if (bt x0 x6) = 10 then (if 0 ≤ x5 then (if x5 ≤ x6 then (if x6 ≤ (x0.size : Int) then ((spec_ReadDeed.f k (x0.extract (x5 : Int).toNat (x6 : Int).toNat)).bind fun bt241 => (if bt241.2.2.2 = true then (if x4.length < 5864062014805 then (spec_ReadJournal.l0 k x0 (x4 ++ [(⟨bt241.1, bt241.2.1, bt241.2.2.1⟩ : S25)]) (wrap64 (x6 + 1)) (wrap64 (x6 + 1))) else (none)) else (some (x4, x5)))) else (none)) else (none)) else (none)) else (spec_ReadJournal.l0 k x0 x4 x5 (wrap64 (x6 + 1)))) else (none)) else (some (x4, x5))
def spec_ReadJournal.f (k : Nat) (a0 : ByteArray) : Option ((List (S25)) × Int) := spec_ReadJournal.l0 k a0 (([] : List (S25))) 0 0
set_option maxHeartbeats 8000000 in
set_option maxRecDepth 100000 in
theorem spec_ReadJournal.calls (k : Nat) (a0 : ByteArray) (r1 : List (S25)) (r2 : Int) (w : World) (h : spec_ReadJournal.f k a0 = some (r1, r2)) :
  Calls Tryd.prog 21 #[.string a0] w fun e w' => ∃ v0_ : Value, e = .returned (.tuple #[v0_, .int .i64 r2]) ∧ Kd.R k25 25 w' w.heap.size (fun _ => True) v0_ r1 ∧ Below w.heap.size w w' := by
 have hu25:=Tryd.underlying25;have HB:=zqm (Below.refl w.heap.size w);have H:(spec_ReadJournal.l0 k a0 (([]:List (S25))) 0 0)=some (r1,r2):=h;clear h;obtain⟨c6,b0⟩: ∃y_:List (S25),y_=(([]:List (S25))):=⟨_,rfl⟩;replace H:(spec_ReadJournal.l0 k a0 c6 0 0)=some (r1,r2):=zqy b0 H;have b6:=zqm b0;clear b0;have H':=zqm H;clear H
 go_enter Tryd.func21,Tryd.ntmps21
 go_wp2_with (first|((with_reducible refine gate_dst (N:=9) rfl ?_);refine Kd.R_lit k25 _ 25 ?hg (N:=9) ?hd (xs:=([]:List (S25))) (inner:= []) (ok:=fun _=>True) (okp:=fun _=>True) ?hr ?hp (fun _ hk=>hk) trivial (Below.refl _ _) (Nat.le_refl _) (by simp) ?_;(case hd=>rfl);(case hg=>rfl);(case hr=> exact zq5);(case hp=>exact(Reps.none _ _));intro f9 w2 b3 hb hg_ hnew_;clear hg_ hnew_;(first|rw [← b6.out] at b3|(simp only [Int.reduceToNat] at b3;rw [← b6.out] at b3));have d2:=zqm (Kd.R_lower b3 (below_size zq0));replace HB:=zqm (below_step zq0 hb);clear hb b3))
 go_loopg [4,5,6] k (fun kq v4 v5 v6 w'=> ∃(a7:List (S25)) (a6:Int) (a1:Int),v5= .int .i64 a6∧v6= .int .i64 a1∧Aside0 (spec_ReadJournal.l0 kq a0 a7 a6 a1=some (r1,r2))∧Aside0 (kq≤k)∧Aside0 (Kd.R k25 25 w' w.heap.size (fun _=>True) v4 a7)∧Aside0 (Below w.heap.size w w'))
 case atStart=>exact⟨(c6),(0),(0),zq7,zq7,H',⟨Nat.le_refl _⟩,⟨zqfR d2.out⟩,⟨zq0⟩⟩
 case round=>
  clear H';(try clear c2);(try clear p2);obtain⟨a7,a6,a1,rfl,rfl,HA,b5,HO_4,HB⟩:=hrel
  cases gk with
  |zero=>exact absurd HA.out (by simp [spec_ReadJournal.l0])
  |succ k1=>
   have H:=HA.out;clear HA;simp only [spec_ReadJournal.l0] at H
   by_cases c4:a1<(a0.size:Int)
   ·rw [if_pos c4] at H;have d7:decide (a1<(a0.size:Int))=true:=decide_eq_true c4;clear c4
    by_cases c5:0≤a1
    ·rw [if_pos c5] at H;have f4:decide (0≤a1)=true:=decide_eq_true c5;clear c5
     by_cases c7:(bt a0 a1)=10
     ·rw [if_pos c7] at H;have d8:((bt a0 a1)==10)=true:=beq_iff_eq.mpr c7;have d9:((bt a0 a1) !=10)=false:=bne_eq_false_iff_eq.mpr c7;clear c7
      by_cases c8:0≤a6
      ·rw [if_pos c8] at H;have f5:=eq_true c8;have f6:decide (0≤a6)=true:=decide_eq_true c8;clear c8
       by_cases c9:a6≤a1
       ·rw [if_pos c9] at H;have f7:=eq_true c9;have f8:decide (a6≤a1)=true:=decide_eq_true c9;clear c9
        by_cases b2:a1≤(a0.size:Int)
        ·rw [if_pos b2] at H;have f2:=eq_true b2;have f3:decide (a1≤(a0.size:Int))=true:=decide_eq_true b2;clear b2;replace H:=Option.bind_eq_some_iff.mp H;obtain⟨⟨a4,a5,a8,c0⟩,b9,H⟩:=H;replace H:(if c0=true then(if a7.length<5864062014805 then(spec_ReadJournal.l0 k1 a0 (a7 ++ [(⟨a4,a5,a8⟩:S25)]) (wrap64 (a1+1)) (wrap64 (a1+1))) else(none)) else(some (a7,a6)))=some (r1,r2):=H;have d5:=zqm b9;clear b9
         by_cases b7:c0=true
         ·subst b7;(have H1:(if a7.length<5864062014805 then(spec_ReadJournal.l0 k1 a0 (a7 ++ [(⟨a4,a5,a8⟩:S25)]) (wrap64 (a1+1)) (wrap64 (a1+1))) else(none))=some (r1,r2):=by rw [if_pos rfl] at H;exact H);clear H;have H:=H1;clear H1
          by_cases b8:a7.length<5864062014805
          ·rw [if_pos b8] at H;have LMc13:=zqm b8;clear b8;obtain⟨d0,b1⟩: ∃y_:List (S25),y_=(a7 ++ [(⟨a4,a5,a8⟩:S25)]):=⟨_,rfl⟩;replace H:(spec_ReadJournal.l0 k1 a0 d0 (wrap64 (a1+1)) (wrap64 (a1+1)))=some (r1,r2):=zqy b1 H;have d4:=zqm b1;clear b1;have H':=zqm H;clear H;have p6:0≤(a1:Int):=zqo;have q6:a1<(a0.size:Int):=zqo;have d6:=bt_at a0 a1;replace p6:=eq_true p6;replace q6:=eq_true q6
           go_wp2_with (first|((with_reducible refine gate_callee (f:=18) rfl ?_);refine goesL_ (some 25) rfl rfl Tryd.func18 zqk rfl #[.string (a0.extract (a6:Int).toNat (a1:Int).toNat)] rfl zq4 ?_;(with_reducible refine(spec_ReadDeed.calls k1 (a0.extract (a6:Int).toNat (a1:Int).toNat) a4 a5 a8 true _ d5.out).mono ?_);rintro e g1 ⟨rfl,hb⟩;refine⟨_,rfl,?_⟩;replace HO_4:=zqm (Kd.R_below (zqfR HO_4.out) hb);replace HB:=zqm (below_step zq0 hb);clear hb)|((with_reducible refine gate_dst (N:=7) rfl ?_);refine box_event ?hg (N:=7) ?hd (cs:= #[.int .i64 0,.int .i64 0,.int .i64 0]) (t:=25) ?hr ?_;(case hd=>rfl);(case hg=>rfl);(case hr=> exact zq5);intro a2 hg c1 hbox hb;replace HO_4:=zqm (Kd.R_below (Kd.R_elderB (zqfR HO_4.out) a2 (Nat.le_of_eq hg.symm)) hb);have b4:=zqm (below_step zq0 hb);have a3:=zqm (hbox);have d1:=zqm ((by rw [hg];exact(below_size zq0):w.heap.size≤a2));have a9:=zqm ((by rw [hg];exact(below_size zq0):w.heap.size≤a2));clear HB;have HB:=b4;clear b4 hb hbox hg;have e0:c1.cell? ⟨a2,0,none⟩=some (.int .i64 0):=(blk_cell a3.out 0).trans rfl;have e1:c1.cell? ⟨a2,1,none⟩=some (.int .i64 0):=(blk_cell a3.out 1).trans rfl;have e2:c1.cell? ⟨a2,2,none⟩=some (.int .i64 0):=(blk_cell a3.out 2).trans rfl;have e6:=blk_frozen a3.out 0;have e7:=blk_frozen a3.out 1;have e8:=blk_frozen a3.out 2)|((with_reducible refine gate_builtin (b:= .append) (xs:= #[.tmp 32,.tmp 34]) rfl ?_);at_builtin;refine Kd.R_append k25 (w0:=w) w.heap.size rfl (.tmp 32) (.tmp 34) 31 25 (.agg #[(.int .i64 0),(.int .i64 0),(.int .i64 0)]) 24 rfl Tryd.underlying31 info25 rfl (by decide) (by omega) u4 a7 (⟨a4,a5,a8⟩:S25) [.int .i64 a4,.int .i64 a5,.int .i64 a8] (fun k_=>k_≠a2) (fun _=>False) rfl zq5 ?aP (fun _ hk=>hk.elim) ?aF ?aO ?aB ?aS ?aL ?_;(case aP=>exact k25_mkM _ _ _ (⟨a4,a5,a8⟩:S25));(case aB=>exact zq18);(case aF=>exact(fun k_ hk=>Kd.freshB (g:=a2) (o:= .cells #[.int .i64 a4,.int .i64 a5,.int .i64 a8] 25 (0,0)) zq19 k_ hk));(case aO=>exact(by refine zqfR ?_;exact Kd.R_mono (Kd.R_far (p:=⟨a2,2,none⟩) (Kd.R_far (p:=⟨a2,1,none⟩) (Kd.R_far (p:=⟨a2,0,none⟩) (Kd.R_mono HO_4.out (fun k_ hk=>(⟨hk,hk.2⟩:_∧k_≠a2))) (fun _ hk=>hk.2) (.int .i64 a4)) (fun _ hk=>hk.2) (.int .i64 a5)) (fun _ hk=>hk.2) (.int .i64 a8)) (fun _ hk=>hk.1.2)));(case aS=>exact(below_size zq18));(case aL=>have:=LMc13.out;omega);intro g0 g2 ho hb hg hat;rw [← d4.out] at ho;replace a3:=zqm (blk_grown (g:=a2) (o:= .cells #[.int .i64 a4,.int .i64 a5,.int .i64 a8] 25 (0,0)) zq19 hg (Kd.R_away HO_4.out (fun _ hk=>hk.2)));replace HB:=zqm (hb);have d3:=zqm (ho);clear HO_4;clear ho hb hg hat))
           go_roundg k1
           (case measure=>have:=b5.out;omega);case rel=>exact⟨(d0),(wrap64 (a1+1)),(wrap64 (a1+1)),zq7,zq7,H',⟨by have:=b5.out;omega⟩,⟨by refine zqfR ?_;exact Kd.R_mono d3.out (fun _ hk=>trivial)⟩,⟨zq18⟩⟩
          ·rw [if_neg b8] at H;exact absurd H (by simp)
         ·replace b7:=Bool.eq_false_iff.mpr b7;subst b7;(have H1:(some (a7,a6))=some (r1,r2):=by rw [if_neg (show¬(false=true) by decide)] at H;exact H);clear H;have H:=H1;clear H1;simp only [Option.some.injEq,Prod.mk.injEq] at H;obtain⟨rfl,rfl⟩:=H;have p6:0≤(a1:Int):=zqo;have q6:a1<(a0.size:Int):=zqo;have d6:=bt_at a0 a1;replace p6:=eq_true p6;replace q6:=eq_true q6
          go_wp2_with (first|((with_reducible refine gate_callee (f:=18) rfl ?_);refine goesL_ (some 25) rfl rfl Tryd.func18 zqk rfl #[.string (a0.extract (a6:Int).toNat (a1:Int).toNat)] rfl zq4 ?_;(with_reducible refine(spec_ReadDeed.calls k1 (a0.extract (a6:Int).toNat (a1:Int).toNat) a4 a5 a8 false _ d5.out).mono ?_);rintro e g3 ⟨rfl,hb⟩;refine⟨_,rfl,?_⟩;replace HO_4:=zqm (Kd.R_below (zqfR HO_4.out) hb);replace HB:=zqm (below_step zq0 hb);clear hb)|((with_reducible refine gate_dst (N:=7) rfl ?_);refine box_event ?hg (N:=7) ?hd (cs:= #[.int .i64 0,.int .i64 0,.int .i64 0]) (t:=25) ?hr ?_;(case hd=>rfl);(case hg=>rfl);(case hr=> exact zq5);intro a2 hg c3 hbox hb;replace HO_4:=zqm (Kd.R_below (Kd.R_elderB (zqfR HO_4.out) a2 (Nat.le_of_eq hg.symm)) hb);have b4:=zqm (below_step zq0 hb);have a3:=zqm (hbox);have d1:=zqm ((by rw [hg];exact(below_size zq0):w.heap.size≤a2));have a9:=zqm ((by rw [hg];exact(below_size zq0):w.heap.size≤a2));clear HB;have HB:=b4;clear b4 hb hbox hg;have e3:c3.cell? ⟨a2,0,none⟩=some (.int .i64 0):=(blk_cell a3.out 0).trans rfl;have e4:c3.cell? ⟨a2,1,none⟩=some (.int .i64 0):=(blk_cell a3.out 1).trans rfl;have e5:c3.cell? ⟨a2,2,none⟩=some (.int .i64 0):=(blk_cell a3.out 2).trans rfl;have e9:=blk_frozen a3.out 0;have f0:=blk_frozen a3.out 1;have f1:=blk_frozen a3.out 2))
          go_ret2
          exact⟨_,zq6,by refine zqfR ?_;exact Kd.R_mono (Kd.R_far (p:=⟨a2,2,none⟩) (Kd.R_far (p:=⟨a2,1,none⟩) (Kd.R_far (p:=⟨a2,0,none⟩) (Kd.R_mono HO_4.out (fun k_ hk=>(⟨hk,hk.2⟩:_∧k_≠a2))) (fun _ hk=>hk.2) (.int .i64 a4)) (fun _ hk=>hk.2) (.int .i64 a5)) (fun _ hk=>hk.2) (.int .i64 a8)) (fun _ hk=>trivial),zq18⟩
        ·rw [if_neg b2] at H;exact absurd H (by simp)
       ·rw [if_neg c9] at H;exact absurd H (by simp)
      ·rw [if_neg c8] at H;exact absurd H (by simp)
     ·rw [if_neg c7] at H;have d8:((bt a0 a1)==10)=false:=beq_eq_false_iff_ne.mpr c7;have d9:((bt a0 a1) !=10)=true:=bne_iff_ne.mpr c7;have H':=zqm H;clear H;have p6:0≤(a1:Int):=zqo;have q6:a1<(a0.size:Int):=zqo;have d6:=bt_at a0 a1;replace p6:=eq_true p6;replace q6:=eq_true q6
      go_wp2
      go_roundg k1
      (case measure=>have:=b5.out;omega);case rel=>exact⟨(a7),(a6),(wrap64 (a1+1)),zq7,zq7,H',⟨by have:=b5.out;omega⟩,⟨zqfR HO_4.out⟩,⟨zq0⟩⟩
    ·rw [if_neg c5] at H;exact absurd H (by simp)
   ·rw [if_neg c4] at H;have d7:decide (a1<(a0.size:Int))=false:=decide_eq_false c4;clear c4;simp only [Option.some.injEq,Prod.mk.injEq] at H;obtain⟨rfl,rfl⟩:=H
    go_wp2
    go_ret2
    exact⟨_,zq6,zqfR HO_4.out,zq0⟩
end
end Go.Proofs.YtddgcdpogpppgaaDoor.Print
end
section
namespace Go.Proofs.YtddgcdpogpppgaaDoor.Print
open Go.RowKit Go.Proofs.YtddgcdpogpppgaaDoorW.PrintWords Go.Proofs.YtddgcdpogpppgaaDoorW.PrintLast Go.Proofs.YtddgcdpogpppgaaDoorW.PrintMore
open Oml
theorem idc_pre (x : UInt8) (q : List UInt8) : ∀ (p : List UInt8), x ∉ p → Lib.index (p ++ x :: q) [x] = (p.length : Int) := by
 intro p
 rw [Lib.index_one]
 induction p with
 |nil=>intro _;simp [Lib.indexByte]
 |cons c r ih=>
  intro h
  have h1: ¬c=x:=fun e=>h (by rw [e];exact List.mem_cons_self)
  have h2:=ih (fun e=>h (List.mem_cons_of_mem _ e))
  rw [List.cons_append,Lib.indexByte,if_neg (by simpa using h1),h2,if_neg (by rw [beq_iff_eq];omega),List.length_cons]
  omega
theorem idc_none (x : UInt8) : ∀ (p : List UInt8), x ∉ p → Lib.index p [x] = -1 := by
 intro p
 rw [Lib.index_one]
 induction p with
 |nil=>intro _;simp [Lib.indexByte]
 |cons c r ih=>
  intro h
  have h1: ¬c=x:=fun e=>h (by rw [e];exact List.mem_cons_self)
  rw [Lib.indexByte,if_neg (by simpa using h1),ih (fun e=>h (List.mem_cons_of_mem _ e)),if_pos (by rfl)]
def dS (s : ByteArray) : S25 := ⟨(rdD s).1, (rdD s).2.1, (rdD s).2.2.1⟩
def okS (s : ByteArray) : Bool := (rdD s).2.2.2
def jrn : List UInt8 → List UInt8 → List S25 × Nat
 |_,[]=>([],0)
 |cur,c :: r=>if c=10 then(if okS ⟨cur.toArray⟩=true then(dS ⟨cur.toArray⟩ :: (jrn [] r).1,cur.length+1+(jrn [] r).2) else([],0)) else jrn (cur ++ [c]) r
theorem jrn_none : ∀ (p cur : List UInt8), (10 : UInt8) ∉ p → jrn cur p = ([], 0)
 | [],cur,_=>by rw [jrn]
 |c :: r,cur,h=>by
  have h1: ¬c=10:=fun e=>h (by rw [e];exact List.mem_cons_self)
  rw [jrn,if_neg h1,jrn_none r _ (fun e=>h (List.mem_cons_of_mem _ e))]
theorem jrn_pre (q : List UInt8) : ∀ (p cur : List UInt8), (10 : UInt8) ∉ p → jrn cur (p ++ 10 :: q) = if okS ⟨(cur ++ p).toArray⟩ = true then (dS ⟨(cur ++ p).toArray⟩ :: (jrn [] q).1, (cur ++ p).length + 1 + (jrn [] q).2) else ([], 0)
 | [],cur,_=>by rw [List.nil_append,jrn,if_pos rfl,List.append_nil]
 |c :: r,cur,h=>by
  have h1: ¬c=10:=fun e=>h (by rw [e];exact List.mem_cons_self)
  rw [List.cons_append,jrn,if_neg h1,jrn_pre q r _ (fun e=>h (List.mem_cons_of_mem _ e)),List.append_assoc];rfl
theorem jrn_len : ∀ (p cur : List UInt8), (jrn cur p).1.length ≤ p.length
 | [],cur=>by rw [jrn];exact Nat.le_refl _
 |c :: r,cur=>by
  rw [jrn]
  split
  ·split
   ·have:=jrn_len r []
    simp only [List.length_cons];omega
   ·exact Nat.zero_le _
  ·have:=jrn_len r (cur ++ [c])
   simp only [List.length_cons];omega
def rdJ (s : ByteArray) : List S25 × Int := ((jrn [] s.data.toList).1, ((jrn [] s.data.toList).2 : Int))
theorem spec_ReadJournal.loop_ev (s : ByteArray) (hs : s.size ≤ 1099511627776) : ∀ m i f (out : List S25), i + m = s.size → f ≤ i → out.length ≤ i →
 Ev (fun k=>spec_ReadJournal.l0 k s out (f:Int) (i:Int)) (out ++ (jrn ((s.data.toList.drop f).take (i - f)) (s.data.toList.drop i)).1,(f:Int)+((jrn ((s.data.toList.drop f).take (i - f)) (s.data.toList.drop i)).2:Int)):=by
 intro m
 induction m with
 |zero=>
  intro i f out h hf ho
  have e:s.data.toList.drop i= []:=by rw [show i=s.data.toList.length by rw [← Lib.size_eq];omega];simp
  rw [e,jrn,List.append_nil]
  refine Ev.succ ?_
  simp only [spec_ReadJournal.l0]
  exact Ev.ite_neg (by omega) (Ev.eq (Ev.now _) (by simp))
 |succ m ih=>
  intro i f out h hf ho
  have hi:i<s.size:=by omega
  have hil:i<s.data.toList.length:=by rw [← Lib.size_eq];exact hi
  have ed:s.data.toList.drop i=s.data.toList[i] :: s.data.toList.drop (i+1):=(List.getElem_cons_drop (h:=hil)).symm
  have e1:wrap64 ((i:Int)+1)=((i+1:Nat):Int):=wrap_nat (by omega)
  rw [ed,jrn]
  refine Ev.succ ?_
  simp only [spec_ReadJournal.l0,e1,Int.toNat_natCast]
  refine Ev.ite_pos (by omega) (Ev.ite_pos (by omega) ?_)
  by_cases hc:s.data.toList[i]=10
  ·rw [if_pos hc]
   have hx:s.extract f i=⟨((s.data.toList.drop f).take (i - f)).toArray⟩:=ba_ext (by rw [Lib.extract_data])
   have hxs:(s.extract f i).size≤1099511627776:=by rw [ByteArray.size_extract];omega
   have hxl:((s.data.toList.drop f).take (i - f)).length=i - f:=by rw [List.length_take,List.length_drop];omega
   refine Ev.ite_pos (by rw [bt_nat s i hil,hc];rfl) (Ev.ite_pos (by omega) (Ev.ite_pos (by omega) (Ev.ite_pos (by omega) (Ev.bind (spec_ReadDeed.ev _ hxs) ?_))))
   rw [hx]
   by_cases ho2:okS ⟨((s.data.toList.drop f).take (i - f)).toArray⟩=true
   ·rw [if_pos ho2]
    refine Ev.ite_pos ho2 (Ev.ite_pos (by omega) ?_)
    have h2:=ih (i+1) (i+1) (out ++ [dS ⟨((s.data.toList.drop f).take (i - f)).toArray⟩]) (by omega) (Nat.le_refl _) (by simp only [List.length_append,List.length_cons,List.length_nil];omega)
    rw [Nat.sub_self,List.take_zero,List.append_assoc] at h2
    refine Ev.eq h2 ?_
    rw [hxl]
    refine Prod.ext rfl ?_
    simp only []
    omega
   ·rw [if_neg ho2]
    refine Ev.ite_neg ho2 (Ev.eq (Ev.now _) (by simp))
  ·rw [if_neg hc]
   have h2:=ih (i+1) f out (by omega) (by omega) (by omega)
   have e:(s.data.toList.drop f).take (i+1 - f)=(s.data.toList.drop f).take (i - f) ++ [s.data.toList[i]]:=by
    rw [show i+1 - f=(i - f)+1 by omega,List.take_add_one]
    congr 1
    rw [List.getElem?_drop,show f+(i - f)=i by omega,List.getElem?_eq_getElem hil];rfl
   rw [e] at h2
   refine Ev.ite_neg ?_ h2
   rw [bt_nat s i hil]
   intro e
   refine hc (UInt8.toNat_inj.1 ?_)
   have e2:(s.data.toList[i]).toNat=10:=by omega
   rw [e2];rfl
theorem spec_ReadJournal.ev (s : ByteArray) (hs : s.size ≤ 1099511627776) : Ev (fun k => spec_ReadJournal.f k s) (rdJ s) := by
 have h:=spec_ReadJournal.loop_ev s hs s.size 0 0 [] (by omega) (Nat.le_refl _) (Nat.zero_le _)
 rw [List.drop_zero,Nat.sub_self,List.take_zero,List.nil_append] at h
 unfold spec_ReadJournal.f rdJ
 refine Ev.eq h ?_
 refine Prod.ext rfl ?_
 simp
theorem clip_calls (A : Option Addr) (n c : Nat) (hn : n ≤ c) (w : World) (hA : A = none → n = 0 ∧ c = 0) : Calls Tryd.prog 40 #[.slice A n c] w fun e w' => e = .returned (.slice A n n) ∧ w' = w := by
 have p1:((n:Int)<0)=False:=eq_false (by omega)
 have p2:(c<n)=False:=eq_false (by omega)
 have p3:(n≤c)=True:=eq_true hn
 have hN:=zqm hn
 clear hn
 cases A with
 |none=>
  obtain⟨rfl,rfl⟩:=hA rfl
  go_enter Tryd.func40,Tryd.ntmps40
  go_wp2_with fail
  go_ret
  exact⟨rfl,rfl⟩
 |some a=>
  clear hA
  go_enter Tryd.func40,Tryd.ntmps40
  go_wp2_with fail
  go_ret
  exact⟨rfl,rfl⟩
theorem cut_hit (t : ByteArray) (p q : List UInt8) (hp : (10 : UInt8) ∉ p) (ht : t.data.toList = p ++ 10 :: q) (hs : t.size < 4294967281) (w : World) (hE : ErrsAt w) : Calls Tryd.prog 39 #[.string t, .string ⟨#[10]⟩] w fun e w' => ∃ after, e = .returned (.tuple #[.string ⟨p.toArray⟩, .string after, .bool true]) ∧ Below w.heap.size w w' := by
 obtain⟨_,_,⟨m,hm⟩⟩:=hE
 refine(Tryd.strings_Cut t ⟨#[10]⟩ m w hs hm).mono ?_
 have e:Lib.cut t.data.toList (⟨#[10]⟩:ByteArray).data.toList=(p,q,true):=by
  have hi:Lib.index t.data.toList [10]=(p.length:Int):=by rw [ht];exact idc_pre 10 q p hp
  unfold Lib.cut
  rw [show (⟨#[10]⟩:ByteArray).data.toList= [10] from rfl,hi,if_pos (by omega),ht]
  simp
 rw [e]
 rintro e w' ⟨rfl,n,rfl⟩
 exact⟨_,rfl,pw_below_drewN (Below.refl _ _) _⟩
theorem cut_miss (t : ByteArray) (hp : (10 : UInt8) ∉ t.data.toList) (hs : t.size < 4294967281) (w : World) (hE : ErrsAt w) : Calls Tryd.prog 39 #[.string t, .string ⟨#[10]⟩] w fun e w' => e = .returned (.tuple #[.string t, .string ⟨#[]⟩, .bool false]) ∧ Below w.heap.size w w' := by
 obtain⟨_,_,⟨m,hm⟩⟩:=hE
 refine(Tryd.strings_Cut t ⟨#[10]⟩ m w hs hm).mono ?_
 have e:Lib.cut t.data.toList (⟨#[10]⟩:ByteArray).data.toList=(t.data.toList,[],false):=by
  unfold Lib.cut
  rw [show (⟨#[10]⟩:ByteArray).data.toList= [10] from rfl,idc_none 10 _ hp,if_neg (by omega)]
 rw [e,show (⟨t.data.toList.toArray⟩:ByteArray)=t from (ba_mk t).symm]
 rintro e w' ⟨rfl,n,rfl⟩
 exact⟨rfl,pw_below_drewN (Below.refl _ _) _⟩
set_option maxHeartbeats 4000000 in
set_option maxRecDepth 100000 in
theorem rjou_calls (s : ByteArray) (w : World) (ad : Addr) (cw : Nat) (hW : WordsAt w ad cw) (hE : ErrsAt w) (hs : s.size ≤ 16777216) :
 Calls Tryd.prog 22 #[.string s] w fun e w'=> ∃A n c,e= .returned (.tuple #[.slice A n n,.int .i64 (rdJ s).2])∧Kd.R k25 25 w' w.heap.size (fun _=>True) (.slice A n c) (rdJ s).1∧Below w.heap.size w w':=by
 have hu25:=Tryd.underlying25
 have HW:=zqm hW
 have HE:=zqm hE
 have HSZ:=zqm hs
 clear hW hE hs
 go_enter Tryd.func22,Tryd.ntmps22
 go_wp2_with (first|((with_reducible refine gate_dst (N:=11) rfl ?_);refine Kd.R_lit k25 _ 25 ?hg (N:=11) ?hd (xs:=([]:List S25)) (inner:= []) (ok:=fun _=>True) (okp:=fun _=>True) ?hr ?hp (fun _ hk=>hk) trivial (Below.refl _ _) (Nat.le_refl _) (by simp) ?_;(case hd=>rfl);(case hg=>rfl);(case hr=> exact zq5);(case hp=>exact(Reps.none _ _));intro v0 w2 ho3 hb hg_ hnew_;clear hg_ hnew_;have HO:=zqm (Kd.R_lower ho3 (Nat.le_refl _));have HB:=zqm hb;clear hb ho3))
 go_loopg [4,5] (s.size+1) (fun kq v4 v5 W=> ∃(out:List S25) (r:Nat),v5= .int .i64 r∧Aside0 ((out ++ (jrn [] (s.data.toList.drop r)).1=(rdJ s).1)∧(((r+(jrn [] (s.data.toList.drop r)).2:Nat):Int)=(rdJ s).2))∧Aside0 (s.size<r+kq)∧Aside0 (r≤s.size)∧Aside0 (out.length≤r)∧Aside0 (Kd.R k25 25 W w.heap.size (fun _=>True) v4 out)∧Aside0 (Below w.heap.size w W))
 case atStart=>exact⟨[],0,rfl,⟨by rw [List.drop_zero];unfold rdJ;exact⟨rfl,by simp⟩⟩,⟨by omega⟩,⟨Nat.zero_le _⟩,⟨Nat.le_refl _⟩,⟨zqfR HO.out⟩,⟨zq11⟩⟩
 case round=>
  obtain⟨out,r,rfl,HJ,HK,HK2,HOL,HO,HB⟩:=hrel
  cases gk with
  |zero=>exact absurd HK.out (by have:=HK2.out;omega)
  |succ kn=>
  have p1:((r:Int)<0)=False:=eq_false (by omega)
  have p2:(s.size<r)=False:=eq_false (by have:=HK2.out;omega)
  have p3:(r≤s.size)=True:=eq_true HK2.out
  have p4:((r:Int)≤(s.size:Int))=True:=eq_true (by have:=HK2.out;omega)
  have p5:((s.size:Int)<(r:Int))=False:=eq_false (by have:=HK2.out;omega)
  obtain⟨t,ht⟩: ∃t,s.extract r s.size=t:=⟨_,rfl⟩
  have htl:t.data.toList=s.data.toList.drop r:=by rw [← ht,Lib.extract_to_end]
  have hts:t.size≤s.size:=by rw [← ht,ByteArray.size_extract];omega
  have HT:=zqm ht
  obtain⟨Ao,co,eo⟩:=Kd.R_slice HO.out
  have HCO:=zqm (show out.length≤co from by have h_:=HO.out;rw [eo] at h_;exact(Kd.R_reads' h_).2.1)
  have HCA:=zqm (show Ao=none→out.length=0∧co=0 from fun e=>by
   have h_:=HO.out
   rw [eo,e] at h_
   obtain⟨_,inner,hown,_⟩:=h_
   rcases hown.2 with ⟨e1,e2⟩|⟨g,cap,cur,e1,_⟩
   ·injection e1 with e1 e3 e4
    exact⟨e2,e4⟩
   ·exact absurd e1 (by simp))
  have fin:(out ++ (jrn [] (s.data.toList.drop r)).1=(rdJ s).1)∧(((r+(jrn [] (s.data.toList.drop r)).2:Nat):Int)=(rdJ s).2):=HJ.out
  by_cases hm:(10:UInt8) ∈ s.data.toList.drop r
  ·obtain⟨p,q,hpq,hp⟩:=List.eq_append_cons_of_mem hm
   have hJ:=HJ.out
   rw [hpq,jrn_pre q p [] hp,List.nil_append] at hJ
   have hlen:s.size - r=p.length+(q.length+1):=by
    have h_:=congrArg List.length hpq
    rw [List.length_drop,← Lib.size_eq,List.length_append,List.length_cons] at h_
    exact h_
   have HQ:=zqm (show s.data.toList.drop (r+(p.length+1))=q from by
    rw [← List.drop_drop,hpq,← List.drop_drop];simp)
   have HC:=zqm (fun w hE=>cut_hit t p q hp (htl.trans hpq) (by have:=HSZ.out;omega) w hE)
   obtain⟨ln,hln⟩: ∃ln:ByteArray,ln=⟨p.toArray⟩:=⟨_,rfl⟩
   have hlz:ln.size=p.length:=by rw [hln,ba_size]
   rw [← hln] at HC hJ
   have hd:=fun w (h1:WordsAt w ad cw) (h2:ErrsAt w)=>read_calls ln w ad cw h1 h2 (by have:=HSZ.out;omega)
   unfold okS dS at hJ
   obtain⟨⟨k,a,b,ok⟩,hr⟩: ∃x,x=rdD ln:=⟨_,rfl⟩
   rw [← hr] at hd hJ
   have HD:=zqm hd
   have HL:=zqm hlen
   have HZ:=zqm hlz
   clear hd hr hln fin
   cases ok with
   |true=>
    rw [if_pos rfl] at hJ
    have HJ2:=zqm hJ
    clear hJ hm hp hpq hlen htl hts ht hlz eo HCO HCA
    rw [← HT.out] at HC
    go_wp2_with (first|(go_at_call 39;(with_reducible refine(HC.out _ (HE.out.below zq11)).mono ?_);rintro e w3 ⟨after,rfl,hb⟩;have n0_:=zqm (below_step zq11 hb);have n1_:=zqm (Kd.R_below (zqfR HO.out) hb);clear HB HO;have HB:=n0_;have HO:=n1_;clear n0_ n1_ hb)|(go_at_call 19;(with_reducible refine(HD.out _ (HW.out.below HB.out) (HE.out.below HB.out)).mono ?_);rintro e w4 ⟨rfl,hb⟩;have n0_:=zqm (below_step HB.out hb);have n1_:=zqm (Kd.R_below HO.out hb);clear HB HO;have HB:=n0_;have HO:=n1_;clear n0_ n1_;clear hb)|((with_reducible refine gate_dst (N:=9) rfl ?_);refine box_event ?hg (N:=9) ?hd (cs:= #[.int .i64 0,.int .i64 0,.int .i64 0]) (t:=25) ?hr ?_;(case hd=>rfl);(case hg=>rfl);(case hr=> exact zq5);intro g9 hg_ w5 hbox hb;have HXW:=zqm (show w.heap.size≤g9 from by rw [hg_];exact HB.out.size);have n0_:=zqm (Kd.R_below (Kd.R_elderB HO.out g9 (Nat.le_of_eq hg_.symm)) hb);have n1_:=zqm (below_step HB.out hb);clear HB HO;have HO:=n0_;have HB:=n1_;clear n0_ n1_;have HX:=zqm hbox;clear hbox hb hg_)|((with_reducible refine gate_store (t:=25) (p:=9) rfl ?_);have hc0_:w5.cell? ⟨g9,0,none⟩=some (.int .i64 0):=(blk_cell HX.out 0).trans rfl;have hf0_:=blk_frozen HX.out 0;have hc1_:w5.cell? ⟨g9,1,none⟩=some (.int .i64 0):=(blk_cell HX.out 1).trans rfl;have hf1_:=blk_frozen HX.out 1;have hc2_:w5.cell? ⟨g9,2,none⟩=some (.int .i64 0):=(blk_cell HX.out 2).trans rfl;have hf2_:=blk_frozen HX.out 2;refine store_event (t:=25) (p:=9) (v:=?vo_9) (w1:=((w5.setCell ⟨g9,0,none⟩ (.int .i64 k)).setCell ⟨g9,1,none⟩ (.int .i64 a)).setCell ⟨g9,2,none⟩ (.int .i64 b)) ?hg ?ho ?hn ?hr ?_;(case ho=>rfl);(case hg=>rfl);(case hn=>rfl);(case hr=> exact zq5);intro w6 hw;clear hc0_ hc1_ hc2_ hf0_ hf1_ hf2_;have n0_:=zqm ((by rw [hw];exact below_set (below_set (below_set HB.out HXW.out) HXW.out) HXW.out:Below w.heap.size w w6));have n1_:=zqm ((by rw [hw];exact blk_put (blk_put (blk_put HX.out 0 _ rfl) 1 _ rfl) 2 _ rfl:w6.heap[g9]? =some (.cells #[.int .i64 k,.int .i64 a,.int .i64 b] 25 (0,0))));have n2_:=zqm ((by rw [hw];exact Kd.R_mono (Kd.R_far (p:=⟨g9,2,none⟩) (Kd.R_far (p:=⟨g9,1,none⟩) (Kd.R_far (p:=⟨g9,0,none⟩) (Kd.R_mono HO.out (fun k_ hk=>(⟨hk,hk.2⟩:_∧k_≠g9))) (fun _ hk=>hk.2) (.int .i64 k)) (fun _ hk=>hk.2) (.int .i64 a)) (fun _ hk=>hk.2) (.int .i64 b)) (fun _ hk=>hk.1.2):Kd.R k25 25 w6 w.heap.size (fun k_=>k_≠g9) u4 out));clear HB HX HO;have HB:=n0_;have HX:=n1_;have HO:=n2_;clear n0_ n1_ n2_;clear hw;have hx0:w6.cell? ⟨g9,0,none⟩=some (.int .i64 k):=(blk_cell HX.out 0).trans rfl;have hx1:w6.cell? ⟨g9,1,none⟩=some (.int .i64 a):=(blk_cell HX.out 1).trans rfl;have hx2:w6.cell? ⟨g9,2,none⟩=some (.int .i64 b):=(blk_cell HX.out 2).trans rfl)|((with_reducible refine gate_dst (N:=37) rfl ?_);refine Kd.R_append k25 (w0:=w) w.heap.size rfl (.tmp 34) (.tmp 36) 31 25 (.agg #[.int .i64 0,.int .i64 0,.int .i64 0]) 24 rfl Tryd.underlying31 info25 rfl (by decide) (by omega) u4 out (⟨k,a,b⟩:S25) [.int .i64 k,.int .i64 a,.int .i64 b] (fun _=>True) (fun _=>False) rfl zq5 (k25_mkM _ _ _ (⟨k,a,b⟩:S25)) (fun _ hk=>hk.elim) (fun _ _=>trivial) (Kd.R_mono HO.out (fun _ _=>trivial)) HB.out HB.out.size (by have:=HOL.out;have:=HSZ.out;have:=HK2.out;omega) ?_;intro v7 w7 ho hb hg hat;clear HB HO hx0 hx1 hx2;have HO:=zqm ho;have HB:=zqm hb;clear ho hb hg hat))
    go_roundg kn
    case measure=>omega
    case rel=>exact⟨out ++ [⟨k,a,b⟩],r+(p.length+1),by
     refine congrArg (Value.int .i64) ?_
     have h1_:=HL.out;have h2_:=HZ.out;have h3_:=HSZ.out;have h4_:=HK2.out
     (try simp only [i64_w]);(try simp only [wrap64]);omega,⟨by
     rw [HQ.out,List.append_assoc]
     exact⟨HJ2.out.1,by rw [← HJ2.out.2];omega⟩⟩,⟨by have:=HK.out;have:=HL.out;omega⟩,⟨by have:=HL.out;have:=HK2.out;omega⟩,⟨by have:=HOL.out;simp only [List.length_append,List.length_cons,List.length_nil];omega⟩,⟨zqfR HO.out⟩,⟨zq11⟩⟩
   |false=>
    rw [if_neg (by simp)] at hJ
    have HJ2:=zqm hJ
    subst eo
    clear hJ hm hp hpq hlen htl hts ht hlz
    rw [← HT.out] at HC
    go_wp2_with (first|(go_at_call 39;(with_reducible refine(HC.out _ (HE.out.below zq11)).mono ?_);rintro e w3 ⟨after,rfl,hb⟩;have n0_:=zqm (below_step zq11 hb);have n1_:=zqm (Kd.R_below (zqfR HO.out) hb);clear HB HO;have HB:=n0_;have HO:=n1_;clear n0_ n1_ hb)|(go_at_call 19;(with_reducible refine(HD.out _ (HW.out.below HB.out) (HE.out.below HB.out)).mono ?_);rintro e w4 ⟨rfl,hb⟩;have n0_:=zqm (below_step HB.out hb);have n1_:=zqm (Kd.R_below HO.out hb);clear HB HO;have HB:=n0_;have HO:=n1_;clear n0_ n1_;clear hb)|((with_reducible refine gate_dst (N:=9) rfl ?_);refine box_event ?hg (N:=9) ?hd (cs:= #[.int .i64 0,.int .i64 0,.int .i64 0]) (t:=25) ?hr ?_;(case hd=>rfl);(case hg=>rfl);(case hr=> exact zq5);intro g9 hg_ w5 hbox hb;have HXW:=zqm (show w.heap.size≤g9 from by rw [hg_];exact HB.out.size);have n0_:=zqm (Kd.R_below (Kd.R_elderB HO.out g9 (Nat.le_of_eq hg_.symm)) hb);have n1_:=zqm (below_step HB.out hb);clear HB HO;have HO:=n0_;have HB:=n1_;clear n0_ n1_;have HX:=zqm hbox;clear hbox hb hg_)|((with_reducible refine gate_store (t:=25) (p:=9) rfl ?_);have hc0_:w5.cell? ⟨g9,0,none⟩=some (.int .i64 0):=(blk_cell HX.out 0).trans rfl;have hf0_:=blk_frozen HX.out 0;have hc1_:w5.cell? ⟨g9,1,none⟩=some (.int .i64 0):=(blk_cell HX.out 1).trans rfl;have hf1_:=blk_frozen HX.out 1;have hc2_:w5.cell? ⟨g9,2,none⟩=some (.int .i64 0):=(blk_cell HX.out 2).trans rfl;have hf2_:=blk_frozen HX.out 2;refine store_event (t:=25) (p:=9) (v:=?vo_8) (w1:=((w5.setCell ⟨g9,0,none⟩ (.int .i64 k)).setCell ⟨g9,1,none⟩ (.int .i64 a)).setCell ⟨g9,2,none⟩ (.int .i64 b)) ?hg ?ho ?hn ?hr ?_;(case ho=>rfl);(case hg=>rfl);(case hn=>rfl);(case hr=> exact zq5);intro w6 hw;clear hc0_ hc1_ hc2_ hf0_ hf1_ hf2_;have n0_:=zqm ((by rw [hw];exact below_set (below_set (below_set HB.out HXW.out) HXW.out) HXW.out:Below w.heap.size w w6));have n1_:=zqm ((by rw [hw];exact blk_put (blk_put (blk_put HX.out 0 _ rfl) 1 _ rfl) 2 _ rfl:w6.heap[g9]? =some (.cells #[.int .i64 k,.int .i64 a,.int .i64 b] 25 (0,0))));have n2_:=zqm ((by rw [hw];exact Kd.R_mono (Kd.R_far (p:=⟨g9,2,none⟩) (Kd.R_far (p:=⟨g9,1,none⟩) (Kd.R_far (p:=⟨g9,0,none⟩) (Kd.R_mono HO.out (fun k_ hk=>(⟨hk,hk.2⟩:_∧k_≠g9))) (fun _ hk=>hk.2) (.int .i64 k)) (fun _ hk=>hk.2) (.int .i64 a)) (fun _ hk=>hk.2) (.int .i64 b)) (fun _ hk=>hk.1.2):Kd.R k25 25 w6 w.heap.size (fun k_=>k_≠g9) (.slice Ao out.length co) out));clear HB HX HO;have HB:=n0_;have HX:=n1_;have HO:=n2_;clear n0_ n1_ n2_;clear hw;have hx0:w6.cell? ⟨g9,0,none⟩=some (.int .i64 k):=(blk_cell HX.out 0).trans rfl;have hx1:w6.cell? ⟨g9,1,none⟩=some (.int .i64 a):=(blk_cell HX.out 1).trans rfl;have hx2:w6.cell? ⟨g9,2,none⟩=some (.int .i64 b):=(blk_cell HX.out 2).trans rfl)|(go_at_call 40;(with_reducible refine(clip_calls Ao out.length co HCO.out _ HCA.out).mono ?_);rintro e w8 ⟨rfl,rfl⟩))
    go_ret2
    exact⟨Ao,out.length,co,by rw [← HJ2.out.2];rfl,zq36,zq11⟩
  ·have HC:=zqm (fun w hE=>cut_miss t (by rw [htl];exact hm) (by have:=HSZ.out;omega) w hE)
   rw [jrn_none _ [] hm] at fin
   have HJ2:=zqm fin
   have hd:=fun w (h1:WordsAt w ad cw) (h2:ErrsAt w)=>read_calls t w ad cw h1 h2 (by have:=HSZ.out;omega)
   obtain⟨⟨k,a,b,ok⟩,hr⟩: ∃x,x=rdD t:=⟨_,rfl⟩
   rw [← hr] at hd
   have HD:=zqm hd
   subst eo
   clear hm htl hts ht fin hd hr
   rw [← HT.out] at HC HD
   clear HT
   go_wp2_with (first|(go_at_call 39;(with_reducible refine(HC.out _ (HE.out.below zq11)).mono ?_);rintro e w3 ⟨rfl,hb⟩;have n0_:=zqm (below_step zq11 hb);have n1_:=zqm (Kd.R_below (zqfR HO.out) hb);clear HB HO;have HB:=n0_;have HO:=n1_;clear n0_ n1_ hb)|(go_at_call 19;(with_reducible refine(HD.out _ (HW.out.below HB.out) (HE.out.below HB.out)).mono ?_);rintro e w4 ⟨rfl,hb⟩;have n0_:=zqm (below_step HB.out hb);have n1_:=zqm (Kd.R_below HO.out hb);clear HB HO;have HB:=n0_;have HO:=n1_;clear n0_ n1_;clear hb)|((with_reducible refine gate_dst (N:=9) rfl ?_);refine box_event ?hg (N:=9) ?hd (cs:= #[.int .i64 0,.int .i64 0,.int .i64 0]) (t:=25) ?hr ?_;(case hd=>rfl);(case hg=>rfl);(case hr=> exact zq5);intro g9 hg_ w5 hbox hb;have HXW:=zqm (show w.heap.size≤g9 from by rw [hg_];exact HB.out.size);have n0_:=zqm (Kd.R_below (Kd.R_elderB HO.out g9 (Nat.le_of_eq hg_.symm)) hb);have n1_:=zqm (below_step HB.out hb);clear HB HO;have HO:=n0_;have HB:=n1_;clear n0_ n1_;have HX:=zqm hbox;clear hbox hb hg_)|((with_reducible refine gate_store (t:=25) (p:=9) rfl ?_);have hc0_:w5.cell? ⟨g9,0,none⟩=some (.int .i64 0):=(blk_cell HX.out 0).trans rfl;have hf0_:=blk_frozen HX.out 0;have hc1_:w5.cell? ⟨g9,1,none⟩=some (.int .i64 0):=(blk_cell HX.out 1).trans rfl;have hf1_:=blk_frozen HX.out 1;have hc2_:w5.cell? ⟨g9,2,none⟩=some (.int .i64 0):=(blk_cell HX.out 2).trans rfl;have hf2_:=blk_frozen HX.out 2;refine store_event (t:=25) (p:=9) (v:=?vo_7) (w1:=((w5.setCell ⟨g9,0,none⟩ (.int .i64 k)).setCell ⟨g9,1,none⟩ (.int .i64 a)).setCell ⟨g9,2,none⟩ (.int .i64 b)) ?hg ?ho ?hn ?hr ?_;(case ho=>rfl);(case hg=>rfl);(case hn=>rfl);(case hr=> exact zq5);intro w6 hw;clear hc0_ hc1_ hc2_ hf0_ hf1_ hf2_;have n0_:=zqm ((by rw [hw];exact below_set (below_set (below_set HB.out HXW.out) HXW.out) HXW.out:Below w.heap.size w w6));have n1_:=zqm ((by rw [hw];exact blk_put (blk_put (blk_put HX.out 0 _ rfl) 1 _ rfl) 2 _ rfl:w6.heap[g9]? =some (.cells #[.int .i64 k,.int .i64 a,.int .i64 b] 25 (0,0))));have n2_:=zqm ((by rw [hw];exact Kd.R_mono (Kd.R_far (p:=⟨g9,2,none⟩) (Kd.R_far (p:=⟨g9,1,none⟩) (Kd.R_far (p:=⟨g9,0,none⟩) (Kd.R_mono HO.out (fun k_ hk=>(⟨hk,hk.2⟩:_∧k_≠g9))) (fun _ hk=>hk.2) (.int .i64 k)) (fun _ hk=>hk.2) (.int .i64 a)) (fun _ hk=>hk.2) (.int .i64 b)) (fun _ hk=>hk.1.2):Kd.R k25 25 w6 w.heap.size (fun k_=>k_≠g9) (.slice Ao out.length co) out));clear HB HX HO;have HB:=n0_;have HX:=n1_;have HO:=n2_;clear n0_ n1_ n2_;clear hw;have hx0:w6.cell? ⟨g9,0,none⟩=some (.int .i64 k):=(blk_cell HX.out 0).trans rfl;have hx1:w6.cell? ⟨g9,1,none⟩=some (.int .i64 a):=(blk_cell HX.out 1).trans rfl;have hx2:w6.cell? ⟨g9,2,none⟩=some (.int .i64 b):=(blk_cell HX.out 2).trans rfl)|(go_at_call 40;(with_reducible refine(clip_calls Ao out.length co HCO.out _ HCA.out).mono ?_);rintro e w8 ⟨rfl,rfl⟩))
   go_ret2
   exact⟨Ao,out.length,co,by rw [← HJ2.out.2];rfl,zq36,zq11⟩
end Go.Proofs.YtddgcdpogpppgaaDoor.Print
end
section
namespace Go.Proofs.YtddgcdpogpppgaaDoor.Print
open Go.RowKit Go.Proofs.YtddgcdpogpppgaaDoorW.PrintWords Go.Proofs.YtddgcdpogpppgaaDoorW.PrintLast Go.Proofs.YtddgcdpogpppgaaDoorW.PrintMore
section
attribute [local go_sem] max2_int min2_int max_two min_two max_three min_three max_four min_four
def laws_eqDeed.f (a0_0 : Int) (a0_1 : Int) (a0_2 : Int) (a1_0 : Int) (a1_1 : Int) (a1_2 : Int) : Option (Bool) := if a0_0 = a1_0 then (if a0_1 = a1_1 then (if a0_2 = a1_2 then (some true) else (some false)) else (some false)) else (some false)
set_option maxHeartbeats 8000000 in
set_option maxRecDepth 100000 in
theorem laws_eqDeed.calls (a0_0 : Int) (a0_1 : Int) (a0_2 : Int) (a1_0 : Int) (a1_1 : Int) (a1_2 : Int) (r : Bool) (w : World) (h : laws_eqDeed.f a0_0 a0_1 a0_2 a1_0 a1_1 a1_2 = some r) :
  Calls Tryd.prog 20 #[.agg #[.int .i64 a0_0, .int .i64 a0_1, .int .i64 a0_2], .agg #[.int .i64 a1_0, .int .i64 a1_1, .int .i64 a1_2]] w fun e w' => e = .returned (.bool r) ∧ Below w.heap.size w w' := by
 have hu25:=Tryd.underlying25;have HB:=zqm (Below.refl w.heap.size w);have H:(if a0_0=a1_0 then(if a0_1=a1_1 then(if a0_2=a1_2 then(some true) else(some false)) else(some false)) else(some false))=some r:=h;clear h
 by_cases c3:a0_0=a1_0
 ·rw [if_pos c3] at H;have b5:(a0_0==a1_0)=true:=beq_iff_eq.mpr c3;have b6:(a0_0 !=a1_0)=false:=bne_eq_false_iff_eq.mpr c3;clear c3
  by_cases c4:a0_1=a1_1
  ·rw [if_pos c4] at H;have b7:(a0_1==a1_1)=true:=beq_iff_eq.mpr c4;have b8:(a0_1 !=a1_1)=false:=bne_eq_false_iff_eq.mpr c4;clear c4
   by_cases c5:a0_2=a1_2
   ·rw [if_pos c5] at H;have b9:(a0_2==a1_2)=true:=beq_iff_eq.mpr c5;have c0:(a0_2 !=a1_2)=false:=bne_eq_false_iff_eq.mpr c5;clear c5;obtain rfl:=Option.some.inj H
    go_enter Tryd.func20,Tryd.ntmps20
    go_wp2_with (first|((with_reducible refine gate_dst (N:=2) rfl ?_);refine box_event ?hg (N:=2) ?hd (cs:= #[.int .i64 a0_0,.int .i64 a0_1,.int .i64 a0_2]) (t:=25) ?hr ?_;(case hd=>rfl);(case hg=>rfl);(case hr=> exact zq5);intro a1 hg w6 hbox hb;have a7:=zqm (below_step zq0 hb);have a0:=zqm (hbox);have b3:=zqm ((by rw [hg];exact(below_size zq0):w.heap.size≤a1));have a4:=zqm ((by rw [hg];exact(below_size zq0):w.heap.size≤a1));clear HB;have HB:=a7;clear a7 hb hbox hg)|((with_reducible refine gate_dst (N:=3) rfl ?_);refine box_event ?hg (N:=3) ?hd (cs:= #[.int .i64 a1_0,.int .i64 a1_1,.int .i64 a1_2]) (t:=25) ?hr ?_;(case hd=>rfl);(case hg=>rfl);(case hr=> exact zq5);intro a2 hg w7 hbox hb;have a7:=zqm (blk_below (g:=a1) (o:= .cells #[.int .i64 a0_0,.int .i64 a0_1,.int .i64 a0_2] 25 (0,0)) (zqe a0.out) hb);have a9:=zqm (below_step zq8 hb);have a3:=zqm (hbox);have b4:=zqm ((by rw [hg];exact(below_size zq8):w.heap.size≤a2));have a8:=zqm ((by rw [hg];exact(below_size zq8):w.heap.size≤a2));have a5:=zqm ((by rw [hg];exact Nat.ne_of_lt (blk_lt (g:=a1) (o:= .cells #[.int .i64 a0_0,.int .i64 a0_1,.int .i64 a0_2] 25 (0,0)) (zqe a0.out)):a1≠a2));have a6:=zqm ((by rw [hg];exact Nat.ne_of_gt (blk_lt (g:=a1) (o:= .cells #[.int .i64 a0_0,.int .i64 a0_1,.int .i64 a0_2] 25 (0,0)) (zqe a0.out)):a2≠a1));clear a0 HB;have a0:=a7;have HB:=a9;clear a7 a9 hb hbox hg;have h8:=a5.out;have h9:=a6.out;have g6:w7.cell? ⟨a1,0,none⟩=some (.int .i64 a0_0):=(blk_cell a0.out 0).trans rfl;have g7:w7.cell? ⟨a1,1,none⟩=some (.int .i64 a0_1):=(blk_cell a0.out 1).trans rfl;have g8:w7.cell? ⟨a1,2,none⟩=some (.int .i64 a0_2):=(blk_cell a0.out 2).trans rfl;have g9:=blk_frozen a0.out 0;have h0:=blk_frozen a0.out 1;have h1:=blk_frozen a0.out 2;have c1:w7.cell? ⟨a2,0,none⟩=some (.int .i64 a1_0):=(blk_cell a3.out 0).trans rfl;have c2:w7.cell? ⟨a2,1,none⟩=some (.int .i64 a1_1):=(blk_cell a3.out 1).trans rfl;have c6:w7.cell? ⟨a2,2,none⟩=some (.int .i64 a1_2):=(blk_cell a3.out 2).trans rfl;have e5:=blk_frozen a3.out 0;have e6:=blk_frozen a3.out 1;have e7:=blk_frozen a3.out 2))
    go_ret
    exact⟨zq6,zq15⟩
   ·rw [if_neg c5] at H;have b9:(a0_2==a1_2)=false:=beq_eq_false_iff_ne.mpr c5;have c0:(a0_2 !=a1_2)=true:=bne_iff_ne.mpr c5;obtain rfl:=Option.some.inj H
    go_enter Tryd.func20,Tryd.ntmps20
    go_wp2_with (first|((with_reducible refine gate_dst (N:=2) rfl ?_);refine box_event ?hg (N:=2) ?hd (cs:= #[.int .i64 a0_0,.int .i64 a0_1,.int .i64 a0_2]) (t:=25) ?hr ?_;(case hd=>rfl);(case hg=>rfl);(case hr=> exact zq5);intro a1 hg i0 hbox hb;have a7:=zqm (below_step zq0 hb);have a0:=zqm (hbox);have b3:=zqm ((by rw [hg];exact(below_size zq0):w.heap.size≤a1));have a4:=zqm ((by rw [hg];exact(below_size zq0):w.heap.size≤a1));clear HB;have HB:=a7;clear a7 hb hbox hg)|((with_reducible refine gate_dst (N:=3) rfl ?_);refine box_event ?hg (N:=3) ?hd (cs:= #[.int .i64 a1_0,.int .i64 a1_1,.int .i64 a1_2]) (t:=25) ?hr ?_;(case hd=>rfl);(case hg=>rfl);(case hr=> exact zq5);intro a2 hg b0 hbox hb;have a7:=zqm (blk_below (g:=a1) (o:= .cells #[.int .i64 a0_0,.int .i64 a0_1,.int .i64 a0_2] 25 (0,0)) (zqe a0.out) hb);have a9:=zqm (below_step zq8 hb);have a3:=zqm (hbox);have b4:=zqm ((by rw [hg];exact(below_size zq8):w.heap.size≤a2));have a8:=zqm ((by rw [hg];exact(below_size zq8):w.heap.size≤a2));have a5:=zqm ((by rw [hg];exact Nat.ne_of_lt (blk_lt (g:=a1) (o:= .cells #[.int .i64 a0_0,.int .i64 a0_1,.int .i64 a0_2] 25 (0,0)) (zqe a0.out)):a1≠a2));have a6:=zqm ((by rw [hg];exact Nat.ne_of_gt (blk_lt (g:=a1) (o:= .cells #[.int .i64 a0_0,.int .i64 a0_1,.int .i64 a0_2] 25 (0,0)) (zqe a0.out)):a2≠a1));clear a0 HB;have a0:=a7;have HB:=a9;clear a7 a9 hb hbox hg;have h2:=a5.out;have h5:=a6.out;have c7:b0.cell? ⟨a1,0,none⟩=some (.int .i64 a0_0):=(blk_cell a0.out 0).trans rfl;have c8:b0.cell? ⟨a1,1,none⟩=some (.int .i64 a0_1):=(blk_cell a0.out 1).trans rfl;have c9:b0.cell? ⟨a1,2,none⟩=some (.int .i64 a0_2):=(blk_cell a0.out 2).trans rfl;have e8:=blk_frozen a0.out 0;have e9:=blk_frozen a0.out 1;have f0:=blk_frozen a0.out 2;have d0:b0.cell? ⟨a2,0,none⟩=some (.int .i64 a1_0):=(blk_cell a3.out 0).trans rfl;have d1:b0.cell? ⟨a2,1,none⟩=some (.int .i64 a1_1):=(blk_cell a3.out 1).trans rfl;have d2:b0.cell? ⟨a2,2,none⟩=some (.int .i64 a1_2):=(blk_cell a3.out 2).trans rfl;have f1:=blk_frozen a3.out 0;have f2:=blk_frozen a3.out 1;have f3:=blk_frozen a3.out 2))
    go_ret
    exact⟨zq6,zq15⟩
  ·rw [if_neg c4] at H;have b7:(a0_1==a1_1)=false:=beq_eq_false_iff_ne.mpr c4;have b8:(a0_1 !=a1_1)=true:=bne_iff_ne.mpr c4;obtain rfl:=Option.some.inj H
   go_enter Tryd.func20,Tryd.ntmps20
   go_wp2_with (first|((with_reducible refine gate_dst (N:=2) rfl ?_);refine box_event ?hg (N:=2) ?hd (cs:= #[.int .i64 a0_0,.int .i64 a0_1,.int .i64 a0_2]) (t:=25) ?hr ?_;(case hd=>rfl);(case hg=>rfl);(case hr=> exact zq5);intro a1 hg i1 hbox hb;have a7:=zqm (below_step zq0 hb);have a0:=zqm (hbox);have b3:=zqm ((by rw [hg];exact(below_size zq0):w.heap.size≤a1));have a4:=zqm ((by rw [hg];exact(below_size zq0):w.heap.size≤a1));clear HB;have HB:=a7;clear a7 hb hbox hg)|((with_reducible refine gate_dst (N:=3) rfl ?_);refine box_event ?hg (N:=3) ?hd (cs:= #[.int .i64 a1_0,.int .i64 a1_1,.int .i64 a1_2]) (t:=25) ?hr ?_;(case hd=>rfl);(case hg=>rfl);(case hr=> exact zq5);intro a2 hg b1 hbox hb;have a7:=zqm (blk_below (g:=a1) (o:= .cells #[.int .i64 a0_0,.int .i64 a0_1,.int .i64 a0_2] 25 (0,0)) (zqe a0.out) hb);have a9:=zqm (below_step zq8 hb);have a3:=zqm (hbox);have b4:=zqm ((by rw [hg];exact(below_size zq8):w.heap.size≤a2));have a8:=zqm ((by rw [hg];exact(below_size zq8):w.heap.size≤a2));have a5:=zqm ((by rw [hg];exact Nat.ne_of_lt (blk_lt (g:=a1) (o:= .cells #[.int .i64 a0_0,.int .i64 a0_1,.int .i64 a0_2] 25 (0,0)) (zqe a0.out)):a1≠a2));have a6:=zqm ((by rw [hg];exact Nat.ne_of_gt (blk_lt (g:=a1) (o:= .cells #[.int .i64 a0_0,.int .i64 a0_1,.int .i64 a0_2] 25 (0,0)) (zqe a0.out)):a2≠a1));clear a0 HB;have a0:=a7;have HB:=a9;clear a7 a9 hb hbox hg;have h3:=a5.out;have h6:=a6.out;have d3:b1.cell? ⟨a1,0,none⟩=some (.int .i64 a0_0):=(blk_cell a0.out 0).trans rfl;have d4:b1.cell? ⟨a1,1,none⟩=some (.int .i64 a0_1):=(blk_cell a0.out 1).trans rfl;have d5:b1.cell? ⟨a1,2,none⟩=some (.int .i64 a0_2):=(blk_cell a0.out 2).trans rfl;have f4:=blk_frozen a0.out 0;have f5:=blk_frozen a0.out 1;have f6:=blk_frozen a0.out 2;have d6:b1.cell? ⟨a2,0,none⟩=some (.int .i64 a1_0):=(blk_cell a3.out 0).trans rfl;have d7:b1.cell? ⟨a2,1,none⟩=some (.int .i64 a1_1):=(blk_cell a3.out 1).trans rfl;have d8:b1.cell? ⟨a2,2,none⟩=some (.int .i64 a1_2):=(blk_cell a3.out 2).trans rfl;have f7:=blk_frozen a3.out 0;have f8:=blk_frozen a3.out 1;have f9:=blk_frozen a3.out 2))
   go_ret
   exact⟨zq6,zq15⟩
 ·rw [if_neg c3] at H;have b5:(a0_0==a1_0)=false:=beq_eq_false_iff_ne.mpr c3;have b6:(a0_0 !=a1_0)=true:=bne_iff_ne.mpr c3;obtain rfl:=Option.some.inj H
  go_enter Tryd.func20,Tryd.ntmps20
  go_wp2_with (first|((with_reducible refine gate_dst (N:=2) rfl ?_);refine box_event ?hg (N:=2) ?hd (cs:= #[.int .i64 a0_0,.int .i64 a0_1,.int .i64 a0_2]) (t:=25) ?hr ?_;(case hd=>rfl);(case hg=>rfl);(case hr=> exact zq5);intro a1 hg i2 hbox hb;have a7:=zqm (below_step zq0 hb);have a0:=zqm (hbox);have b3:=zqm ((by rw [hg];exact(below_size zq0):w.heap.size≤a1));have a4:=zqm ((by rw [hg];exact(below_size zq0):w.heap.size≤a1));clear HB;have HB:=a7;clear a7 hb hbox hg)|((with_reducible refine gate_dst (N:=3) rfl ?_);refine box_event ?hg (N:=3) ?hd (cs:= #[.int .i64 a1_0,.int .i64 a1_1,.int .i64 a1_2]) (t:=25) ?hr ?_;(case hd=>rfl);(case hg=>rfl);(case hr=> exact zq5);intro a2 hg b2 hbox hb;have a7:=zqm (blk_below (g:=a1) (o:= .cells #[.int .i64 a0_0,.int .i64 a0_1,.int .i64 a0_2] 25 (0,0)) (zqe a0.out) hb);have a9:=zqm (below_step zq8 hb);have a3:=zqm (hbox);have b4:=zqm ((by rw [hg];exact(below_size zq8):w.heap.size≤a2));have a8:=zqm ((by rw [hg];exact(below_size zq8):w.heap.size≤a2));have a5:=zqm ((by rw [hg];exact Nat.ne_of_lt (blk_lt (g:=a1) (o:= .cells #[.int .i64 a0_0,.int .i64 a0_1,.int .i64 a0_2] 25 (0,0)) (zqe a0.out)):a1≠a2));have a6:=zqm ((by rw [hg];exact Nat.ne_of_gt (blk_lt (g:=a1) (o:= .cells #[.int .i64 a0_0,.int .i64 a0_1,.int .i64 a0_2] 25 (0,0)) (zqe a0.out)):a2≠a1));clear a0 HB;have a0:=a7;have HB:=a9;clear a7 a9 hb hbox hg;have h4:=a5.out;have h7:=a6.out;have d9:b2.cell? ⟨a1,0,none⟩=some (.int .i64 a0_0):=(blk_cell a0.out 0).trans rfl;have e0:b2.cell? ⟨a1,1,none⟩=some (.int .i64 a0_1):=(blk_cell a0.out 1).trans rfl;have e1:b2.cell? ⟨a1,2,none⟩=some (.int .i64 a0_2):=(blk_cell a0.out 2).trans rfl;have g0:=blk_frozen a0.out 0;have g1:=blk_frozen a0.out 1;have g2:=blk_frozen a0.out 2;have e2:b2.cell? ⟨a2,0,none⟩=some (.int .i64 a1_0):=(blk_cell a3.out 0).trans rfl;have e3:b2.cell? ⟨a2,1,none⟩=some (.int .i64 a1_1):=(blk_cell a3.out 1).trans rfl;have e4:b2.cell? ⟨a2,2,none⟩=some (.int .i64 a1_2):=(blk_cell a3.out 2).trans rfl;have g3:=blk_frozen a3.out 0;have g4:=blk_frozen a3.out 1;have g5:=blk_frozen a3.out 2))
  go_ret
  exact⟨zq6,zq15⟩
end
section
attribute [local go_sem] max2_int min2_int max_two min_two max_three min_three max_four min_four
def laws_eqDeedS.l0 : Nat → List (S25) → List (S25) → Int → Option (Bool)
 | 0, _, _, _ => none
 | k + 1, x0, x1, x5 => if x5 < (x0.length : Int) then (if 0 ≤ x5 then (if x5 < (x1.length : Int) then ((laws_eqDeed.f ((rd_T25 x0 x5).f0) ((rd_T25 x0 x5).f1) ((rd_T25 x0 x5).f2) ((rd_T25 x1 x5).f0) ((rd_T25 x1 x5).f1) ((rd_T25 x1 x5).f2)).bind fun t168 => (if t168 = true then (laws_eqDeedS.l0 k x0 x1 (wrap64 (x5 + 1))) else (some false))) else (none)) else (none)) else (some true)
def laws_eqDeedS.f (k : Nat) (l0 : List (S25)) (l1 : List (S25)) : Option (Bool) := if (l0.length : Int) = (l1.length : Int) then (laws_eqDeedS.l0 k l0 l1 0) else (some false)
def laws_eqDeedS.T6 : Bool × List (List Nat × List Nat) := (true, [([], []), ([], []), ([0, 1], [0, 1]), ([2], [2]), ([], []), ([], []), ([4, 5], [4, 5]), ([6], [6]), ([3, 7], [3, 7]), ([8], [8])])
def laws_eqDeedS.B6 : List Nat := [0, 0, 3, 7, 0, 0, 48, 112, 255, 511]
theorem laws_eqDeedS.tab6 : rtab .any (opsOf Tryd.f17 6) = laws_eqDeedS.T6 := by kernel_rfl
theorem laws_eqDeedS.bits6 : waitsOk laws_eqDeedS.T6.2 laws_eqDeedS.B6 = true := by kernel_rfl
set_option maxHeartbeats 8000000 in
set_option maxRecDepth 100000 in
theorem laws_eqDeedS.calls (k : Nat) (A0 : Option Addr) (c0 : Nat) (l0 : List (S25)) (A1 : Option Addr) (c1 : Nat) (l1 : List (S25)) (r : Bool) (w : World) (hr0 : Kd.C k25 w A0 l0.length l0) (hc0 : l0.length ≤ c0) (hr1 : Kd.C k25 w A1 l1.length l1) (hc1 : l1.length ≤ c1) (h : laws_eqDeedS.f k l0 l1 = some r) :
  Calls Tryd.prog 17 #[.slice A0 l0.length c0, .slice A1 l1.length c1] w fun e w' => e = .returned (.bool r) ∧ Below w.heap.size w w' := by
 have hu25:=Tryd.underlying25;have c2:=zqm hr0;have d3:=zqm hc0;clear hr0 hc0;have c7:=zqm hr1;have d4:=zqm hc1;clear hr1 hc1;have HB:=zqm (Below.refl w.heap.size w);have H:(if(l0.length:Int)=(l1.length:Int) then(laws_eqDeedS.l0 k l0 l1 0) else(some false))=some r:=h;clear h
 by_cases c3:(l0.length:Int)=(l1.length:Int)
 ·rw [if_pos c3] at H;have b5:((l0.length:Int)==(l1.length:Int))=true:=beq_iff_eq.mpr c3;have b6:((l0.length:Int) !=(l1.length:Int))=false:=bne_eq_false_iff_eq.mpr c3;(have b7:(l0.length==l1.length)=true:=by first|simpa using c3|(simp at c3 ⊢;omega));clear c3;have H':=zqm H;clear H
  go_enter Tryd.func17,Tryd.ntmps17
  go_wp2
  go_loopg [5] k (fun kq v5 w'=> ∃(a0:Int),v5= .int .i64 a0∧Aside0 (laws_eqDeedS.l0 kq l0 l1 a0=some r)∧Aside0 (kq≤k)∧Aside0 (Below w.heap.size w w'))
  case atStart=>exact⟨(0),zq7,H',⟨Nat.le_refl _⟩,⟨zq0⟩⟩
  case round=>
   clear H';(try clear c1);(try clear p2);(try clear c3);(try clear b5);(try clear b6);(try clear b7);obtain⟨a0,rfl,HA,b9,HB⟩:=hrel
   cases gk with
   |zero=>exact absurd HA.out (by simp [laws_eqDeedS.l0])
   |succ k1=>
    have H:=HA.out;clear HA;simp only [laws_eqDeedS.l0] at H
    by_cases c4:a0<(l0.length:Int)
    ·rw [if_pos c4] at H;have c9:decide (a0<(l0.length:Int))=true:=decide_eq_true c4;clear c4
     by_cases c5:0≤a0
     ·rw [if_pos c5] at H;have d1:decide (0≤a0)=true:=decide_eq_true c5;clear c5
      by_cases c6:a0<(l1.length:Int)
      ·rw [if_pos c6] at H;have d2:decide (a0<(l1.length:Int))=true:=decide_eq_true c6;clear c6;replace H:=Option.bind_eq_some_iff.mp H;obtain⟨d0,b8,H⟩:=H;(try dsimp only at H);have A7:=zqm b8;clear b8
       by_cases c8:d0=true
       ·subst c8;rw [if_pos rfl] at H;have H':=zqm H;clear H;(try go_wp2);replace HB:=zqm (below_drew1 HB.out);have a9:0≤(a0:Int):=zqo;have b1:a0<(l0.length:Int):=zqo;obtain⟨a7,b3,a1,a2,a3⟩:=at_T25 c2.out a0 a9 b1;have hw166_2:=a3;have hw166_1:=a2;have hw166_0:=a1
        cases b3
        replace a1:=(HB.out.cell (World.block_lt_of_cell? w _ a1)).trans a1;replace a2:=(HB.out.cell (World.block_lt_of_cell? w _ a2)).trans a2;replace a3:=(HB.out.cell (World.block_lt_of_cell? w _ a3)).trans a3;replace a9:=eq_true a9;replace b1:=eq_true b1;have b0:0≤(a0:Int):=zqo;have b2:a0<(l1.length:Int):=zqo;obtain⟨a8,b4,a4,a5,a6⟩:=at_T25 c7.out a0 b0 b2;have hw167_2:=a6;have hw167_1:=a5;have hw167_0:=a4
        cases b4
        replace a4:=(HB.out.cell (World.block_lt_of_cell? w _ a4)).trans a4;replace a5:=(HB.out.cell (World.block_lt_of_cell? w _ a5)).trans a5;replace a6:=(HB.out.cell (World.block_lt_of_cell? w _ a6)).trans a6;replace b0:=eq_true b0;replace b2:=eq_true b2;refine start_ (n:=10) (S:=fun w'=>w'.cell? (a7.add ((a0).toNat*3))=some (.int .i64 ((rd_T25 l0 a0).f0))∧w'.cell? ⟨(a7.add ((a0).toNat*3)).block,(a7.add ((a0).toNat*3)).off+1,none⟩=some (.int .i64 ((rd_T25 l0 a0).f1))∧w'.cell? ⟨(a7.add ((a0).toNat*3)).block,(a7.add ((a0).toNat*3)).off+2,none⟩=some (.int .i64 ((rd_T25 l0 a0).f2))∧w'.cell? (a8.add ((a0).toNat*3))=some (.int .i64 ((rd_T25 l1 a0).f0))∧w'.cell? ⟨(a8.add ((a0).toNat*3)).block,(a8.add ((a0).toNat*3)).off+1,none⟩=some (.int .i64 ((rd_T25 l1 a0).f1))∧w'.cell? ⟨(a8.add ((a0).toNat*3)).block,(a8.add ((a0).toNat*3)).off+2,none⟩=some (.int .i64 ((rd_T25 l1 a0).f2))) (ds:= []) (zqb 10 0) zqk rfl rfl ⟨((HB.out.cell (World.block_lt_of_cell? w _ hw166_0)).trans hw166_0),((HB.out.cell (World.block_lt_of_cell? w _ hw166_1)).trans hw166_1),((HB.out.cell (World.block_lt_of_cell? w _ hw166_2)).trans hw166_2),((HB.out.cell (World.block_lt_of_cell? w _ hw167_0)).trans hw167_0),((HB.out.cell (World.block_lt_of_cell? w _ hw167_1)).trans hw167_1),((HB.out.cell (World.block_lt_of_cell? w _ hw167_2)).trans hw167_2)⟩ (fun hHeld=>?_);refine with_tabW laws_eqDeedS.tab6 laws_eqDeedS.bits6 (fun HT_ HW_=>?_);generalize wr.drew=w9 at HB a1 a2 a3 a4 a5 a6 hHeld ⊢;refine zqp 0 17 (zqb 10 1) HT_ ?_;refine zqp 1 18 (zqb 10 3) HT_ ?_;refine zqp 2 19 (zqb 10 7) HT_ ?_;refine zqp 4 21 (zqb 10 23) HT_ ?_;refine zqp 5 22 (zqb 10 55) HT_ ?_;refine zqp 6 23 (zqb 10 119) HT_ ?_;refine zqw 3 20 (zqb 10 127) HT_ HW_ hHeld ?_;refine zqw 7 24 (zqb 10 255) HT_ HW_ hHeld ?_;refine one_ (i:=8) (N:=some 25) (zqb 10 511) rfl rfl (one_of HT_.out zqk) (by decide) (fun K hK=>?_);refine goes_ Tryd.func20 zqk rfl #[.agg #[.int .i64 ((rd_T25 l0 a0).f0),.int .i64 ((rd_T25 l0 a0).f1),.int .i64 ((rd_T25 l0 a0).f2)],.agg #[.int .i64 ((rd_T25 l1 a0).f0),.int .i64 ((rd_T25 l1 a0).f1),.int .i64 ((rd_T25 l1 a0).f2)]] (by rfl) rfl rfl zq4 ?_;(with_reducible refine(laws_eqDeed.calls ((rd_T25 l0 a0).f0) ((rd_T25 l0 a0).f1) ((rd_T25 l0 a0).f2) ((rd_T25 l1 a0).f0) ((rd_T25 l1 a0).f1) ((rd_T25 l1 a0).f2) true _ A7.out).mono ?_);rintro e d5 ⟨rfl,hb⟩;refine⟨_,rfl,?_⟩;replace HB:=zqm (below_step zq0 hb);clear hb;refine hK.out _ _ ⟨((HB.out.cell (World.block_lt_of_cell? w _ hw166_0)).trans hw166_0),((HB.out.cell (World.block_lt_of_cell? w _ hw166_1)).trans hw166_1),((HB.out.cell (World.block_lt_of_cell? w _ hw166_2)).trans hw166_2),((HB.out.cell (World.block_lt_of_cell? w _ hw167_0)).trans hw167_0),((HB.out.cell (World.block_lt_of_cell? w _ hw167_1)).trans hw167_1),((HB.out.cell (World.block_lt_of_cell? w _ hw167_2)).trans hw167_2)⟩ (fun hHeld=>?_);clear hK K;refine norm_ (a':=?_) ?_ ?_;rotate_left
        ·show Act.put _ (some 25) _=_;exact zqs
        refine zqp 9 26 (zqb 10 1023) HT_ ?_;refine done_ (done_of HT_.out zqk) ?_;try go_wp2
        go_roundg k1
        (case measure=>have:=b9.out;omega);case rel=>exact⟨(wrap64 (a0+1)),zq7,H',⟨by have:=b9.out;omega⟩,⟨zq0⟩⟩
       ·replace c8:=Bool.eq_false_iff.mpr c8;subst c8;rw [if_neg (show¬(false=true) by decide)] at H;obtain rfl:=Option.some.inj H;(try go_wp2);replace HB:=zqm (below_drew1 HB.out);have a9:0≤(a0:Int):=zqo;have b1:a0<(l0.length:Int):=zqo;obtain⟨a7,b3,a1,a2,a3⟩:=at_T25 c2.out a0 a9 b1;have hw166_2:=a3;have hw166_1:=a2;have hw166_0:=a1
        cases b3
        replace a1:=(HB.out.cell (World.block_lt_of_cell? w _ a1)).trans a1;replace a2:=(HB.out.cell (World.block_lt_of_cell? w _ a2)).trans a2;replace a3:=(HB.out.cell (World.block_lt_of_cell? w _ a3)).trans a3;replace a9:=eq_true a9;replace b1:=eq_true b1;have b0:0≤(a0:Int):=zqo;have b2:a0<(l1.length:Int):=zqo;obtain⟨a8,b4,a4,a5,a6⟩:=at_T25 c7.out a0 b0 b2;have hw167_2:=a6;have hw167_1:=a5;have hw167_0:=a4
        cases b4
        replace a4:=(HB.out.cell (World.block_lt_of_cell? w _ a4)).trans a4;replace a5:=(HB.out.cell (World.block_lt_of_cell? w _ a5)).trans a5;replace a6:=(HB.out.cell (World.block_lt_of_cell? w _ a6)).trans a6;replace b0:=eq_true b0;replace b2:=eq_true b2;refine start_ (n:=10) (S:=fun w'=>w'.cell? (a7.add ((a0).toNat*3))=some (.int .i64 ((rd_T25 l0 a0).f0))∧w'.cell? ⟨(a7.add ((a0).toNat*3)).block,(a7.add ((a0).toNat*3)).off+1,none⟩=some (.int .i64 ((rd_T25 l0 a0).f1))∧w'.cell? ⟨(a7.add ((a0).toNat*3)).block,(a7.add ((a0).toNat*3)).off+2,none⟩=some (.int .i64 ((rd_T25 l0 a0).f2))∧w'.cell? (a8.add ((a0).toNat*3))=some (.int .i64 ((rd_T25 l1 a0).f0))∧w'.cell? ⟨(a8.add ((a0).toNat*3)).block,(a8.add ((a0).toNat*3)).off+1,none⟩=some (.int .i64 ((rd_T25 l1 a0).f1))∧w'.cell? ⟨(a8.add ((a0).toNat*3)).block,(a8.add ((a0).toNat*3)).off+2,none⟩=some (.int .i64 ((rd_T25 l1 a0).f2))) (ds:= []) (zqb 10 0) zqk rfl rfl ⟨((HB.out.cell (World.block_lt_of_cell? w _ hw166_0)).trans hw166_0),((HB.out.cell (World.block_lt_of_cell? w _ hw166_1)).trans hw166_1),((HB.out.cell (World.block_lt_of_cell? w _ hw166_2)).trans hw166_2),((HB.out.cell (World.block_lt_of_cell? w _ hw167_0)).trans hw167_0),((HB.out.cell (World.block_lt_of_cell? w _ hw167_1)).trans hw167_1),((HB.out.cell (World.block_lt_of_cell? w _ hw167_2)).trans hw167_2)⟩ (fun hHeld=>?_);refine with_tabW laws_eqDeedS.tab6 laws_eqDeedS.bits6 (fun HT_ HW_=>?_);generalize wr.drew=d6 at HB a1 a2 a3 a4 a5 a6 hHeld ⊢;refine zqp 0 17 (zqb 10 1) HT_ ?_;refine zqp 1 18 (zqb 10 3) HT_ ?_;refine zqp 2 19 (zqb 10 7) HT_ ?_;refine zqp 4 21 (zqb 10 23) HT_ ?_;refine zqp 5 22 (zqb 10 55) HT_ ?_;refine zqp 6 23 (zqb 10 119) HT_ ?_;refine zqw 3 20 (zqb 10 127) HT_ HW_ hHeld ?_;refine zqw 7 24 (zqb 10 255) HT_ HW_ hHeld ?_;refine one_ (i:=8) (N:=some 25) (zqb 10 511) rfl rfl (one_of HT_.out zqk) (by decide) (fun K hK=>?_);refine goes_ Tryd.func20 zqk rfl #[.agg #[.int .i64 ((rd_T25 l0 a0).f0),.int .i64 ((rd_T25 l0 a0).f1),.int .i64 ((rd_T25 l0 a0).f2)],.agg #[.int .i64 ((rd_T25 l1 a0).f0),.int .i64 ((rd_T25 l1 a0).f1),.int .i64 ((rd_T25 l1 a0).f2)]] (by rfl) rfl rfl zq4 ?_;(with_reducible refine(laws_eqDeed.calls ((rd_T25 l0 a0).f0) ((rd_T25 l0 a0).f1) ((rd_T25 l0 a0).f2) ((rd_T25 l1 a0).f0) ((rd_T25 l1 a0).f1) ((rd_T25 l1 a0).f2) false _ A7.out).mono ?_);rintro e d7 ⟨rfl,hb⟩;refine⟨_,rfl,?_⟩;replace HB:=zqm (below_step zq0 hb);clear hb;refine hK.out _ _ ⟨((HB.out.cell (World.block_lt_of_cell? w _ hw166_0)).trans hw166_0),((HB.out.cell (World.block_lt_of_cell? w _ hw166_1)).trans hw166_1),((HB.out.cell (World.block_lt_of_cell? w _ hw166_2)).trans hw166_2),((HB.out.cell (World.block_lt_of_cell? w _ hw167_0)).trans hw167_0),((HB.out.cell (World.block_lt_of_cell? w _ hw167_1)).trans hw167_1),((HB.out.cell (World.block_lt_of_cell? w _ hw167_2)).trans hw167_2)⟩ (fun hHeld=>?_);clear hK K;refine norm_ (a':=?_) ?_ ?_;rotate_left
        ·show Act.put _ (some 25) _=_;exact zqs
        refine zqp 9 26 (zqb 10 1023) HT_ ?_;refine done_ (done_of HT_.out zqk) ?_;try go_wp2
        go_ret
        exact⟨zq6,zq0⟩
      ·rw [if_neg c6] at H;exact absurd H (by simp)
     ·rw [if_neg c5] at H;exact absurd H (by simp)
    ·rw [if_neg c4] at H;have c9:decide (a0<(l0.length:Int))=false:=decide_eq_false c4;clear c4;obtain rfl:=Option.some.inj H
     go_wp2
     go_ret
     exact⟨zq6,zq0⟩
 ·rw [if_neg c3] at H;have b5:((l0.length:Int)==(l1.length:Int))=false:=beq_eq_false_iff_ne.mpr c3;have b6:((l0.length:Int) !=(l1.length:Int))=true:=bne_iff_ne.mpr c3;(have b7:(l0.length==l1.length)=false:=by first|simpa using c3|(simp at c3 ⊢;omega));obtain rfl:=Option.some.inj H
  go_enter Tryd.func17,Tryd.ntmps17
  go_wp2
  go_ret
  exact⟨zq6,zq0⟩
end
section
attribute [local go_sem] max2_int min2_int max_two min_two max_three min_three max_four min_four
def laws_heldDeedS.l0 : Nat → List (S25) → Int → Int → Option (Int)
 | 0, _, _, _ => none
 | k + 1, x0, x1, x5 => if x5 < (x0.length : Int) then (if 0 ≤ x5 then (if ((rd_T25 x0 x5).f0) = x1 then (if ((rd_T25 x0 x5).f1) = (wrap64 (x1 + 1)) then (if ((rd_T25 x0 x5).f2) = (wrap64 ((wrap64 (x1 + 1)) + 1)) then (laws_heldDeedS.l0 k x0 (wrap64 ((wrap64 ((wrap64 (x1 + 1)) + 1)) + 1)) (wrap64 (x5 + 1))) else (some (-1))) else (some (-1))) else (some (-1))) else (none)) else (some x1)
def laws_heldDeedS.f (k : Nat) (l0 : List (S25)) (a1 : Int) : Option (Int) := laws_heldDeedS.l0 k l0 a1 0
set_option maxHeartbeats 8000000 in
set_option maxRecDepth 100000 in
theorem laws_heldDeedS.calls (k : Nat) (A0 : Option Addr) (c0 : Nat) (l0 : List (S25)) (a1 : Int) (r : Int) (w : World) (hr0 : Kd.C k25 w A0 l0.length l0) (hc0 : l0.length ≤ c0) (h : laws_heldDeedS.f k l0 a1 = some r) :
  Calls Tryd.prog 24 #[.slice A0 l0.length c0, .int .i64 a1] w fun e w' => e = .returned (.int .i64 r) ∧ Drawn0 w w' := by
 have b1:=zqm hr0;have e1:=zqm hc0;clear hr0 hc0;have H:(laws_heldDeedS.l0 k l0 a1 0)=some r:=h;clear h;have H':=zqm H;clear H
 go_enter Tryd.func24,Tryd.ntmps24
 go_wp2
 go_loopg [1,5] k (fun kq v1 v5 w'=> ∃(a2:Int) (a0:Int),v1= .int .i64 a2∧v5= .int .i64 a0∧Aside0 (laws_heldDeedS.l0 kq l0 a2 a0=some r)∧Aside0 (kq≤k)∧Drawn0 w w')
 case atStart=>exact⟨(a1),(0),zq7,zq7,H',⟨Nat.le_refl _⟩,zq14⟩
 case round=>
  clear H';(try clear c2);(try clear p2);obtain⟨a2,a0,rfl,rfl,HA,d2,⟨m1,rfl⟩⟩:=hrel
  cases gk with
  |zero=>exact absurd HA.out (by simp [laws_heldDeedS.l0])
  |succ k1=>
   have H:=HA.out;clear HA;simp only [laws_heldDeedS.l0] at H
   by_cases c3:a0<(l0.length:Int)
   ·rw [if_pos c3] at H;have d3:decide (a0<(l0.length:Int))=true:=decide_eq_true c3;clear c3
    by_cases c4:0≤a0
    ·rw [if_pos c4] at H;have e0:decide (0≤a0)=true:=decide_eq_true c4;clear c4
     by_cases c5:((rd_T25 l0 a0).f0)=a2
     ·rw [if_pos c5] at H;have d4:(((rd_T25 l0 a0).f0)==a2)=true:=beq_iff_eq.mpr c5;have d5:(((rd_T25 l0 a0).f0) !=a2)=false:=bne_eq_false_iff_eq.mpr c5;clear c5
      by_cases c6:((rd_T25 l0 a0).f1)=(wrap64 (a2+1))
      ·rw [if_pos c6] at H;have d6:(((rd_T25 l0 a0).f1)==(wrap64 (a2+1)))=true:=beq_iff_eq.mpr c6;have d7:(((rd_T25 l0 a0).f1) !=(wrap64 (a2+1)))=false:=bne_eq_false_iff_eq.mpr c6;clear c6
       by_cases c7:((rd_T25 l0 a0).f2)=(wrap64 ((wrap64 (a2+1))+1))
       ·rw [if_pos c7] at H;have d8:(((rd_T25 l0 a0).f2)==(wrap64 ((wrap64 (a2+1))+1)))=true:=beq_iff_eq.mpr c7;have d9:(((rd_T25 l0 a0).f2) !=(wrap64 ((wrap64 (a2+1))+1)))=false:=bne_eq_false_iff_eq.mpr c7;clear c7;have H':=zqm H;clear H;have a3:0≤(a0:Int):=zqo;have a4:a0<(l0.length:Int):=zqo;obtain⟨a7,a8,b3,b4,b5⟩:=at_T25 b1.out a0 a3 a4
        cases a8
        replace a3:=eq_true a3;replace a4:=eq_true a4;have a5:0≤(a0:Int):=zqo;have a6:a0<(l0.length:Int):=zqo;obtain⟨b2,b6,b7,b8,b9⟩:=at_T25 b1.out a0 a5 a6;obtain rfl:a7=b2:=(by injection b6);replace a5:=eq_true a5;replace a6:=eq_true a6;have a9:0≤(a0:Int):=zqo;have b0:a0<(l0.length:Int):=zqo;obtain⟨c1,c8,c9,d0,d1⟩:=at_T25 b1.out a0 a9 b0;obtain rfl:a7=c1:=(by injection c8);replace a9:=eq_true a9;replace b0:=eq_true b0
        go_wp2
        go_roundg k1
        (case measure=>have:=d2.out;omega);case rel=>exact⟨(wrap64 ((wrap64 ((wrap64 (a2+1))+1))+1)),(wrap64 (a0+1)),zq7,zq7,H',⟨by have:=d2.out;omega⟩,zq14⟩
       ·rw [if_neg c7] at H;have d8:(((rd_T25 l0 a0).f2)==(wrap64 ((wrap64 (a2+1))+1)))=false:=beq_eq_false_iff_ne.mpr c7;have d9:(((rd_T25 l0 a0).f2) !=(wrap64 ((wrap64 (a2+1))+1)))=true:=bne_iff_ne.mpr c7;obtain rfl:=Option.some.inj H;have a3:0≤(a0:Int):=zqo;have a4:a0<(l0.length:Int):=zqo;obtain⟨a7,a8,b3,b4,b5⟩:=at_T25 b1.out a0 a3 a4
        cases a8
        replace a3:=eq_true a3;replace a4:=eq_true a4;have a5:0≤(a0:Int):=zqo;have a6:a0<(l0.length:Int):=zqo;obtain⟨b2,b6,b7,b8,b9⟩:=at_T25 b1.out a0 a5 a6;obtain rfl:a7=b2:=(by injection b6);replace a5:=eq_true a5;replace a6:=eq_true a6;have a9:0≤(a0:Int):=zqo;have b0:a0<(l0.length:Int):=zqo;obtain⟨c1,c8,c9,d0,d1⟩:=at_T25 b1.out a0 a9 b0;obtain rfl:a7=c1:=(by injection c8);replace a9:=eq_true a9;replace b0:=eq_true b0
        go_wp2
        go_ret
        exact⟨zq7,zq14⟩
      ·rw [if_neg c6] at H;have d6:(((rd_T25 l0 a0).f1)==(wrap64 (a2+1)))=false:=beq_eq_false_iff_ne.mpr c6;have d7:(((rd_T25 l0 a0).f1) !=(wrap64 (a2+1)))=true:=bne_iff_ne.mpr c6;obtain rfl:=Option.some.inj H;have a3:0≤(a0:Int):=zqo;have a4:a0<(l0.length:Int):=zqo;obtain⟨a7,a8,b3,b4,b5⟩:=at_T25 b1.out a0 a3 a4
       cases a8
       replace a3:=eq_true a3;replace a4:=eq_true a4;have a5:0≤(a0:Int):=zqo;have a6:a0<(l0.length:Int):=zqo;obtain⟨b2,b6,b7,b8,b9⟩:=at_T25 b1.out a0 a5 a6;obtain rfl:a7=b2:=(by injection b6);replace a5:=eq_true a5;replace a6:=eq_true a6
       go_wp2
       go_ret
       exact⟨zq7,zq14⟩
     ·rw [if_neg c5] at H;have d4:(((rd_T25 l0 a0).f0)==a2)=false:=beq_eq_false_iff_ne.mpr c5;have d5:(((rd_T25 l0 a0).f0) !=a2)=true:=bne_iff_ne.mpr c5;obtain rfl:=Option.some.inj H;have a3:0≤(a0:Int):=zqo;have a4:a0<(l0.length:Int):=zqo;obtain⟨a7,a8,b3,b4,b5⟩:=at_T25 b1.out a0 a3 a4
      cases a8
      replace a3:=eq_true a3;replace a4:=eq_true a4
      go_wp2
      go_ret
      exact⟨zq7,zq14⟩
    ·rw [if_neg c4] at H;exact absurd H (by simp)
   ·rw [if_neg c3] at H;have d3:decide (a0<(l0.length:Int))=false:=decide_eq_false c3;clear c3;obtain rfl:=Option.some.inj H
    go_wp2
    go_ret
    exact⟨zq7,zq14⟩
end
end Go.Proofs.YtddgcdpogpppgaaDoor.Print
end
section
namespace Go.Proofs.YtddgcdpogpppgaaDoor.Print
open Go.RowKit Go.Proofs.YtddgcdpogpppgaaDoorW.PrintWords Go.Proofs.YtddgcdpogpppgaaDoorW.PrintLast Go.Proofs.YtddgcdpogpppgaaDoorW.PrintMore
open Oml
theorem cur_step {cur : Array Value} {i n : Nat} {k1 k2 k3 : Int} (e1 : k1 = 1 + 3 * (i : Int)) (e2 : k2 = k1 + 1) (e3 : k3 = k2 + 1) (hi : i < n) (hc : n * 3 ≤ cur.size) (h1 : ∀ j, j < i * 3 → cur[j]? = some (.int .i64 (1 + (j : Int)))) (h2 : ∀ j, i * 3 ≤ j → j < n * 3 → ∃ x, cur[j]? = some (.int .i64 x)) :
 (((cur.setIfInBounds (i*3) (.int .i64 k1)).setIfInBounds (i*3+1) (.int .i64 k2)).setIfInBounds (i*3+2) (.int .i64 k3)).size=cur.size∧(∀j,j<(i+1)*3→(((cur.setIfInBounds (i*3) (.int .i64 k1)).setIfInBounds (i*3+1) (.int .i64 k2)).setIfInBounds (i*3+2) (.int .i64 k3))[j]? =some (.int .i64 (1+(j:Int))))∧
 (∀j,(i+1)*3≤j→j<n*3→ ∃x,(((cur.setIfInBounds (i*3) (.int .i64 k1)).setIfInBounds (i*3+1) (.int .i64 k2)).setIfInBounds (i*3+2) (.int .i64 k3))[j]? =some (.int .i64 x)):=by
 refine⟨by simp,fun j hj=>?_,fun j hj hj2=>?_⟩
 ·simp only [Array.getElem?_setIfInBounds,Array.size_setIfInBounds]
  by_cases a:i*3+2=j
  ·rw [if_pos a,if_pos (by omega)]
   refine congrArg (fun z=>some (Value.int .i64 z)) ?_
   omega
  ·rw [if_neg a]
   by_cases b:i*3+1=j
   ·rw [if_pos b,if_pos (by omega)]
    refine congrArg (fun z=>some (Value.int .i64 z)) ?_
    omega
   ·rw [if_neg b]
    by_cases c:i*3=j
    ·rw [if_pos c,if_pos (by omega)]
     refine congrArg (fun z=>some (Value.int .i64 z)) ?_
     omega
    ·rw [if_neg c]
     exact h1 j (by omega)
 ·simp only [Array.getElem?_setIfInBounds,Array.size_setIfInBounds]
  rw [if_neg (by omega),if_neg (by omega),if_neg (by omega)]
  exact h2 j (by omega) hj2
set_option maxHeartbeats 4000000 in
set_option maxRecDepth 100000 in
theorem mark_calls (g n c : Nat) (hn : n ≤ 16777216) (w0 w : World) (cur : Array Value) (hb : w.heap[g]? = some (.cells cur 25 (0, 0))) (hg : w0.heap.size ≤ g) (hB : Below w0.heap.size w0 w) (hc : n * 3 ≤ cur.size) (hv : ∀ j, j < n * 3 → ∃ x : Int, cur[j]? = some (.int .i64 x)) :
 Calls Tryd.prog 23 #[.slice (some ⟨g,0,none⟩) n c,.int .i64 1] w fun e w'=>e= .returned (.int .i64 (1+3*(n:Int)))∧(∃cur',w'.heap[g]? =some (.cells cur' 25 (0,0))∧ ∀j,j<n*3→cur'[j]? =some (.int .i64 (1+(j:Int))))∧Below w0.heap.size w0 w'∧KeepBut w w' g none:=by
 have hu25:=Tryd.underlying25
 have HX:=zqm hb
 have HG:=zqm hg
 have HB:=zqm hB
 have HC:=zqm hc
 have HV:=zqm hv
 have HN:=zqm hn
 clear hn hb hg hB hc hv
 go_enter Tryd.func23,Tryd.ntmps23
 go_wp2_with fail
 go_loopg [1,5] (n+1) (fun kq v1 v5 W=> ∃(i:Nat),v1= .int .i64 (1+3*(i:Int))∧v5= .int .i64 i∧Aside0 (n<i+kq)∧Aside0 (i≤n)∧Aside0 (∃cur',W.heap[g]? =some (.cells cur' 25 (0,0))∧cur'.size=cur.size∧(∀j,j<i*3→cur'[j]? =some (.int .i64 (1+(j:Int))))∧(∀j,i*3≤j→j<n*3→ ∃x,cur'[j]? =some (.int .i64 x)))∧Aside0 (Below w0.heap.size w0 W)∧Aside0 (KeepBut w W g none))
 case atStart=>exact⟨0,rfl,rfl,⟨by omega⟩,⟨Nat.zero_le _⟩,⟨cur,HX.out,rfl,fun j hj=>by omega,fun j _ hj=>HV.out j hj⟩,⟨HB.out⟩,⟨KeepBut.refl _ _ _⟩⟩
 case round=>
  obtain⟨i,rfl,rfl,HF,HI,⟨cur1,hX,hS,h1,h2⟩,HB,HK⟩:=hrel
  cases gk with
  |zero=>exact absurd HF.out (by have:=HI.out;omega)
  |succ kn=>
  have HX:=zqm hX
  have H1:=zqm h1
  have H2:=zqm h2
  have HS:=zqm hS
  by_cases hlt:i<n
  ·have hlt':decide (i<n)=true:=decide_eq_true hlt
   have p1:(i<n)=True:=eq_true hlt
   have p2:((i:Int)<(n:Int))=True:=eq_true (by omega)
   have p2':decide ((i:Int)<(n:Int))=true:=decide_eq_true (by omega)
   have HLT:=zqm hlt
   obtain⟨x0,hx0⟩:=h2 (i*3) (by omega) (by omega)
   obtain⟨x1,hx1⟩:=h2 (i*3+1) (by omega) (by omega)
   obtain⟨x2,hx2⟩:=h2 (i*3+2) (by omega) (by omega)
   obtain⟨k1,hk1⟩: ∃k1,k1=1+3*(i:Int):=⟨_,rfl⟩
   obtain⟨k2,hk2⟩: ∃k2,k2=k1+1:=⟨_,rfl⟩
   obtain⟨k3,hk3⟩: ∃k3,k3=k2+1:=⟨_,rfl⟩
   obtain⟨k4,hk4⟩: ∃k4,k4=k3+1:=⟨_,rfl⟩
   have wn: ∀a b:Int,b=a+1→0≤a→a≤100000000→IntKind.i64.wrap (a+1)=b∧wrap64 (a+1)=b:=fun a b e h1 h2=>by
    have e2:wrap64 (a+1)=b:=by unfold wrap64;omega
    exact⟨by simp only [i64_w];exact e2,e2⟩
   obtain⟨q1,q1'⟩:=wn k1 k2 hk2 (by omega) (by have:=HN.out;omega)
   obtain⟨q2,q2'⟩:=wn k2 k3 hk3 (by omega) (by have:=HN.out;omega)
   obtain⟨q3,q3'⟩:=wn k3 k4 hk4 (by omega) (by have:=HN.out;omega)
   have HE1:=zqm hk1
   have HE2:=zqm hk2
   have HE3:=zqm hk3
   have HE4:=zqm hk4
   rw [← hk1]
   clear hX hS h1 h2 hlt wn hk1 hk2 hk3 hk4
   go_wp2_with (first|((with_reducible refine gate_store (t:=3) (p:=16) rfl ?_);have hcz_:wr.cell? ⟨g,i*3,none⟩=some (.int .i64 x0):=(blk_cell HX.out (i*3)).trans hx0;have hfz_:=blk_frozen HX.out (i*3);refine store_event (t:=3) (p:=16) (v:=?vo_0) (w1:=(wr.setCell ⟨g,i*3,none⟩ (.int .i64 k1))) ?hg ?ho ?hn ?hr ?_;(case ho=>rfl);(case hg=>rfl);(case hn=>rfl);(case hr=> exact zq5);intro w10 hw;clear hcz_ hfz_;have n0_:=zqm ((by rw [hw];exact blk_set HX.out (i*3) _:w10.heap[g]? =some (.cells (cur1.setIfInBounds (i*3) (.int .i64 k1)) 25 (0,0))));have n1_:=zqm ((by rw [hw];exact below_set HB.out HG.out:Below w0.heap.size w0 w10));have n2_:=zqm ((by rw [hw];exact KeepBut.set_ HK.out (i*3) _:KeepBut w w10 g none));clear HX HB HK;have HX:=n0_;have HB:=n1_;have HK:=n2_;clear n0_ n1_ n2_;clear hw)|((with_reducible refine gate_store (t:=3) (p:=23) rfl ?_);have hcz_:w10.cell? ⟨g,i*3+1,none⟩=some (.int .i64 x1):=(blk_cell HX.out (i*3+1)).trans (by simp only [Array.getElem?_setIfInBounds];(repeat rw [if_neg (by omega)]);exact hx1);have hfz_:=blk_frozen HX.out (i*3+1);refine store_event (t:=3) (p:=23) (v:=?vo_1) (w1:=(w10.setCell ⟨g,i*3+1,none⟩ (.int .i64 k2))) ?hg ?ho ?hn ?hr ?_;(case ho=>rfl);(case hg=>rfl);(case hn=>rfl);(case hr=> exact zq5);intro w11 hw;clear hcz_ hfz_;have n0_:=zqm ((by rw [hw];exact blk_set HX.out (i*3+1) _:w11.heap[g]? =some (.cells ((cur1.setIfInBounds (i*3) (.int .i64 k1)).setIfInBounds (i*3+1) (.int .i64 k2)) 25 (0,0))));have n1_:=zqm ((by rw [hw];exact below_set HB.out HG.out:Below w0.heap.size w0 w11));have n2_:=zqm ((by rw [hw];exact KeepBut.set_ HK.out (i*3+1) _:KeepBut w w11 g none));clear HX HB HK;have HX:=n0_;have HB:=n1_;have HK:=n2_;clear n0_ n1_ n2_;clear hw)|((with_reducible refine gate_store (t:=3) (p:=30) rfl ?_);have hcz_:w11.cell? ⟨g,i*3+2,none⟩=some (.int .i64 x2):=(blk_cell HX.out (i*3+2)).trans (by simp only [Array.getElem?_setIfInBounds];(repeat rw [if_neg (by omega)]);exact hx2);have hfz_:=blk_frozen HX.out (i*3+2);refine store_event (t:=3) (p:=30) (v:=?vo_2) (w1:=(w11.setCell ⟨g,i*3+2,none⟩ (.int .i64 k3))) ?hg ?ho ?hn ?hr ?_;(case ho=>rfl);(case hg=>rfl);(case hn=>rfl);(case hr=> exact zq5);intro w12 hw;clear hcz_ hfz_;have n0_:=zqm ((by rw [hw];exact blk_set HX.out (i*3+2) _:w12.heap[g]? =some (.cells (((cur1.setIfInBounds (i*3) (.int .i64 k1)).setIfInBounds (i*3+1) (.int .i64 k2)).setIfInBounds (i*3+2) (.int .i64 k3)) 25 (0,0))));have n1_:=zqm ((by rw [hw];exact below_set HB.out HG.out:Below w0.heap.size w0 w12));have n2_:=zqm ((by rw [hw];exact KeepBut.set_ HK.out (i*3+2) _:KeepBut w w12 g none));clear HX HB HK;have HX:=n0_;have HB:=n1_;have HK:=n2_;clear n0_ n1_ n2_;clear hw))
   go_roundg kn
   case measure=>omega
   case rel=>exact⟨i+1,congrArg (Value.int .i64) (by have:=HE1.out;have:=HE2.out;have:=HE3.out;have:=HE4.out;omega),congrArg (Value.int .i64) (wrap_nat (show i<4611686018427387904 by have:=HLT.out;have:=HN.out;omega)),⟨by have:=HF.out;omega⟩,⟨HLT.out⟩,⟨_,HX.out,by
    obtain⟨y1,y2,y3⟩:=cur_step HE1.out HE2.out HE3.out HLT.out (by rw [HS.out];exact HC.out) H1.out H2.out
    exact⟨y1.trans HS.out,y2,y3⟩⟩,⟨HB.out⟩,⟨HK.out⟩⟩
  ·have hlt':decide (i<n)=false:=decide_eq_false hlt
   have p1:(i<n)=False:=eq_false hlt
   have p2:((i:Int)<(n:Int))=False:=eq_false (by omega)
   have p2':decide ((i:Int)<(n:Int))=false:=decide_eq_false (by omega)
   obtain rfl:i=n:=by have:=HI.out;omega
   clear hlt hX hS h1 h2
   go_wp2_with fail
   go_ret
   exact⟨rfl,⟨cur1,HX.out,H1.out⟩,HB.out,HK.out⟩
def mkS (n : Nat) : List S25 := (List.range n).map fun (i : Nat) => ⟨1 + 3 * (i : Int), 2 + 3 * (i : Int), 3 + 3 * (i : Int)⟩
theorem mkS_len (n : Nat) : (mkS n).length = n := by simp [mkS]
theorem held_ev (n : Nat) (hn : n ≤ 16777216) : Ev (fun k => laws_heldDeedS.f k (mkS n) 1) (1 + 3 * (n : Int)) := by
 unfold laws_heldDeedS.f
 refine Ev.loop (g:=fun k st i=>laws_heldDeedS.l0 k (mkS n) st i) n (fun i st=>st=1+3*(i:Int)) (by omega) (fun st h=>?_) (fun i st hi h=>?_) 1 (by omega)
 ·subst h
  refine Ev.succ ?_
  simp only [laws_heldDeedS.l0,mkS_len]
  exact Ev.ite_neg (by omega) (Ev.now _)
 ·subst h
  refine⟨1+3*((i+1:Nat):Int),rfl,fun K=>Ev.succ ?_⟩
  have er:rd_T25 (mkS n) (i:Int)=⟨1+3*(i:Int),2+3*(i:Int),3+3*(i:Int)⟩:=by simp [rd_T25,mkS,hi]
  have w1:wrap64 (1+3*(i:Int)+1)=2+3*(i:Int):=by unfold wrap64;omega
  have w2:wrap64 (2+3*(i:Int)+1)=3+3*(i:Int):=by unfold wrap64;omega
  have w3:wrap64 (3+3*(i:Int)+1)=1+3*((i+1:Nat):Int):=by unfold wrap64;omega
  simp only [laws_heldDeedS.l0,mkS_len,er,w1,w2,w3]
  exact Ev.ite_pos (by omega) (Ev.ite_pos (by omega) (Ev.ite_pos trivial (Ev.ite_pos trivial (Ev.ite_pos trivial K))))
theorem add0 (g m : Nat) : (⟨g, 0, none⟩ : Addr).add m = ⟨g, m, none⟩ := by by_cases h : m = 0 <;> simp [Addr.add, h]
theorem mkS_C {w : World} {g n : Nat} {cur : Array Value} (hn : n ≤ 16777216) (hb : w.heap[g]? = some (.cells cur 25 (0, 0))) (h : ∀ j, j < n * 3 → cur[j]? = some (.int .i64 (1 + (j : Int)))) : Kd.C k25 w (some ⟨g, 0, none⟩) n (mkS n) := by
 refine⟨mkS_len n,by omega,fun _=>⟨_,rfl,fun j p hp=>?_⟩⟩
 have hj:j<n:=by
  have:=(List.getElem?_eq_some_iff.1 hp).1
  rwa [mkS_len] at this
 have hp':p=⟨1+3*(j:Int),2+3*(j:Int),3+3*(j:Int)⟩:=by
  unfold mkS at hp
  rw [List.getElem?_map,List.getElem?_range hj] at hp
  simpa using hp.symm
 subst hp'
 refine⟨_,rfl,k25_mk _ _,fun i u hu=>?_⟩
 have hi:i<3:=by
  have:=(List.getElem?_eq_some_iff.1 hu).1
  simpa using this
 have e:w.cell? ((⟨g,0,none⟩:Addr).add (j*3+i))=some (.int .i64 (1+((j*3+i:Nat):Int))):=by
  rw [add0,blk_cell hb]
  exact h _ (by omega)
 refine e.trans ?_
 match i,hi with
 |0,_=>exact(congrArg (fun z=>some (Value.int .i64 z)) (show (1:Int)+((j*3+0:Nat):Int)=1+3*(j:Int) by omega)).trans hu
 |1,_=>exact(congrArg (fun z=>some (Value.int .i64 z)) (show (1:Int)+((j*3+1:Nat):Int)=2+3*(j:Int) by omega)).trans hu
 |2,_=>exact(congrArg (fun z=>some (Value.int .i64 z)) (show (1:Int)+((j*3+2:Nat):Int)=3+3*(j:Int) by omega)).trans hu
theorem made_block {w : World} {base : Nat} {A : Option Addr} {n c : Nat} {l : List S25} {ok : Nat → Prop} (h : Kd.R k25 25 w base ok (.slice A n c) l) (hn : 0 < n) : ∃ g cur, A = some ⟨g, 0, none⟩ ∧ base ≤ g ∧ w.heap[g]? = some (.cells cur 25 (0, 0)) ∧ n * 3 ≤ cur.size ∧ ∀ j, j < n * 3 → ∃ x : Int, cur[j]? = some (.int .i64 x) := by
 obtain⟨hl,_,hC⟩:=Kd.R_reads' h
 obtain⟨g,cap,e,hb,_,cur,hcur⟩:=Kd.R_form h (by omega)
 injection e with e1 e2 e3
 subst e1
 have each: ∀j,j<n*3→ ∃x:Int,cur[j]? =some (.int .i64 x):=fun j hj=>by
  obtain⟨ad,e4,hx⟩:=hC.2.2 (by omega)
  cases e4
  have hj3:j / 3<l.length:=by omega
  obtain⟨cs,hcs,hk,hcell⟩:=hx (j / 3) _ (List.getElem?_eq_getElem hj3)
  obtain rfl:=k25_open hk
  have hm:j % 3<3:=Nat.mod_lt _ (by decide)
  have ej:j / 3*3+j % 3=j:=by omega
  have fin: ∀u,[Value.int .i64 l[j / 3].f0,.int .i64 l[j / 3].f1,.int .i64 l[j / 3].f2][j % 3]? =some u→cur[j]? =some u:=fun u hu=>by
   have h1:=hcell (j % 3) u hu
   rw [show j / 3*(k25).sz+j % 3=j from ej,add0,blk_cell hcur] at h1
   exact h1
  match h3:j % 3,hm with
  |0,_=>exact⟨_,fin _ (by rw [h3];rfl)⟩
  |1,_=>exact⟨_,fin _ (by rw [h3];rfl)⟩
  |2,_=>exact⟨_,fin _ (by rw [h3];rfl)⟩
 refine⟨g,cur,rfl,hb,hcur,?_,each⟩
 obtain⟨x,hx⟩:=each (n*3 - 1) (by omega)
 have:=(Array.getElem?_eq_some_iff.1 hx).1
 omega
set_option maxHeartbeats 1000000 in
theorem mark0_calls (A : Option Addr) (c : Nat) (w : World) : Calls Tryd.prog 23 #[.slice A 0 c, .int .i64 1] w fun e w' => e = .returned (.int .i64 1) ∧ Below w.heap.size w w' := by
 go_enter Tryd.func23,Tryd.ntmps23
 go_wp2_with fail
 go_loopg [1,5] 1 (fun kq v1 v5 W=>v1= .int .i64 1∧v5= .int .i64 0∧Aside0 (Below w.heap.size w W))
 case atStart=>exact⟨rfl,rfl,⟨Below.refl _ _⟩⟩
 case round=>
  obtain⟨rfl,rfl,HB⟩:=hrel
  go_wp2_with fail
  go_ret
  exact⟨rfl,by repeat(first|exact HB.out|apply below_alloc|apply pw_below_drewN|apply below_drew1)⟩
theorem mark_any (A : Option Addr) (n c : Nat) (l : List S25) (hn : n ≤ 16777216) (w0 w w1 : World) (ok : Nat → Prop) (h : Kd.R k25 25 w w1.heap.size ok (.slice A n c) l) (hg : w0.heap.size ≤ w1.heap.size) (hB : Below w0.heap.size w0 w) :
 Calls Tryd.prog 23 #[.slice A n n,.int .i64 1] w fun e w'=>e= .returned (.int .i64 (1+3*(n:Int)))∧Kd.C k25 w' A n (mkS n)∧Below w0.heap.size w0 w'∧(∀(A2:Option Addr) (n2:Nat) (l2:List S25),Kd.C k25 w A2 n2 l2→(∀ad,A2=some ad→0<n2→ad.block<w1.heap.size)→Kd.C k25 w' A2 n2 l2):=by
 by_cases h0:n=0
 ·subst h0
  refine(mark0_calls A 0 w).mono ?_
  rintro e w' ⟨rfl,hb⟩
  exact⟨rfl,⟨mkS_len 0,Nat.zero_le _,fun h=>absurd h (Nat.lt_irrefl 0)⟩,below_step hB hb,fun A2 n2 l2 h _=>Kd.C_below h hb⟩
 ·obtain⟨g,cur,rfl,hgb,hb,hc,hv⟩:=made_block h (by omega)
  refine(mark_calls g n n hn w0 w cur hb (Nat.le_trans hg hgb) hB hc hv).mono ?_
  rintro e w' ⟨rfl,⟨cur',hb',hv'⟩,hB',hk⟩
  refine⟨rfl,mkS_C hn hb' hv',hB',fun A2 n2 l2 h2 hlt=>Kd.C_foot_ne (fun hK=>by rw [k25_open hK];exact k25_mk _ _) h2 (fun ad e hp=>by have:=hlt ad e hp;omega) w' hk⟩
theorem held_calls (A : Option Addr) (n c : Nat) (hn : n ≤ 16777216) (hc : n ≤ c) (w : World) (h : Kd.C k25 w A n (mkS n)) : Calls Tryd.prog 24 #[.slice A n c, .int .i64 1] w fun e w' => e = .returned (.int .i64 (1 + 3 * (n : Int))) ∧ Below w.heap.size w w' := by
 obtain⟨K,hK⟩:=(held_ev n hn).rounds
 have h2:=laws_heldDeedS.calls K A c (mkS n) 1 (1+3*(n:Int)) w (by rw [mkS_len];exact h) (by rw [mkS_len];exact hc) hK
 rw [mkS_len] at h2
 refine h2.mono ?_
 rintro e w' ⟨rfl,⟨⟨nd,rfl⟩⟩⟩
 exact⟨rfl,pw_below_drewN (Below.refl _ _) _⟩
theorem eqDeed_self (a b c : Int) : laws_eqDeed.f a b c a b c = some true := by
 unfold laws_eqDeed.f
 rw [if_pos rfl, if_pos rfl, if_pos rfl]
theorem eqDeedS_ev (l : List S25) (hl : l.length < 4611686018427387904) : Ev (fun k => laws_eqDeedS.f k l l) true := by
 unfold laws_eqDeedS.f
 refine Ev.ite_pos rfl ?_
 refine Ev.loop (g:=fun k (_:Unit) i=>laws_eqDeedS.l0 k l l i) l.length (fun _ _=>True) hl (fun _ _=>?_) (fun i _ hi _=>⟨(),trivial,fun K=>?_⟩) () trivial
 ·refine Ev.succ ?_
  simp only [laws_eqDeedS.l0]
  exact Ev.ite_neg (by omega) (Ev.now _)
 ·refine Ev.succ ?_
  simp only [laws_eqDeedS.l0]
  exact Ev.ite_pos (by omega) (Ev.ite_pos (by omega) (Ev.ite_pos (by omega) (Ev.pbind (eqDeed_self _ _ _) (Ev.ite_pos rfl K))))
set_option maxHeartbeats 4000000 in
set_option maxRecDepth 100000 in
theorem laws_FnExactReadJournal.holds (s : ByteArray) (w : World) (ad : Addr) (cw : Nat) (hW : WordsAt w ad cw) (hE : ErrsAt w) :
 Calls Tryd.prog 6 #[.string s] w fun e w'=>e= .returned (.bool true)∧Below w.heap.size w w':=by
 have HW:=zqm hW
 have HE:=zqm hE
 have HB:=zqm (Below.refl w.heap.size w)
 by_cases hl:1048576<s.size
 ·clear hW hE
  have p0:((1048576:Int)<(s.size:Int))=True:=eq_true (by omega)
  have p0':decide ((1048576:Int)<(s.size:Int))=true:=decide_eq_true (by omega)
  have p0n:(1048576<s.size)=True:=eq_true hl
  have p0n':decide (1048576<s.size)=true:=decide_eq_true hl
  clear hl
  go_enter Tryd.func6,Tryd.ntmps6
  go_wp2_with (first|fail)
  go_ret
  exact⟨rfl,zq11⟩
 ·have p0:((1048576:Int)<(s.size:Int))=False:=eq_false (by omega)
  have p0':decide ((1048576:Int)<(s.size:Int))=false:=decide_eq_false (by omega)
  have p0n:(1048576<s.size)=False:=eq_false hl
  have p0n':decide (1048576<s.size)=false:=decide_eq_false hl
  have h1:=spec_ReadJournal.ev s (by omega)
  have hj:=fun w (h1:WordsAt w ad cw) (h2:ErrsAt w)=>rjou_calls s w ad cw h1 h2 (by omega)
  have hn:(rdJ s).1.length≤16777216:=by
   have:=jrn_len s.data.toList []
   rw [← Lib.size_eq] at this
   show (jrn [] s.data.toList).1.length≤_
   omega
  obtain⟨⟨l,r⟩,hr⟩: ∃x,x=rdJ s:=⟨_,rfl⟩
  rw [← hr] at h1 hj hn
  obtain⟨K1,h1⟩:=h1.rounds
  obtain⟨K3,h3⟩:=(eqDeedS_ev l (show l.length<4611686018427387904 by have:l.length≤16777216:=hn;omega)).rounds
  have H1:=zqm h1
  have H3:=zqm h3
  have HJ:=zqm hj
  have HN:=zqm (show l.length≤16777216 from hn)
  obtain⟨m,hm⟩: ∃m,1+3*(l.length:Int)=m:=⟨_,rfl⟩
  have HM4:=zqm hm
  have pm:(m<0)=False:=eq_false (by omega)
  have pm':decide (m<0)=false:=decide_eq_false (by omega)
  clear hW hE hl h1 h3 hj hr hn hm
  have tok1:True:=trivial
  go_enter Tryd.func6,Tryd.ntmps6
  go_wp2_with (first|(have _t:=tok1;go_at_call 21;(with_reducible refine(spec_ReadJournal.calls K1 s l r _ H1.out).mono ?_);rintro e w' ⟨v_,rfl,ho,hb⟩;obtain⟨A0,c0,rfl⟩:=Kd.R_slice ho;have HR0:=zqm (Kd.R_reads' ho).2.2;have HC0:=zqm (Kd.R_reads' ho).2.1;have HA0:=zqm (show∀ad,A0=some ad→0<l.length→ad.block<w'.heap.size from fun ad e hp=>by subst e;exact Kd.C_lt HR0.out hp (by decide));obtain⟨wq,hwq⟩: ∃wq,wq=w':=⟨_,rfl⟩;rw [← hwq] at HA0;have n0_:=zqm (below_step HB.out hb);clear HB;have HB:=n0_;clear n0_;have HQ:=zqm (show w'.heap.size=wq.heap.size from by rw [hwq]);clear hwq ho hb;clear tok1 _t;have tok2:True:=trivial)|(have _t:=tok2;go_at_call 22;(with_reducible refine(HJ.out _ (HW.out.below HB.out) (HE.out.below HB.out)).mono ?_);rintro e w' ⟨A1,n1,c1,rfl,ho,hb⟩;obtain rfl:=(Kd.R_reads' ho).1;have HR1:=zqm (Kd.R_reads' ho).2.2;rw [HQ.out] at ho;have HO:=zqm ho;have HS:=zqm (show w.heap.size≤wq.heap.size from by rw [← HQ.out];exact HB.out.size);have n0_:=zqm (below_step HB.out hb);have n1_:=zqm (Kd.C_below HR0.out hb);clear HB HR0;have HB:=n0_;have HR0:=n1_;clear n0_ n1_;clear ho hb HQ;clear tok2 _t;have tok3:True:=trivial)|(have _t:=tok3;go_at_call 17;(with_reducible refine(laws_eqDeedS.calls K3 A1 l.length l A0 c0 l true _ HR1.out (Nat.le_refl _) HR0.out HC0.out H3.out).mono ?_);rintro e w' ⟨rfl,hb⟩;have n0_:=zqm (below_step HB.out hb);have n1_:=zqm (Kd.C_below HR0.out hb);have n2_:=zqm (Kd.R_below HO.out hb);clear HB HR0 HO;have HB:=n0_;have HR0:=n1_;have HO:=n2_;clear n0_ n1_ n2_;clear hb HR1;clear tok3 _t;have tok4:True:=trivial)|(have _t:=tok4;go_at_call 23;(with_reducible refine(mark_any A1 l.length c1 l HN.out w _ wq _ HO.out HS.out HB.out).mono ?_);rintro e w' ⟨rfl,hc,hB,hf⟩;have n0_:=zqm hc;have n1_:=zqm hB;have n2_:=zqm (hf A0 l.length l HR0.out HA0.out);clear HB HR0 HO HS hc hB hf;have HM:=n0_;have HB:=n1_;have HR0:=n2_;clear n0_ n1_ n2_;rw [HM4.out];clear tok4 _t;have tok5:True:=trivial)|(have _t:=tok5;go_at_call 24;(with_reducible refine(held_calls A1 l.length l.length HN.out (Nat.le_refl _) _ HM.out).mono ?_);rintro e w' ⟨rfl,hb⟩;have n0_:=zqm (below_step HB.out hb);have n1_:=zqm (Kd.C_below HR0.out hb);have n2_:=zqm (Kd.C_below HM.out hb);clear HB HR0 HM;have HB:=n0_;have HR0:=n1_;have HM:=n2_;clear n0_ n1_ n2_;clear hb;rw [HM4.out];clear tok5 _t;have tok6:True:=trivial)|(have _t:=tok6;go_at_call 22;(with_reducible refine(HJ.out _ (HW.out.below HB.out) (HE.out.below HB.out)).mono ?_);rintro e w' ⟨A2,n2,c2,rfl,ho,hb⟩;obtain rfl:=(Kd.R_reads' ho).1;have HR2:=zqm (Kd.R_reads' ho).2.2;have n0_:=zqm (below_step HB.out hb);have n1_:=zqm (Kd.C_below HR0.out hb);have n2_:=zqm (Kd.C_below HM.out hb);clear HB HR0 HM;have HB:=n0_;have HR0:=n1_;have HM:=n2_;clear n0_ n1_ n2_;clear ho hb;clear tok6 _t;have tok7:True:=trivial)|(have _t:=tok7;go_at_call 17;(with_reducible refine(laws_eqDeedS.calls K3 A2 l.length l A0 c0 l true _ HR2.out (Nat.le_refl _) HR0.out HC0.out H3.out).mono ?_);rintro e w' ⟨rfl,hb⟩;have n0_:=zqm (below_step HB.out hb);have n1_:=zqm (Kd.C_below HM.out hb);clear HB HM;have HB:=n0_;have HM:=n1_;clear n0_ n1_;clear hb HR2;clear tok7 _t;have tok8:True:=trivial)|(have _t:=tok8;go_at_call 24;(with_reducible refine(held_calls A1 l.length l.length HN.out (Nat.le_refl _) _ HM.out).mono ?_);rintro e w' ⟨rfl,hb⟩;have n0_:=zqm (below_step HB.out hb);clear HB;have HB:=n0_;clear n0_;clear hb HM;rw [HM4.out];clear tok8 _t;have tok9:True:=trivial))
  go_ret
  exact⟨rfl,zq11⟩
end Go.Proofs.YtddgcdpogpppgaaDoor.Print
end
