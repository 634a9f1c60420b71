/- Part 9 of what is common to several claims of this seat: RdL, JtL. -/
import Derived.Test.YtddgcdpogpppgaaDoorLB8
import Derived.Below
import Derived.Deep.Draws
import Derived.Deep.AppendLies
import Derived.Maps.AppendAt
import Derived.OwnWalk
import Derived.Laws.BytesArg
import Derived.Laws.MakeOwn
import Derived.Laws.OwnMore
import Derived.Deep.OwnRows
import Derived.Tactics
import Derived.Lib.ConvBytes
import Derived.Laws.Slices
import Derived.WalkKit
import Derived.KernelRfl
import Derived.RowKit3
import Derived.Deep.LoopGhost
import Derived.Deep.QuietTactic
import Derived.BigQuiet
import Derived.WideLaws
import Derived.Deep.DeepCutAuto
import Derived.Deep.CutBlock
import Derived.Deep.RegionHeld3
import Derived.Laws.Rows
import Derived.Lib.AppendStr
import Derived.ArgAppend
import Derived.Laws.IdiomCopy
import Derived.RowKit
import Derived.OrdersHeld
import Derived.Laws.BitsLemmas
import Derived.Laws.StructEq
import Derived.Test.YtddgcdpogpppgaaDoorProg
import Derived.Lib.ItoaNum
import Derived.Lib.Strings
import Derived.Shelf.Utf8.RuneCount
import Derived.Shelf.Strconv.Atoi
import Derived.Shelf.Strconv.Itoa0
import Derived.Shelf.Strconv.Itoa1
import Derived.Shelf.LaysM
import Derived.Shelf.Strconv.Itoa2
import Derived.Shelf.Strconv.Itoa3
import Derived.Shelf.Strconv.AtoiErrFast
import Derived.Shelf.Strconv.ParseIntEmpty
import Derived.Shelf.Strconv.AtoiFail
import Derived.Shelf.Strconv.Clone
import Derived.Shelf.Strconv.SyntaxError
import Derived.Shelf.LaysC
import Derived.Shelf.Strconv.ToError
import Derived.Shelf.Strconv.Lower
import Derived.Shelf.Strconv.ParseUint10
import Derived.Shelf.Strconv.ParseUint10Empty
import Derived.Shelf.Strconv.ParseUint10Any
import Derived.Shelf.Strconv.ParseInt10
import Derived.Shelf.Strconv.AtoiLong
import Derived.Shelf.Strconv.AtoiInnerAll
import Derived.Shelf.Strconv.RangeError
import Derived.Shelf.Strconv.ToErrorRange
import Derived.Shelf.Strconv.AtoiAll
import Derived.Shelf.Strconv.ErrVarAll
import Derived.Shelf.Strings.Search1
import Derived.Shelf.Strings.Search2
import Derived.Shelf.Strings.Search3
import Derived.Shelf.Strings.Cut
import Derived.Shelf.Strings.Count
import Derived.Shelf.Strings.Shaped
import Derived.Shelf.Strings.Split
import Derived.Shelf.Strings.SplitShaped
import Derived.Shelf.Unicode.Decode
import Derived.Shelf.Strings.RuneCount
import Derived.Shelf.Strings.Explode
import Derived.Shelf.Unicode.DecodeSlow
import Derived.Shelf.Unicode.DecodeAny
import Derived.Shelf.Slices.Turned
import Derived.ProofKit
import Derived.OpenShut
import Derived.LaidMore
import Derived.Lay
import Derived.ChangeVars
import Derived.Lib.LaidU8
import Derived.Lib.SmallJoins
import Derived.Deep.DeepHandedRow
import Derived.Lib.SplitLaws
import Derived.Lib.SlicesS
import Derived.Lib.AtoiAll
import Derived.Lib.IndexBytes
import Derived.LaidLaws
set_option linter.all false
section
namespace Go.Proofs.YtddgcdpogpppgaaDoor.Print
open Go.RowKit Go.Proofs.YtddgcdpogpppgaaDoorW.PrintWords Go.Proofs.YtddgcdpogpppgaaDoorW.PrintLast Go.Proofs.YtddgcdpogpppgaaDoorW.PrintMore
section
attribute [local go_sem] max2_int min2_int max_two min_two max_three min_three max_four min_four
def laws_alive.f (k : Nat)  : Option (Bool) := (impl_OrderOk.f k (([(([1] : List Int))] : List (List Int)))).bind fun t609 => (if t609 = true then ((impl_OrderOk.f k (([(([0] : List Int))] : List (List Int)))).bind fun t616 => (some (!t616))) else (some false))
theorem laws_alive.mono : ∀ k, LeO (laws_alive.f k ) (laws_alive.f (k + 1) ) := by
 intro  k
 unfold laws_alive.f
 repeat' first
   | (with_reducible exact impl_OrderOk.mono _ _)
   | (with_reducible exact LeO.refl _)
   | (with_reducible exact LeO.none _)
   | (with_reducible refine LeO.ite ?_ ?_)
   | (with_reducible refine LeO.bind ?_ (fun _ => ?_))
   | exact impl_OrderOk.mono _ _
   | exact LeO.none _
   | refine LeO.ite ?_ ?_
   | refine LeO.bind ?_ (fun _ => ?_)
set_option maxHeartbeats 8000000 in
set_option maxRecDepth 100000 in
theorem laws_alive.calls (k : Nat)  (r : Bool) (w : World) (h : laws_alive.f k  = some r) :
  Calls Tryd.prog 26 #[] w fun e w' => e = .returned (.bool r) ∧ Below w.heap.size w w' := by
 have HB:=zqm (Below.refl w.heap.size w);have H:((impl_OrderOk.f k (([(([1]:List Int))]:List (List Int)))).bind fun a5=>(if a5=true then((impl_OrderOk.f k (([(([0]:List Int))]:List (List Int)))).bind fun a2=>(some (!a2))) else(some false)))=some r:=h;clear h;obtain⟨a3,b7⟩: ∃y_:List Int,y_=(([1]:List Int)):=⟨_,rfl⟩;replace H:((impl_OrderOk.f k (([a3]:List (List Int)))).bind fun a5=>(if a5=true then((impl_OrderOk.f k (([(([0]:List Int))]:List (List Int)))).bind fun a2=>(some (!a2))) else(some false)))=some r:=zqy b7 H;have b0:=zqm b7;clear b7;obtain⟨a4,b8⟩: ∃y_:List (List Int),y_=(([a3]:List (List Int))):=⟨_,rfl⟩;replace H:((impl_OrderOk.f k a4).bind fun a5=>(if a5=true then((impl_OrderOk.f k (([(([0]:List Int))]:List (List Int)))).bind fun a2=>(some (!a2))) else(some false)))=some r:=zqy b8 H;have b1:=zqm b8;clear b8;replace H:=Option.bind_eq_some_iff.mp H;obtain⟨a5,d1,H⟩:=H;(try dsimp only at H);have A1:=zqm d1;clear d1
 by_cases c2:a5=true
 ·subst c2;rw [if_pos rfl] at H;obtain⟨a8,b9⟩: ∃y_:List Int,y_=(([0]:List Int)):=⟨_,rfl⟩;replace H:((impl_OrderOk.f k (([a8]:List (List Int)))).bind fun a2=>(some (!a2)))=some r:=zqy b9 H;have c4:=zqm b9;clear b9;obtain⟨d0,c0⟩: ∃y_:List (List Int),y_=(([a8]:List (List Int))):=⟨_,rfl⟩;replace H:((impl_OrderOk.f k d0).bind fun a2=>(some (!a2)))=some r:=zqy c0 H;have c5:=zqm c0;clear c0;replace H:=Option.bind_eq_some_iff.mp H;obtain⟨a2,d2,H⟩:=H;(try dsimp only at H);have A3:=zqm d2;clear d2;obtain rfl:=Option.some.inj H
  go_enter Tryd.func26,Tryd.ntmps26
  go_wp2_with (first|((with_reducible refine gate_dst (N:=1) rfl ?_);(try(refine gate_guard (by rfl) ?_;dsimp only));refine Kd.R_lit (Kd.int .i64) _ 3 ?hg (N:=1) ?hd (xs:=([1]:List Int)) (inner:= [.int .i64 1]) (ok:=fun _=>True) (okp:=fun _=>True) ?hr ?hp (fun _ hk=>hk) trivial (Below.refl _ _) (Nat.le_refl _) (by simp) ?_;(case hd=>rfl);(case hg=>rfl);(case hr=> exact zq18);(case hp=> exact zq125);intro e1 w4 c1 hb hg_ hnew_;clear hg_ hnew_;(first|rw [← b0.out] at c1|(simp only [Int.reduceToNat] at c1;rw [← b0.out] at c1));have a1:=zqm (Kd.R_lower c1 (below_size zq5));replace HB:=zqm (below_step zq5 hb);clear hb c1;obtain⟨d3,d4,e3⟩:=Kd.R_slice a1.out;subst e3)|((with_reducible refine gate_dst (N:=2) rfl ?_);(try(refine gate_guard (by rfl) ?_;dsimp only));refine Kd.N_lit (Kd.slice 3 (Kd.int .i64)) _ 66 ?hg (N':=2) ?hd (xs:=([a3]:List (List Int))) (inner:= [.slice d3 a3.length d4]) (ok:=(fun _=>True)) (okp:=(fun _=>True)) ?hr ?hp (fun _ hk=>hk) ((show∀k_,w4.heap.size≤k_→(fun _=>True) k_ from fun k_ hk=>trivial) _ (Nat.le_refl _)) (Below.refl _ _) (Nat.le_refl _) (by simp) ?_;(case hd=>rfl);(case hg=>rfl);(case hr=> exact zq18);(case hp=>exact(Reps.one (show Kd.FK (Kd.slice 3 (Kd.int .i64)) _ _ a3 [.slice d3 a3.length d4] from (Kd.FK_slice_mk (Kd.R_reads' (Kd.R_mono (ok':=(fun _=>True)) (a1.out) (fun k_ hk=>trivial))).2.1 (Kd.R_F (Kd.R_mono (ok':=(fun _=>True)) (a1.out) (fun k_ hk=>trivial))))) (Reps.none _ _)));intro e2 w7 c3 hb hg_ hnew_;clear hg_ hnew_;(first|rw [← b1.out] at c3|(simp only [Int.reduceToNat] at c3;rw [← b1.out] at c3));have a0:=zqm (Kd.N_lower c3 (below_size zq5));replace HB:=zqm (below_step zq5 hb);clear a1;clear hb c3;obtain⟨b4,b5,e4⟩:=Kd.N_slice a0.out;subst e4)|((with_reducible refine gate_callee (f:=44) rfl ?_);refine goesL_ (some 3) rfl rfl Tryd.func44 zqk rfl #[.slice b4 a4.length b5] rfl zq2 ?_;(with_reducible refine(impl_OrderOk.calls k _ _ a4 true _ ?side1 ?side2 A1.out).mono ?_);(case side1=> exact zq99);(case side2=>exact(Kd.N_reads' a0.out).2.1);rintro e w' ⟨rfl,⟨nd,rfl⟩⟩;refine⟨_,rfl,?_⟩)|((with_reducible refine gate_dst (N:=5) rfl ?_);(try(refine gate_guard (by rfl) ?_;dsimp only));refine Kd.R_lit (Kd.int .i64) _ 3 ?hg (N:=5) ?hd (xs:=([0]:List Int)) (inner:= [.int .i64 0]) (ok:=fun _=>True) (okp:=fun _=>True) ?hr ?hp (fun _ hk=>hk) trivial (Below.refl _ _) (Nat.le_refl _) (by simp) ?_;(case hd=>rfl);(case hg=>rfl);(case hr=> exact zq18);(case hp=>exact(Reps.one (show Kd.M (Kd.int .i64) _ _ _ 0 [.int .i64 0] from rfl) (Reps.none _ _)));intro e9 e5 a6 hb hg_ hnew_;clear hg_ hnew_;(first|rw [← c4.out] at a6|(simp only [Int.reduceToNat] at a6;rw [← c4.out] at a6));replace a0:=zqm (Kd.N_elder' zq109 (Kd.R_base a6) hb);have a9:=zqm (Kd.R_lower a6 (below_size zq5));replace HB:=zqm (below_step zq5 hb);clear hb a6;obtain⟨c6,c8,d7⟩:=Kd.R_slice a9.out;subst d7)|((with_reducible refine gate_dst (N:=6) rfl ?_);(try(refine gate_guard (by rfl) ?_;dsimp only));refine Kd.N_lit (Kd.slice 3 (Kd.int .i64)) _ 66 ?hg (N':=6) ?hd (xs:=([a8]:List (List Int))) (inner:= [.slice c6 a8.length c8]) (ok:=(fun k_=>some k_≠(.slice b4 a4.length b5:Value).ownBlock)) (okp:=(fun k_=>some k_≠(.slice b4 a4.length b5:Value).ownBlock)) ?hr ?hp (fun _ hk=>hk) ((show∀k_,e5.heap.size≤k_→(fun k_=>some k_≠(.slice b4 a4.length b5:Value).ownBlock) k_ from fun k_ hk=>Kd.fresh' (Kd.N_lt zq109) k_ hk) _ (Nat.le_refl _)) (Below.refl _ _) (Nat.le_refl _) (by simp) ?_;(case hd=>rfl);(case hg=>rfl);(case hr=> exact zq18);(case hp=>exact(Reps.one (show Kd.FK (Kd.slice 3 (Kd.int .i64)) _ _ a8 [.slice c6 a8.length c8] from (Kd.FK_slice_mk (Kd.R_reads' (Kd.R_mono (ok':=(fun k_=>some k_≠(.slice b4 a4.length b5:Value).ownBlock)) (Kd.R_apart' (a9.out) (Kd.N_typed a0.out) (by decide)) (fun k_ hk=>hk.2))).2.1 (Kd.R_F (Kd.R_mono (ok':=(fun k_=>some k_≠(.slice b4 a4.length b5:Value).ownBlock)) (Kd.R_apart' (a9.out) (Kd.N_typed a0.out) (by decide)) (fun k_ hk=>hk.2))))) (Reps.none _ _)));intro f0 f1 a7 hb hg_ hnew_;clear hg_ hnew_;(first|rw [← c5.out] at a7|(simp only [Int.reduceToNat] at a7;rw [← c5.out] at a7));replace a0:=zqm (Kd.N_elder' zq109 (Kd.N_base a7) hb);have b6:=zqm (Kd.N_lower a7 (below_size zq5));replace HB:=zqm (below_step zq5 hb);clear a9;clear hb a7;obtain⟨e7,e8,d8⟩:=Kd.N_slice b6.out;subst d8)|(go_at_call 44;(with_reducible refine(impl_OrderOk.calls k _ _ d0 a2 _ ?side1 ?side2 A3.out).mono ?_);(case side1=>repeat(first|exact(Kd.N_reads' b6.out).2.2|(with_reducible refine Kd.C_alloc ?_ _)|(with_reducible refine Kd.C_drewN ?_ _)|(with_reducible refine Kd.C_drew ?_)));(case side2=>exact(Kd.N_reads' b6.out).2.1);rintro e w' ⟨rfl,⟨nd,rfl⟩⟩))
  go_ret
  exact⟨zq23,zq5⟩
 ·replace c2:=Bool.eq_false_iff.mpr c2;subst c2;rw [if_neg (show¬(false=true) by decide)] at H;obtain rfl:=Option.some.inj H
  go_enter Tryd.func26,Tryd.ntmps26
  go_wp2_with (first|((with_reducible refine gate_dst (N:=1) rfl ?_);(try(refine gate_guard (by rfl) ?_;dsimp only));refine Kd.R_lit (Kd.int .i64) _ 3 ?hg (N:=1) ?hd (xs:=([1]:List Int)) (inner:= [.int .i64 1]) (ok:=fun _=>True) (okp:=fun _=>True) ?hr ?hp (fun _ hk=>hk) trivial (Below.refl _ _) (Nat.le_refl _) (by simp) ?_;(case hd=>rfl);(case hg=>rfl);(case hr=> exact zq18);(case hp=> exact zq125);intro e1 e6 b2 hb hg_ hnew_;clear hg_ hnew_;(first|rw [← b0.out] at b2|(simp only [Int.reduceToNat] at b2;rw [← b0.out] at b2));have a1:=zqm (Kd.R_lower b2 (below_size zq5));replace HB:=zqm (below_step zq5 hb);clear hb b2;obtain⟨c7,c9,d9⟩:=Kd.R_slice a1.out;subst d9)|((with_reducible refine gate_dst (N:=2) rfl ?_);(try(refine gate_guard (by rfl) ?_;dsimp only));refine Kd.N_lit (Kd.slice 3 (Kd.int .i64)) _ 66 ?hg (N':=2) ?hd (xs:=([a3]:List (List Int))) (inner:= [.slice c7 a3.length c9]) (ok:=(fun _=>True)) (okp:=(fun _=>True)) ?hr ?hp (fun _ hk=>hk) ((show∀k_,e6.heap.size≤k_→(fun _=>True) k_ from fun k_ hk=>trivial) _ (Nat.le_refl _)) (Below.refl _ _) (Nat.le_refl _) (by simp) ?_;(case hd=>rfl);(case hg=>rfl);(case hr=> exact zq18);(case hp=>exact(Reps.one (show Kd.FK (Kd.slice 3 (Kd.int .i64)) _ _ a3 [.slice c7 a3.length c9] from (Kd.FK_slice_mk (Kd.R_reads' (Kd.R_mono (ok':=(fun _=>True)) (a1.out) (fun k_ hk=>trivial))).2.1 (Kd.R_F (Kd.R_mono (ok':=(fun _=>True)) (a1.out) (fun k_ hk=>trivial))))) (Reps.none _ _)));intro e2 f2 b3 hb hg_ hnew_;clear hg_ hnew_;(first|rw [← b1.out] at b3|(simp only [Int.reduceToNat] at b3;rw [← b1.out] at b3));have a0:=zqm (Kd.N_lower b3 (below_size zq5));replace HB:=zqm (below_step zq5 hb);clear a1;clear hb b3;obtain⟨d5,d6,e0⟩:=Kd.N_slice a0.out;subst e0)|((with_reducible refine gate_callee (f:=44) rfl ?_);refine goesL_ (some 3) rfl rfl Tryd.func44 zqk rfl #[.slice d5 a4.length d6] rfl zq2 ?_;(with_reducible refine(impl_OrderOk.calls k _ _ a4 false _ ?side1 ?side2 A1.out).mono ?_);(case side1=> exact zq99);(case side2=>exact(Kd.N_reads' a0.out).2.1);rintro e w' ⟨rfl,⟨nd,rfl⟩⟩;refine⟨_,rfl,?_⟩))
  go_ret
  exact⟨zq23,zq5⟩
end
end Go.Proofs.YtddgcdpogpppgaaDoor.Print
end
section
namespace Go.Proofs.YtddgcdpogpppgaaDoor.Print
open Go.RowKit Go.Proofs.YtddgcdpogpppgaaDoorW.PrintWords Go.Proofs.YtddgcdpogpppgaaDoorW.PrintLast Go.Proofs.YtddgcdpogpppgaaDoorW.PrintMore
open Oml
theorem alive_run : Ev (fun k => laws_alive.f k) true := Ev.of laws_alive.mono (show laws_alive.f 60 = some true by kernel_rfl)
end Go.Proofs.YtddgcdpogpppgaaDoor.Print
end
