/- Part 6 of what is common to several claims of this seat: DualL. -/
import Derived.Test.YtbomiegcbimgoaaGreatLA5
import Derived.Below
import Derived.Deep.Draws
import Derived.Deep.AppendLies
import Derived.Maps.AppendAt
import Derived.OwnWalk
import Derived.Laws.BytesArg
import Derived.Laws.MakeOwn
import Derived.Laws.OwnMore
import Derived.Deep.OwnRows
import Derived.Tactics
import Derived.Lib.ConvBytes
import Derived.Laws.Slices
import Derived.WalkKit
import Derived.KernelRfl
import Derived.RowKit3
import Derived.Deep.LoopGhost
import Derived.Deep.QuietTactic
import Derived.BigQuiet
import Derived.WideLaws
import Derived.Deep.DeepCutAuto
import Derived.Deep.CutBlock
import Derived.Deep.RegionHeld3
import Derived.Laws.Rows
import Derived.Lib.AppendStr
import Derived.ArgAppend
import Derived.Laws.IdiomCopy
import Derived.RowKit
import Derived.OrdersHeld
import Derived.Laws.BitsLemmas
import Derived.Test.YtbomiegcbimgoaaGreatProg
set_option linter.all false
section
namespace Go.Proofs.YtbomiegcbimgoaaGreat.Print
open Go.RowKit Go.Proofs.YtbomiegcbimgoaaGreatW.PrintWords Go.Proofs.YtbomiegcbimgoaaGreatW.PrintLast Go.Proofs.YtbomiegcbimgoaaGreatW.PrintMore
open Oml
structure ToldFacts (k : Nat) (U : List (List Int)) : Prop where
 lat:impl_LatticeOk.f k U=some (latticeB U)
 turn:latticeB U=true→impl_turned.f k U=some (turnL U)
 meet:latticeB U=true→ ∀a b:Nat,a<U.length→b<U.length→impl_meet.f k U a b=some (mI U a b)
 join:latticeB U=true→ ∀a b:Nat,a<U.length→b<U.length→impl_meet.f k (turnL U) a b=some (jI U a b)
 least:latticeB U=true→impl_LeastOf.f k U=some (optI (leastO U),(leastO U).isSome)
set_option maxHeartbeats 1000000 in
set_option maxRecDepth 100000 in
theorem told_flat (k : Nat) (A0 : Option Addr) (c0 : Nat) (U : List (List Int)) (A1 : Option Addr) (c1 : Nat) (N : List Int) (w : World)
 (hr0:Kd.C (Kd.slice 3 (Kd.int .i64)) w A0 U.length U) (hc0:U.length≤c0) (hr1:Kd.C (Kd.int .i64) w A1 N.length N) (hc1:N.length≤c1) (hLat:impl_LatticeOk.f k U=some false):
 Calls Tryz.prog 20 #[.agg #[.slice A0 U.length c0,.slice A1 N.length c1]] w fun e w'=>e= .returned (.pointer none)∧Below w.heap.size w w':=by
 have hu30:=Tryz.underlying30
 have HR0:=zqm hr0
 have HLat:=zqm hLat
 clear hr0 hLat hr1
 go_enter Tryz.func20,Tryz.ntmps20
 go_wp2_with (first|((with_reducible refine gate_dst (N:=1) rfl ?_);refine box_event ?hg (N:=1) ?hd (cs:= #[.slice A0 U.length c0,.slice A1 N.length c1]) (t:=30) ?hr ?_;(case hd=>rfl);(case hg=>rfl);(case hr=>first|(go_simp;done)|(go_simp;rfl));intro gb hg_gb w1 hbox_gb hb;have HB:=zqm hb;have hx0:w1.cell? ⟨gb,0,none⟩=some (.slice A0 U.length c0):=(blk_cell hbox_gb 0).trans rfl;have hx1:w1.cell? ⟨gb,1,none⟩=some (.slice A1 N.length c1):=(blk_cell hbox_gb 1).trans rfl;have HX:=zqm hbox_gb;clear hbox_gb hb hg_gb)|(go_at_call 31;(with_reducible refine(impl_LatticeOk.calls k _ _ U false _ ?s1 ?s2 HLat.out).mono ?_);(case s1=>exact Kd.C_below HR0.out HB.out);(case s2=>assumption);rintro e w2 ⟨rfl,hb⟩;have hbox:=blk_below HX.out hb;have hy0:w2.cell? ⟨gb,0,none⟩=some (.slice A0 U.length c0):=(blk_cell hbox 0).trans rfl;have hy1:w2.cell? ⟨gb,1,none⟩=some (.slice A1 N.length c1):=(blk_cell hbox 1).trans rfl;have HB2:=zqm (below_step HB.out hb);have HX2:=zqm hbox;clear hbox hb hx0 hx1 HX HB))
 go_ret
 exact⟨rfl,HB2.out⟩
set_option maxHeartbeats 1000000 in
set_option maxRecDepth 100000 in
theorem told_long (k : Nat) (A0 : Option Addr) (c0 : Nat) (U : List (List Int)) (A1 : Option Addr) (c1 : Nat) (N : List Int) (w : World)
 (hr0:Kd.C (Kd.slice 3 (Kd.int .i64)) w A0 U.length U) (hc0:U.length≤c0) (hr1:Kd.C (Kd.int .i64) w A1 N.length N) (hc1:N.length≤c1) (hLat:impl_LatticeOk.f k U=some true) (hl:N.length≠U.length):
 Calls Tryz.prog 20 #[.agg #[.slice A0 U.length c0,.slice A1 N.length c1]] w fun e w'=>e= .returned (.pointer none)∧Below w.heap.size w w':=by
 have hu30:=Tryz.underlying30
 have HR0:=zqm hr0
 have HLat:=zqm hLat
 have hne:((N.length:Int) !=(U.length:Int))=true:=by rw [bne_iff_ne];omega
 clear hr0 hLat hr1 hl
 go_enter Tryz.func20,Tryz.ntmps20
 go_wp2_with (first|((with_reducible refine gate_dst (N:=1) rfl ?_);refine box_event ?hg (N:=1) ?hd (cs:= #[.slice A0 U.length c0,.slice A1 N.length c1]) (t:=30) ?hr ?_;(case hd=>rfl);(case hg=>rfl);(case hr=>first|(go_simp;done)|(go_simp;rfl));intro gb hg_gb w1 hbox_gb hb;have HB:=zqm hb;have hx0:w1.cell? ⟨gb,0,none⟩=some (.slice A0 U.length c0):=(blk_cell hbox_gb 0).trans rfl;have hx1:w1.cell? ⟨gb,1,none⟩=some (.slice A1 N.length c1):=(blk_cell hbox_gb 1).trans rfl;have HX:=zqm hbox_gb;clear hbox_gb hb hg_gb)|(go_at_call 31;(with_reducible refine(impl_LatticeOk.calls k _ _ U true _ ?s1 ?s2 HLat.out).mono ?_);(case s1=>exact Kd.C_below HR0.out HB.out);(case s2=>assumption);rintro e w2 ⟨rfl,hb⟩;have hbox:=blk_below HX.out hb;have hy0:w2.cell? ⟨gb,0,none⟩=some (.slice A0 U.length c0):=(blk_cell hbox 0).trans rfl;have hy1:w2.cell? ⟨gb,1,none⟩=some (.slice A1 N.length c1):=(blk_cell hbox 1).trans rfl;have HB2:=zqm (below_step HB.out hb);have HX2:=zqm hbox;clear hbox hb hx0 hx1 HX HB))
 go_ret
 exact⟨rfl,HB2.out⟩
def impl_told.T15 : Bool × List (List Nat × List Nat) := (true, [([], []), ([], []), ([], []), ([2], [2]), ([3], [3]), ([4], [4]), ([], []), ([6], [6]), ([5, 7], [5, 7]), ([], []), ([9], [9]), ([10], [10]), ([11], [11]), ([], []), ([13], [13]), ([12, 14, 8], [12, 14]), ([0, 0, 2, 3, 4, 5, 6, 7, 8, 12, 15], [0]), ([16, 0, 2, 3, 4, 5, 6, 7, 8, 12, 15], [16]), ([17, 8, 15, 0, 2, 3, 4, 5, 6, 7, 8, 12, 15], [8, 17]), ([1, 0, 1, 2, 3, 4, 5, 6, 7, 8, 9, 10, 11, 12, 13, 14, 15, 16, 17, 18], [1]), ([19, 0, 1, 2, 3, 4, 5, 6, 7, 8, 9, 10, 11, 12, 13, 14, 15, 16, 17, 18], [19]), ([20, 15, 18, 0, 1, 2, 3, 4, 5, 6, 7, 8, 9, 10, 11, 12, 13, 14, 15, 16, 17, 18], [15, 20])])
def impl_told.B15 : List Nat := [0, 0, 0, 4, 12, 28, 0, 64, 252, 0, 512, 1536, 3584, 0, 8192, 32764, 65533, 131069, 262141, 524287, 1048575, 2097151]
theorem impl_told.tab15 : rtab .any (opsOf Tryz.f20 15) = impl_told.T15 := by kernel_rfl
theorem impl_told.bits15 : waitsOk impl_told.T15.2 impl_told.B15 = true := by kernel_rfl
def impl_told.T34 : Bool × List (List Nat × List Nat) := (true, [([], []), ([], []), ([1], [1]), ([], []), ([3], [3]), ([4], [4]), ([5], [5]), ([2, 6], [2, 6]), ([7], [7]), ([0, 0, 1, 2, 3, 4, 5, 6, 7, 8], [0]), ([9, 0, 1, 2, 3, 4, 5, 6, 7, 8], [9]), ([10, 8, 0, 1, 2, 3, 4, 5, 6, 7, 8], [8, 10])])
def impl_told.B34 : List Nat := [0, 0, 2, 0, 8, 24, 56, 126, 254, 511, 1023, 2047]
theorem impl_told.tab34 : rtab .any (opsOf Tryz.f20 34) = impl_told.T34 := by kernel_rfl
theorem impl_told.bits34 : waitsOk impl_told.T34.2 impl_told.B34 = true := by kernel_rfl
theorem optI_inj {a b : Option Nat} (h : optI a = optI b) : a = b := by
 cases a <;> cases b <;> simp [optI] at h ⊢ <;> omega
def Ok3 (U : List (List Int)) (N : List Int) (i : Nat) : Prop := 0 ≤ at1 N i ∧ at1 N i < U.length ∧ at1 N (at1 N i).toNat = i ∧ meetO U i (at1 N i).toNat = leastO U
def Ok5 (U : List (List Int)) (N : List Int) (i j : Nat) : Prop := leB U i j = true → leB U (at1 N j).toNat (at1 N i).toNat = true
theorem logicB_no3 {U : List (List Int)} {N : List Int} {a : Nat} (ha : a < U.length) (h : ¬ Ok3 U N a) : logicB U N = false := by
 rw [Bool.eq_false_iff]
 intro hl
 have L:=logicB_iff.1 hl
 exact h ⟨(L.ran a ha).1,(L.ran a ha).2,L.inv a ha,L.comp a ha⟩
theorem logicB_no5 {U : List (List Int)} {N : List Int} {a b : Nat} (ha : a < U.length) (hb : b < U.length) (h : ¬ Ok5 U N a b) : logicB U N = false := by
 rw [Bool.eq_false_iff]
 intro hl
 have L:=logicB_iff.1 hl
 exact h (L.turn a b ha hb)
theorem logicB_yes {U : List (List Int)} {N : List Int} (h1 : latticeB U = true) (h2 : N.length = U.length) (h3 : ∀ i, i < U.length → Ok3 U N i) (h5 : ∀ i, i < U.length → ∀ j, j < U.length → Ok5 U N i j) : logicB U N = true := by
 have O:=latticeB_order h1
 unfold latticeB at h1
 simp only [Bool.and_eq_true,allN_iff] at h1
 exact logicB_iff.2 { toOrder:=O,meets:=fun a b ha hb=>(h1.2 a ha b hb).1,joins:=fun a b ha hb=>(h1.2 a ha b hb).2,len:=h2,ran:=fun a ha=>⟨(h3 a ha).1,(h3 a ha).2.1⟩,inv:=fun a ha=>(h3 a ha).2.2.1,comp:=fun a ha=>(h3 a ha).2.2.2,turn:=fun a b ha hb=>h5 a ha b hb }
set_option maxHeartbeats 16000000 in
set_option maxRecDepth 100000 in
theorem told_walk (k : Nat) (A0 : Option Addr) (c0 : Nat) (U : List (List Int)) (A1 : Option Addr) (c1 : Nat) (N : List Int) (w : World)
 (hr0:Kd.C (Kd.slice 3 (Kd.int .i64)) w A0 U.length U) (hc0:U.length≤c0) (hr1:Kd.C (Kd.int .i64) w A1 N.length N) (hc1:N.length≤c1) (hF:ToldFacts k U) (hl:N.length=U.length) (hlat:latticeB U=true):
 Calls Tryz.prog 20 #[.agg #[.slice A0 U.length c0,.slice A1 N.length c1]] w (ToldPost U N w):=by
 have hu30:=Tryz.underlying30
 have hu70:=Tryz.underlying52
 have HR0:=zqm hr0
 have HR1:=zqm hr1
 have HL:=zqm hl
 have HLat:=zqm (hlat ▸ hF.lat)
 have HTurn:=zqm (hF.turn hlat)
 have HF:=zqm hF
 have HLB:=zqm hlat
 have HSM:=zqm (latticeB_order hlat).small
 have hne:((N.length:Int) !=(U.length:Int))=false:=by rw [hl];simp
 clear hr0 hr1 hl hF hlat
 go_enter Tryz.func20,Tryz.ntmps20
 go_wp2_with (first|((with_reducible refine gate_dst (N:=1) rfl ?_);refine box_event ?hg (N:=1) ?hd (cs:= #[.slice A0 U.length c0,.slice A1 N.length c1]) (t:=30) ?hr ?_;(case hd=>rfl);(case hg=>rfl);(case hr=> exact zq16);intro gb hg_gb w1 hbox_gb hb;have HB:=zqm hb;have hx0:w1.cell? ⟨gb,0,none⟩=some (.slice A0 U.length c0):=(blk_cell hbox_gb 0).trans rfl;have hx1:w1.cell? ⟨gb,1,none⟩=some (.slice A1 N.length c1):=(blk_cell hbox_gb 1).trans rfl;have HX:=zqm hbox_gb;clear hbox_gb hb hg_gb)|(go_at_call 31;(with_reducible refine(impl_LatticeOk.calls k _ _ U true _ ?s1 ?s2 HLat.out).mono ?_);(case s1=> exact zq97);(case s2=>assumption);rintro e w2 ⟨rfl,hb⟩;have hbox:=blk_below HX.out hb;have hy0:w2.cell? ⟨gb,0,none⟩=some (.slice A0 U.length c0):=(blk_cell hbox 0).trans rfl;have hy1:w2.cell? ⟨gb,1,none⟩=some (.slice A1 N.length c1):=(blk_cell hbox 1).trans rfl;have HB2:=zqm (below_step HB.out hb);have HX2:=zqm hbox;clear hbox hb hx0 hx1 HX HB)|((with_reducible refine gate_dst (N:=33) rfl ?_);refine box_event ?hg (N:=33) ?hd (cs:= #[.slice A0 U.length c0,.slice none 0 0,.slice none 0 0,.slice A1 N.length c1,.int .i64 0,.int .i64 0]) (t:=52) ?hr ?_;(case hd=>rfl);(case hg=>rfl);(case hr=> exact zq16);intro g hg_g w3 hbox_g hb;have HB3:=zqm (below_step HB2.out hb);have HG3:=zqm hbox_g;have HGE:=zqm ((by rw [hg_g];exact below_size HB2.out):w.heap.size≤g);have hbox:=blk_below HX2.out hb;have HNE:=zqm ((by rw [hg_g];exact Nat.ne_of_lt (blk_lt HX2.out)):gb≠g);have hz0:w3.cell? ⟨gb,0,none⟩=some (.slice A0 U.length c0):=(blk_cell hbox 0).trans rfl;have hz1:w3.cell? ⟨gb,1,none⟩=some (.slice A1 N.length c1):=(blk_cell hbox 1).trans rfl;have HX3:=zqm hbox;clear hbox hb hbox_g hg_g hy0 hy1 HX2 HB2)|(go_at_call 32;(with_reducible refine(impl_turned.calls k _ _ U (turnL U) _ ?s1 ?s2 HTurn.out).mono ?_);(case s1=>exact Kd.C_below HR0.out HB3.out);(case s2=>assumption);rintro e w4 ⟨vo,rfl,ho,hb⟩;have HB4:=zqm (below_step HB3.out hb);have HG4:=zqm (blk_below HG3.out hb);have hbox:=blk_below HX3.out hb;have hq0:w4.cell? ⟨gb,0,none⟩=some (.slice A0 U.length c0):=(blk_cell hbox 0).trans rfl;have hq1:w4.cell? ⟨gb,1,none⟩=some (.slice A1 N.length c1):=(blk_cell hbox 1).trans rfl;have HX4:=zqm hbox;obtain⟨Ao,co,rfl⟩:=Kd.S_slice ho;have HOv:=zqm ((Kd.S_reads' ho).2.1);have hlt_:=blk_lt HG3.out;have HOr:=zqm (show Kd.R (Kd.slice 3 (Kd.int .i64)) 28 w4 w.heap.size (fun k_=>(k_≠g∧some k_≠(Value.slice none 0 0).ownBlock)∧some k_≠(Value.slice none 0 0).ownBlock) (.slice Ao (turnL U).length co) (turnL U) from Kd.R_mono (Kd.R_lower (Kd.R_bound (Kd.S_R ho)) (below_size HB3.out)) (fun k_ hk=>⟨⟨by have:=hk.2.1;omega,by simp [Value.ownBlock]⟩,by simp [Value.ownBlock]⟩));clear hbox hb hz0 hz1 HX3 HB3 HG3 ho hlt_))
 go_loopg [40] (U.length+1) (fun kq v40 W=> ∃(a:Nat) (vA vO:Value),v40= .int .i64 a∧Aside0 (a+kq=U.length+1)∧Aside0 (a≤U.length)∧Aside0 (W.heap[g]? =some (.cells #[.slice A0 U.length c0,vA,vO,.slice A1 N.length c1,.int .i64 (0),.int .i64 (0)] 52 (0,0)))∧Aside0 (Kd.R (Kd.slice 3 (Kd.int .i64)) 28 W w.heap.size (fun k_=>True∧some k_≠vO.ownBlock) vA (tabT U.length (mI U) a))∧Aside0 (Kd.R (Kd.slice 3 (Kd.int .i64)) 28 W w.heap.size (fun k_=>True∧some k_≠vA.ownBlock) vO (tabT U.length (jI U) a))∧Aside0 (W.heap[gb]? =some (.cells #[.slice A0 U.length c0,.slice A1 N.length c1] 30 (0,0)))∧Aside0 (Kd.R (Kd.slice 3 (Kd.int .i64)) 28 W w.heap.size (fun k_=>(k_≠g∧some k_≠vO.ownBlock)∧some k_≠vA.ownBlock) (.slice Ao (turnL U).length co) (turnL U))∧Aside0 (Below w.heap.size w W))
 case atStart=>exact⟨0,.slice none 0 0,.slice none 0 0,rfl,⟨by omega⟩,⟨by omega⟩,⟨HG4.out⟩,⟨Kd.R_nil _ _ _ _ _⟩,⟨Kd.R_nil _ _ _ _ _⟩,⟨HX4.out⟩,⟨HOr.out⟩,⟨HB4.out⟩⟩
 case round=>
  clear HG4 HX4 HB4 HOr hq0 hq1
  obtain⟨a,vA,vO,rfl,HK,HK2,HG,HA,HO,HX,HOr,HB⟩:=hrel
  cases gk with
  |zero=>exact absurd HK.out (by have:=HK2.out;omega)
  |succ kn=>
  have hq0:wr.cell? ⟨gb,0,none⟩=some (.slice A0 U.length c0):=(blk_cell HX.out 0).trans rfl
  have hq1:wr.cell? ⟨gb,1,none⟩=some (.slice A1 N.length c1):=(blk_cell HX.out 1).trans rfl
  by_cases hlt:a<U.length
  ·have hlt':decide (a<U.length)=true:=decide_eq_true hlt
   have HLT:=zqm hlt
   clear hlt
   go_wp2_with (first|((with_reducible refine gate_dst (N:=43) rfl ?_);refine Kd.R_lit (Kd.int .i64) _ 3 ?hg (N:=43) ?hd (xs:=([]:List Int)) (inner:= []) (ok:=fun _=>True) (okp:=fun _=>True) ?hr ?hp (fun _ hk=>hk) trivial (Below.refl _ _) (Nat.le_refl _) (by simp) ?_;(case hd=>rfl);(case hg=>rfl);(case hr=> exact zq16);(case hp=>exact(Reps.none _ _));intro va wa ho hb hg_ hnew_;clear hg_;have HBa:=zqm hb;have HVa:=zqm ho;have hr0:wa.cell? ⟨gb,0,none⟩=some (.slice A0 U.length c0):=(blk_cell (blk_below HX.out hb) 0).trans rfl;clear ho hb hnew_)|((with_reducible refine gate_dst (N:=44) rfl ?_);refine Kd.R_lit (Kd.int .i64) _ 3 ?hg (N:=44) ?hd (xs:=([]:List Int)) (inner:= []) (ok:=fun _=>True) (okp:=fun _=>True) ?hr ?hp (fun _ hk=>hk) trivial (Below.refl _ _) (Nat.le_refl _) (by simp) ?_;(case hd=>rfl);(case hg=>rfl);(case hr=> exact zq16);(case hp=>exact(Reps.none _ _));intro vb wb ho hb hg_ hnew_;clear hg_;have HBi:=zqm (below_step HBa.out hb);have hr1:wb.cell? ⟨gb,0,none⟩=some (.slice A0 U.length c0):=(blk_cell (blk_below HX.out HBi.out) 0).trans rfl;have HVO:=zqm (Kd.R_mono (Kd.R_lower (Kd.R_newR ho HVa.out) (below_size HBa.out)) (fun k_ hk=>hk));have HVA:=zqm (Kd.R_mono (Kd.R_elder HVa.out ho hb) (fun k_ hk=>hk));clear ho hb hnew_ HVa HBa hr0))
   obtain⟨wo,rfl⟩: ∃wo:World,wo=wr:=⟨_,rfl⟩
   have HOC:=zqm (Kd.R_reads' HOr.out).2.2
   clear hr1 hq0 hq1
   go_loopg [6,7,48] (U.length+1) (fun kj v6 v7 v48 W=> ∃(b:Nat),v48= .int .i64 b∧Aside0 (b+kj=U.length+1)∧Aside0 (b≤U.length)∧Aside0 (Kd.R (Kd.int .i64) 3 W wo.heap.size (fun k_=>True∧some k_≠v7.ownBlock) v6 (rowT (mI U) a b))∧Aside0 (Kd.R (Kd.int .i64) 3 W wo.heap.size (fun k_=>True∧some k_≠v6.ownBlock) v7 (rowT (jI U) a b))∧Aside0 (Below wo.heap.size wo W))
   case atStart=>exact⟨0,rfl,⟨by omega⟩,⟨by omega⟩,⟨HVA.out⟩,⟨HVO.out⟩,⟨HBi.out⟩⟩
   case round=>
    clear HVA HVO HBi
    obtain⟨b,rfl,HKj,HKj2,HVA,HVO,HBi⟩:=hrel
    cases gk with
    |zero=>exact absurd HKj.out (by have:=HKj2.out;omega)
    |succ kj=>
    have hs0:wr.cell? ⟨gb,0,none⟩=some (.slice A0 U.length c0):=(blk_cell (blk_below HX.out HBi.out) 0).trans rfl
    by_cases hltb:b<U.length
    ·have hltb':decide (b<U.length)=true:=decide_eq_true hltb
     have HLTb:=zqm hltb
     clear hltb
     have HM1:=zqm (HF.out.meet HLB.out a b HLT.out HLTb.out)
     have HM2:=zqm (HF.out.join HLB.out a b HLT.out HLTb.out)
     go_wp2_with (first|(go_at_call 33;(first|(with_reducible refine(impl_meet.calls k _ _ U a b (mI U a b) _ ?s1 ?s2 HM1.out).mono ?_)|(with_reducible refine(impl_meet.calls k _ _ (turnL U) a b (jI U a b) _ ?s1 ?s2 HM2.out).mono ?_));(case s1=>(repeat(first|exact Kd.C_below HR0.out (below_step HB.out HBi.out)|exact Kd.C_below HOC.out HBi.out|exact Kd.C_below HR0.out (below_step HB.out HBj.out)|exact Kd.C_below HOC.out HBj.out|refine Kd.C_alloc ?_ _|refine Kd.C_drewN ?_ _)));(case s2=>first|assumption|exact HOv.out);rintro e w' ⟨rfl,⟨nd,rfl⟩⟩)|(at_builtin;refine Kd.R_append (Kd.int .i64) (w0:=wo) wo.heap.size rfl (.tmp 51) (.tmp 57) 28 3 (.int .i64 0) 8 rfl Tryz.underlying28 infoInt rfl (by decide) (by omega) u6 (rowT (mI U) a b) (mI U a b) [.int .i64 ((mI U a b))] (fun k_=>True∧some k_≠(u7:Value).ownBlock) (fun _=>False) rfl rfl ?aP (fun _ hk=>hk.elim) ?aF ?aO ?aB ?aS ?aL ?_;(case aP=>exact rfl);(case aF=>exact fun k_ hk=>⟨trivial,Kd.fresh_ok (Kd.R_drewN HVO.out _) k_ hk⟩);(case aO=>exact Kd.R_drewN HVA.out _);(case aB=>exact pw_below_drewN HBi.out _);(case aS=>exact below_size (pw_below_drewN HBi.out _));(case aL=>have:=HLTb.out;have:=HSM.out;rw [rowT_length];omega);intro va2 w5 ho hb hg hat;rw [← rowT_succ] at ho;have HBj:=zqm hb;have HVA2:=zqm ho;have HVO2:=zqm (Kd.R_after (Kd.R_drewN HVO.out _) hg hat);have hs1:w5.cell? ⟨gb,0,none⟩=some (.slice A0 U.length c0):=(blk_cell (blk_below HX.out HBj.out) 0).trans rfl;clear ho hb hg hat HVA HVO HBi hs0)|(at_builtin;refine Kd.R_append (Kd.int .i64) (w0:=wo) wo.heap.size rfl (.tmp 59) (.tmp 64) 28 3 (.int .i64 0) 8 rfl Tryz.underlying28 infoInt rfl (by decide) (by omega) u7 (rowT (jI U) a b) (jI U a b) [.int .i64 ((jI U a b))] (fun k_=>True∧some k_≠(va2:Value).ownBlock) (fun _=>False) rfl rfl ?aP (fun _ hk=>hk.elim) ?aF ?aO ?aB ?aS ?aL ?_;(case aP=>exact rfl);(case aF=>exact fun k_ hk=>⟨trivial,Kd.fresh_ok (Kd.R_drewN HVA2.out _) k_ hk⟩);(case aO=>exact Kd.R_drewN HVO2.out _);(case aB=>exact pw_below_drewN HBj.out _);(case aS=>exact below_size (pw_below_drewN HBj.out _));(case aL=>have:=HLTb.out;have:=HSM.out;rw [rowT_length];omega);intro vo2 w6 ho hb hg hat;rw [← rowT_succ] at ho;have HBk:=zqm hb;have HVO3:=zqm ho;have HVA3:=zqm (Kd.R_after (Kd.R_drewN HVA2.out _) hg hat);clear ho hb hg hat HVA2 HVO2 HBj hs1))
     go_roundg kj
     case measure=>omega
     case rel=>exact⟨b+1,by rw [wrap_small (by omega) (by have:=HLTb.out;have:=HSM.out;omega)];go_num,⟨by have:=HKj.out;omega⟩,⟨by have:=HLTb.out;omega⟩,⟨HVA3.out⟩,⟨HVO3.out⟩,⟨HBk.out⟩⟩
    ·have hltb':decide (b<U.length)=false:=decide_eq_false hltb
     obtain rfl:b=U.length:=by have:=HKj2.out;omega
     clear hltb
     obtain⟨AA,cA,rfl⟩:=Kd.R_slice HA.out
     obtain⟨AO,cO,rfl⟩:=Kd.R_slice HO.out
     obtain⟨Aa,ca,rfl⟩:=Kd.R_slice HVA.out
     obtain⟨Ab,cb,rfl⟩:=Kd.R_slice HVO.out
     have HrA:=zqm (show Kd.R (Kd.int .i64) 3 wr w.heap.size (fun k_=>some k_≠(Value.slice AO (tabT U.length (jI U) a).length cO).ownBlock∧some k_≠(Value.slice AA (tabT U.length (mI U) a).length cA).ownBlock) (.slice Aa (rowT (mI U) a U.length).length ca) (rowT (mI U) a U.length) from Kd.R_mono (Kd.R_lower (Kd.R_newR (Kd.R_newR HVA.out HA.out) HO.out) (below_size HB.out)) (fun k_ hk=>⟨hk.2,hk.1.2⟩))
     have HrO:=zqm (show Kd.R (Kd.int .i64) 3 wr w.heap.size (fun k_=>some k_≠(Value.slice AO (tabT U.length (jI U) a).length cO).ownBlock∧some k_≠(Value.slice AA (tabT U.length (mI U) a).length cA).ownBlock) (.slice Ab (rowT (jI U) a U.length).length cb) (rowT (jI U) a U.length) from Kd.R_mono (Kd.R_lower (Kd.R_newR (Kd.R_newR HVO.out HA.out) HO.out) (below_size HB.out)) (fun k_ hk=>⟨hk.2,hk.1.2⟩))
     have HAr:=zqm (Kd.R_below HA.out HBi.out)
     have HOr2:=zqm (Kd.R_below HO.out HBi.out)
     have HVr:=zqm (Kd.R_below HOr.out HBi.out)
     have HBr:=zqm (below_step HB.out HBi.out)
     have HXr:=zqm (blk_below HX.out HBi.out)
     have hG:=blk_below HG.out HBi.out
     have hg1:wr.cell? ⟨g,1,none⟩=some (.slice AA (tabT U.length (mI U) a).length cA):=(blk_cell hG 1).trans rfl
     have hg2:wr.cell? ⟨g,2,none⟩=some (.slice AO (tabT U.length (jI U) a).length cO):=(blk_cell hG 2).trans rfl
     have HGr:=zqm hG
     have ha11:a<12:=by have:=HLT.out;have:=HSM.out;omega
     clear hG HVA HVO hs0 HA HO HOr HB HX HG HOC
     go_wp2_with fail
     refine start_ (n:=22) (S:=(fun w'=>w'.cell? ⟨g,1,none⟩=some (.slice AA (tabT U.length (mI U) a).length cA)∧w'.cell? ⟨g,2,none⟩=some (.slice AO (tabT U.length (jI U) a).length cO))) (ds:= [18,21]) (zqb 22 0) zqk rfl rfl ⟨hg1,hg2⟩ (fun hHeld=>?_)
     refine with_tabW impl_told.tab15 impl_told.bits15 (fun HT_ HW_=>?_)
     generalize hwd:wr.drew=wd at hHeld ⊢
     have HWD:=zqm hwd;clear hwd
     replace HrA:=zqm (HWD.out ▸ (Kd.R_drew HrA.out))
     replace HrO:=zqm (HWD.out ▸ (Kd.R_drew HrO.out))
     replace HAr:=zqm (HWD.out ▸ (Kd.R_drew HAr.out))
     replace HOr2:=zqm (HWD.out ▸ (Kd.R_drew HOr2.out))
     replace HVr:=zqm (HWD.out ▸ (Kd.R_drew HVr.out))
     replace HBr:=zqm (HWD.out ▸ (below_drew HBr.out))
     replace HXr:=zqm (HWD.out ▸ (blk_drew HXr.out))
     replace HGr:=zqm (HWD.out ▸ (blk_drew HGr.out))
     refine zqp 0 67 (zqb 22 1) HT_ ?_
     refine zqp 1 68 (zqb 22 3) HT_ ?_
     refine zqp 2 69 (zqb 22 7) HT_ ?_
     refine zqp 3 70 (zqb 22 15) HT_ ?_
     refine zqp 4 71 (zqb 22 31) HT_ ?_
     refine zqp 6 73 (zqb 22 95) HT_ ?_
     refine zqp 9 76 (zqb 22 607) HT_ ?_
     refine zqp 10 77 (zqb 22 1631) HT_ ?_
     refine zqp 11 78 (zqb 22 3679) HT_ ?_
     refine zqp 13 80 (zqb 22 11871) HT_ ?_
     refine zqw 5 72 (zqb 22 11903) HT_ HW_ hHeld ?_
     refine zqw 12 79 (zqb 22 15999) HT_ HW_ hHeld ?_
     refine join_ (σ:=Nat × Nat × Option Addr × Nat × Option Addr × Nat) 6 (zqb 22 65535) (fun s=> [(74,.slice (some ⟨s.1,0,none⟩) 1 1),(75,.slice s.2.2.1 (tabT U.length (mI U) (a+1)).length s.2.2.2.1),(81,.slice (some ⟨s.2.1,0,none⟩) 1 1),(82,.slice s.2.2.2.2.1 (tabT U.length (jI U) (a+1)).length s.2.2.2.2.2)]) (fun s W=>W.heap[g]? =some (.cells #[.slice A0 U.length c0,.slice AA (tabT U.length (mI U) a).length cA,.slice AO (tabT U.length (jI U) a).length cO,.slice A1 N.length c1,.int .i64 (0),.int .i64 (0)] 52 (0,0))∧W.heap[gb]? =some (.cells #[.slice A0 U.length c0,.slice A1 N.length c1] 30 (0,0))∧Kd.R (Kd.slice 3 (Kd.int .i64)) 28 W w.heap.size (fun k_=>True∧some k_≠(Value.slice s.2.2.2.2.1 (tabT U.length (jI U) (a+1)).length s.2.2.2.2.2).ownBlock) (.slice s.2.2.1 (tabT U.length (mI U) (a+1)).length s.2.2.2.1) (tabT U.length (mI U) (a+1))∧Kd.R (Kd.slice 3 (Kd.int .i64)) 28 W w.heap.size (fun k_=>True∧some k_≠(Value.slice s.2.2.1 (tabT U.length (mI U) (a+1)).length s.2.2.2.1).ownBlock) (.slice s.2.2.2.2.1 (tabT U.length (jI U) (a+1)).length s.2.2.2.2.2) (tabT U.length (jI U) (a+1))∧Kd.R (Kd.slice 3 (Kd.int .i64)) 28 W w.heap.size (fun k_=>(k_≠g∧some k_≠(Value.slice s.2.2.1 (tabT U.length (mI U) (a+1)).length s.2.2.2.1).ownBlock)∧some k_≠(Value.slice s.2.2.2.2.1 (tabT U.length (jI U) (a+1)).length s.2.2.2.2.2).ownBlock) (.slice Ao (turnL U).length co) (turnL U)∧Below w.heap.size w W) ?cont (fun hC=>?_)
     rotate_left
     refine two_ (i:=7) (j:=14) (Ni:=some 74) (Nj:=some 81) (zqb 22 16127) (zqb 22 32383) rfl rfl rfl rfl zqk (by decide) (by decide) (fun K hK=>?_) (fun K hK=>?_)
     ·skip
      refine event_step (w1:=World.alloc (wd) (.cells #[.slice Aa (rowT (mI U) a U.length).length ca] 28)) (v:= .slice (some ⟨wd.heap.size,0,none⟩) 1 1) (by rfl) ?hr1 ?_
      case hr1=>first|(go_simp;done)|(go_simp;rfl)
      refine hK.out _ _ ⟨(blk_cell (blk_alloc HGr.out _) 1).trans rfl,(blk_cell (blk_alloc HGr.out _) 2).trans rfl⟩ (fun hHeld1=>?_)
      clear hK K
      (try simp only [Act.put,List.setIfInBounds_toArray,List.set_cons_zero,List.set_cons_succ])
      refine two_ (i:=8) (j:=14) (Ni:=some 75) (Nj:=some 81) (zqb 22 16383) (zqb 22 32511) rfl rfl rfl rfl zqk (by decide) (by decide) (fun K hK=>?_) (fun K hK=>?_)
      ·skip
       refine Kd.R_append_rows_step (Kd.slice 3 (Kd.int .i64)) (Rr:=fun x_ cs_=>x_=rowT (mI U) a U.length∧cs_= [.slice Aa (rowT (mI U) a U.length).length ca]) (w0:=w) w.heap.size (by rfl) (.tmp 72) (.tmp 74) 27 28 (.slice none 0 0) 24 rfl Tryz.underlying27 infoRow rfl (by decide) (by omega) (.slice AA (tabT U.length (mI U) a).length cA) (tabT U.length (mI U) a) [rowT (mI U) a U.length] _ 1 1 (fun k_=>True∧some k_≠(.slice AO (tabT U.length (jI U) a).length cO:Value).ownBlock) (fun k_=>some k_≠(.slice AO (tabT U.length (jI U) a).length cO:Value).ownBlock∧some k_≠(.slice AA (tabT U.length (mI U) a).length cA:Value).ownBlock) rfl rfl zq142 (reads_one zq81) ?aK2 (fun k_ hk=>⟨⟨trivial,hk.1⟩,hk.2⟩) ?aF2 zq41 (below_size zq41) (by rw [tabT_length];omega) ?_
       case aK2=>rintro x_ cs_ ⟨rfl,rfl⟩;exact⟨_,rfl,zq146⟩
       case aF2=>exact fun k_ hk=>⟨trivial,Kd.fresh_ok zq100 k_ hk⟩
       intro v7 w7 ho hb hg hat
       rw [← tabT_succ] at ho
       obtain⟨A7,c7,rfl⟩:=Kd.R_slice ho
       have HB7:=zqm hb
       have HA7:=zqm ho
       have HO7:=zqm (Kd.R_after zq100 hg hat)
       have HrO7:=zqm (Kd.R_after zq147 hg hat)
       have HV7:=zqm (Kd.R_after zq145 hg hat)
       have hg0:=Kd.R_lt HAr.out
       have HG7:=zqm (blk_grown (g:=g) (o:= .cells #[.slice A0 U.length c0,.slice AA (tabT U.length (mI U) a).length cA,.slice AO (tabT U.length (jI U) a).length cO,.slice A1 N.length c1,.int .i64 (0),.int .i64 (0)] 52 (0,0)) zq134 hg (Kd.R_ne HAr.out HGr.out (by decide)))
       have HX7:=zqm (blk_grown (g:=gb) (o:= .cells #[.slice A0 U.length c0,.slice A1 N.length c1] 30 (0,0)) zq136 hg (Kd.R_ne HAr.out HXr.out (by decide)))
       clear ho hb hg hat hg0
       refine hK.out _ _ ⟨(blk_cell HG7.out 1).trans rfl,(blk_cell HG7.out 2).trans rfl⟩ (fun hHeld7=>?_)
       clear hK K
       (try simp only [Act.put,List.setIfInBounds_toArray,List.set_cons_zero,List.set_cons_succ])
       refine one_ (i:=14) (N:=some 81) (zqb 22 32767) rfl rfl (one_of HT_.out zqk) (by decide) (fun K hK=>?_)
       refine event_step (w1:=World.alloc (w7) (.cells #[.slice Ab (rowT (jI U) a U.length).length cb] 28)) (v:= .slice (some ⟨w7.heap.size,0,none⟩) 1 1) (by rfl) ?hr3 ?_
       case hr3=>first|(go_simp;done)|(go_simp;rfl)
       refine hK.out _ _ ⟨(blk_cell (blk_alloc HG7.out _) 1).trans rfl,(blk_cell (blk_alloc HG7.out _) 2).trans rfl⟩ (fun hHeld3=>?_)
       clear hK K
       (try simp only [Act.put,List.setIfInBounds_toArray,List.set_cons_zero,List.set_cons_succ])
       refine one_ (i:=15) (N:=some 82) (zqb 22 65535) rfl rfl (one_of HT_.out zqk) (by decide) (fun K hK=>?_)
       refine Kd.R_append_rows_step (Kd.slice 3 (Kd.int .i64)) (Rr:=fun x_ cs_=>x_=rowT (jI U) a U.length∧cs_= [.slice Ab (rowT (jI U) a U.length).length cb]) (w0:=w) w.heap.size (by rfl) (.tmp 79) (.tmp 81) 27 28 (.slice none 0 0) 24 rfl Tryz.underlying27 infoRow rfl (by decide) (by omega) (.slice AO (tabT U.length (jI U) a).length cO) (tabT U.length (jI U) a) [rowT (jI U) a U.length] _ 1 1 (fun k_=>True∧some k_≠(.slice A7 (tabT U.length (mI U) (a+1)).length c7:Value).ownBlock) (fun k_=>some k_≠(.slice AO (tabT U.length (jI U) a).length cO:Value).ownBlock∧some k_≠(.slice A7 (tabT U.length (mI U) (a+1)).length c7:Value).ownBlock) rfl rfl zq143 (reads_one zq81) ?aK4 (fun k_ hk=>⟨⟨trivial,hk.2⟩,hk.1⟩) ?aF4 zq41 (below_size zq41) (by rw [tabT_length];omega) ?_
       case aK4=>rintro x_ cs_ ⟨rfl,rfl⟩;exact⟨_,rfl,zq140⟩
       case aF4=>exact fun k_ hk=>⟨trivial,Kd.fresh_ok zq103 k_ hk⟩
       intro v8 w8 ho hb hg hat
       rw [← tabT_succ] at ho
       obtain⟨A8,c8,rfl⟩:=Kd.R_slice ho
       have HB8:=zqm hb
       have HO8:=zqm ho
       have HA8:=zqm (Kd.R_after zq103 hg hat)
       have HV8:=zqm (Kd.R_after (Kd.R_mono (ok':=fun k_=>(k_≠g∧some k_≠(Value.slice A7 (tabT U.length (mI U) (a+1)).length c7).ownBlock)∧some k_≠(Value.slice AO (tabT U.length (jI U) a).length cO).ownBlock) zq144 (fun k_ (hk:(k_≠g∧some k_≠(Value.slice AO (tabT U.length (jI U) a).length cO).ownBlock)∧some k_≠(Value.slice A7 (tabT U.length (mI U) (a+1)).length c7).ownBlock)=>⟨⟨hk.1.1,hk.2⟩,hk.1.2⟩)) hg hat)
       have HG8:=zqm (blk_grown (g:=g) (o:= .cells #[.slice A0 U.length c0,.slice AA (tabT U.length (mI U) a).length cA,.slice AO (tabT U.length (jI U) a).length cO,.slice A1 N.length c1,.int .i64 (0),.int .i64 (0)] 52 (0,0)) zq133 hg (Kd.R_ne HO7.out HG7.out (by decide)))
       have HX8:=zqm (blk_grown (g:=gb) (o:= .cells #[.slice A0 U.length c0,.slice A1 N.length c1] 30 (0,0)) zq135 hg (Kd.R_ne HO7.out HX7.out (by decide)))
       clear ho hb hg hat
       refine hK.out _ _ ⟨(blk_cell HG8.out 1).trans rfl,(blk_cell HG8.out 2).trans rfl⟩ (fun hHeld8=>?_)
       clear hK K
       (try simp only [Act.put,List.setIfInBounds_toArray,List.set_cons_zero,List.set_cons_succ])
       exact hC ⟨wd.heap.size,w7.heap.size,A7,c7,A8,c8⟩ w8 ⟨HG8.out,HX8.out,HA8.out,HO8.out,HV8.out,HB8.out⟩
      ·skip
       refine event_step (w1:=World.alloc (World.alloc wd (.cells #[.slice Aa (rowT (mI U) a U.length).length ca] 28)) (.cells #[.slice Ab (rowT (jI U) a U.length).length cb] 28)) (v:= .slice (some ⟨wd.heap.size+1,0,none⟩) 1 1) (by rfl) ?hr5 ?_
       case hr5=>first|(go_simp;done)|(go_simp;rfl)
       refine hK.out _ _ ⟨(blk_cell (blk_alloc (blk_alloc HGr.out _) _) 1).trans rfl,(blk_cell (blk_alloc (blk_alloc HGr.out _) _) 2).trans rfl⟩ (fun hHeld2=>?_)
       clear hK K
       (try simp only [Act.put,List.setIfInBounds_toArray,List.set_cons_zero,List.set_cons_succ])
       refine one_ (i:=8) (N:=some 75) (zqb 22 32767) rfl rfl (one_of HT_.out zqk) (by decide) (fun K hK=>?_)
       refine Kd.R_append_rows_step (Kd.slice 3 (Kd.int .i64)) (Rr:=fun x_ cs_=>x_=rowT (mI U) a U.length∧cs_= [.slice Aa (rowT (mI U) a U.length).length ca]) (w0:=w) w.heap.size (by rfl) (.tmp 72) (.tmp 74) 27 28 (.slice none 0 0) 24 rfl Tryz.underlying27 infoRow rfl (by decide) (by omega) (.slice AA (tabT U.length (mI U) a).length cA) (tabT U.length (mI U) a) [rowT (mI U) a U.length] _ 1 1 (fun k_=>True∧some k_≠(.slice AO (tabT U.length (jI U) a).length cO:Value).ownBlock) (fun k_=>some k_≠(.slice AO (tabT U.length (jI U) a).length cO:Value).ownBlock∧some k_≠(.slice AA (tabT U.length (mI U) a).length cA:Value).ownBlock) rfl rfl zq142 (reads_one zq81) ?aK6 (fun k_ hk=>⟨⟨trivial,hk.1⟩,hk.2⟩) ?aF6 zq41 (below_size zq41) (by rw [tabT_length];omega) ?_
       case aK6=>rintro x_ cs_ ⟨rfl,rfl⟩;exact⟨_,rfl,zq146⟩
       case aF6=>exact fun k_ hk=>⟨trivial,Kd.fresh_ok zq100 k_ hk⟩
       intro v7 w7 ho hb hg hat
       rw [← tabT_succ] at ho
       obtain⟨A7,c7,rfl⟩:=Kd.R_slice ho
       have HB7:=zqm hb
       have HA7:=zqm ho
       have HO7:=zqm (Kd.R_after zq100 hg hat)
       have HrO7:=zqm (Kd.R_after zq147 hg hat)
       have HV7:=zqm (Kd.R_after zq145 hg hat)
       have hg0:=Kd.R_lt HAr.out
       have HG7:=zqm (blk_grown (g:=g) (o:= .cells #[.slice A0 U.length c0,.slice AA (tabT U.length (mI U) a).length cA,.slice AO (tabT U.length (jI U) a).length cO,.slice A1 N.length c1,.int .i64 (0),.int .i64 (0)] 52 (0,0)) zq134 hg (Kd.R_ne HAr.out HGr.out (by decide)))
       have HX7:=zqm (blk_grown (g:=gb) (o:= .cells #[.slice A0 U.length c0,.slice A1 N.length c1] 30 (0,0)) zq136 hg (Kd.R_ne HAr.out HXr.out (by decide)))
       have hcy:w7.cell? ⟨wd.heap.size+1,0,none⟩=some (.slice Ab (rowT (jI U) a U.length).length cb):=grown_cell hg (by first|(go_simp;done)|(simp;done)) (by intro e_;have:=hg0 _ e_.symm;simp at this;omega)
       clear ho hb hg hat hg0
       refine hK.out _ _ ⟨(blk_cell HG7.out 1).trans rfl,(blk_cell HG7.out 2).trans rfl⟩ (fun hHeld7=>?_)
       clear hK K
       (try simp only [Act.put,List.setIfInBounds_toArray,List.set_cons_zero,List.set_cons_succ])
       refine one_ (i:=15) (N:=some 82) (zqb 22 65535) rfl rfl (one_of HT_.out zqk) (by decide) (fun K hK=>?_)
       refine Kd.R_append_rows_step (Kd.slice 3 (Kd.int .i64)) (Rr:=fun x_ cs_=>x_=rowT (jI U) a U.length∧cs_= [.slice Ab (rowT (jI U) a U.length).length cb]) (w0:=w) w.heap.size (by rfl) (.tmp 79) (.tmp 81) 27 28 (.slice none 0 0) 24 rfl Tryz.underlying27 infoRow rfl (by decide) (by omega) (.slice AO (tabT U.length (jI U) a).length cO) (tabT U.length (jI U) a) [rowT (jI U) a U.length] _ 1 1 (fun k_=>True∧some k_≠(.slice A7 (tabT U.length (mI U) (a+1)).length c7:Value).ownBlock) (fun k_=>some k_≠(.slice AO (tabT U.length (jI U) a).length cO:Value).ownBlock∧some k_≠(.slice A7 (tabT U.length (mI U) (a+1)).length c7:Value).ownBlock) rfl rfl zq143 (reads_one zq81) ?aK7 (fun k_ hk=>⟨⟨trivial,hk.2⟩,hk.1⟩) ?aF7 zq41 (below_size zq41) (by rw [tabT_length];omega) ?_
       case aK7=>rintro x_ cs_ ⟨rfl,rfl⟩;exact⟨_,rfl,zq140⟩
       case aF7=>exact fun k_ hk=>⟨trivial,Kd.fresh_ok zq103 k_ hk⟩
       intro v8 w8 ho hb hg hat
       rw [← tabT_succ] at ho
       obtain⟨A8,c8,rfl⟩:=Kd.R_slice ho
       have HB8:=zqm hb
       have HO8:=zqm ho
       have HA8:=zqm (Kd.R_after zq103 hg hat)
       have HV8:=zqm (Kd.R_after (Kd.R_mono (ok':=fun k_=>(k_≠g∧some k_≠(Value.slice A7 (tabT U.length (mI U) (a+1)).length c7).ownBlock)∧some k_≠(Value.slice AO (tabT U.length (jI U) a).length cO).ownBlock) zq144 (fun k_ (hk:(k_≠g∧some k_≠(Value.slice AO (tabT U.length (jI U) a).length cO).ownBlock)∧some k_≠(Value.slice A7 (tabT U.length (mI U) (a+1)).length c7).ownBlock)=>⟨⟨hk.1.1,hk.2⟩,hk.1.2⟩)) hg hat)
       have HG8:=zqm (blk_grown (g:=g) (o:= .cells #[.slice A0 U.length c0,.slice AA (tabT U.length (mI U) a).length cA,.slice AO (tabT U.length (jI U) a).length cO,.slice A1 N.length c1,.int .i64 (0),.int .i64 (0)] 52 (0,0)) zq133 hg (Kd.R_ne HO7.out HG7.out (by decide)))
       have HX8:=zqm (blk_grown (g:=gb) (o:= .cells #[.slice A0 U.length c0,.slice A1 N.length c1] 30 (0,0)) zq135 hg (Kd.R_ne HO7.out HX7.out (by decide)))
       clear ho hb hg hat
       refine hK.out _ _ ⟨(blk_cell HG8.out 1).trans rfl,(blk_cell HG8.out 2).trans rfl⟩ (fun hHeld8=>?_)
       clear hK K
       (try simp only [Act.put,List.setIfInBounds_toArray,List.set_cons_zero,List.set_cons_succ])
       exact hC ⟨wd.heap.size,wd.heap.size+1,A7,c7,A8,c8⟩ w8 ⟨HG8.out,HX8.out,HA8.out,HO8.out,HV8.out,HB8.out⟩
     ·skip
      refine event_step (w1:=World.alloc (wd) (.cells #[.slice Ab (rowT (jI U) a U.length).length cb] 28)) (v:= .slice (some ⟨wd.heap.size,0,none⟩) 1 1) (by rfl) ?hr8 ?_
      case hr8=>first|(go_simp;done)|(go_simp;rfl)
      refine hK.out _ _ ⟨(blk_cell (blk_alloc HGr.out _) 1).trans rfl,(blk_cell (blk_alloc HGr.out _) 2).trans rfl⟩ (fun hHeld1=>?_)
      clear hK K
      (try simp only [Act.put,List.setIfInBounds_toArray,List.set_cons_zero,List.set_cons_succ])
      refine one_ (i:=7) (N:=some 74) (zqb 22 32511) rfl rfl (one_of HT_.out zqk) (by decide) (fun K hK=>?_)
      refine event_step (w1:=World.alloc (World.alloc wd (.cells #[.slice Ab (rowT (jI U) a U.length).length cb] 28)) (.cells #[.slice Aa (rowT (mI U) a U.length).length ca] 28)) (v:= .slice (some ⟨wd.heap.size+1,0,none⟩) 1 1) (by rfl) ?hr9 ?_
      case hr9=>first|(go_simp;done)|(go_simp;rfl)
      refine hK.out _ _ ⟨(blk_cell (blk_alloc (blk_alloc HGr.out _) _) 1).trans rfl,(blk_cell (blk_alloc (blk_alloc HGr.out _) _) 2).trans rfl⟩ (fun hHeld2=>?_)
      clear hK K
      (try simp only [Act.put,List.setIfInBounds_toArray,List.set_cons_zero,List.set_cons_succ])
      refine one_ (i:=8) (N:=some 75) (zqb 22 32767) rfl rfl (one_of HT_.out zqk) (by decide) (fun K hK=>?_)
      refine Kd.R_append_rows_step (Kd.slice 3 (Kd.int .i64)) (Rr:=fun x_ cs_=>x_=rowT (mI U) a U.length∧cs_= [.slice Aa (rowT (mI U) a U.length).length ca]) (w0:=w) w.heap.size (by rfl) (.tmp 72) (.tmp 74) 27 28 (.slice none 0 0) 24 rfl Tryz.underlying27 infoRow rfl (by decide) (by omega) (.slice AA (tabT U.length (mI U) a).length cA) (tabT U.length (mI U) a) [rowT (mI U) a U.length] _ 1 1 (fun k_=>True∧some k_≠(.slice AO (tabT U.length (jI U) a).length cO:Value).ownBlock) (fun k_=>some k_≠(.slice AO (tabT U.length (jI U) a).length cO:Value).ownBlock∧some k_≠(.slice AA (tabT U.length (mI U) a).length cA:Value).ownBlock) rfl rfl zq142 (reads_one zq81) ?aK10 (fun k_ hk=>⟨⟨trivial,hk.1⟩,hk.2⟩) ?aF10 zq41 (below_size zq41) (by rw [tabT_length];omega) ?_
      case aK10=>rintro x_ cs_ ⟨rfl,rfl⟩;exact⟨_,rfl,zq146⟩
      case aF10=>exact fun k_ hk=>⟨trivial,Kd.fresh_ok zq100 k_ hk⟩
      intro v7 w7 ho hb hg hat
      rw [← tabT_succ] at ho
      obtain⟨A7,c7,rfl⟩:=Kd.R_slice ho
      have HB7:=zqm hb
      have HA7:=zqm ho
      have HO7:=zqm (Kd.R_after zq100 hg hat)
      have HrO7:=zqm (Kd.R_after zq147 hg hat)
      have HV7:=zqm (Kd.R_after zq145 hg hat)
      have hg0:=Kd.R_lt HAr.out
      have HG7:=zqm (blk_grown (g:=g) (o:= .cells #[.slice A0 U.length c0,.slice AA (tabT U.length (mI U) a).length cA,.slice AO (tabT U.length (jI U) a).length cO,.slice A1 N.length c1,.int .i64 (0),.int .i64 (0)] 52 (0,0)) zq134 hg (Kd.R_ne HAr.out HGr.out (by decide)))
      have HX7:=zqm (blk_grown (g:=gb) (o:= .cells #[.slice A0 U.length c0,.slice A1 N.length c1] 30 (0,0)) zq136 hg (Kd.R_ne HAr.out HXr.out (by decide)))
      have hcy:w7.cell? ⟨wd.heap.size,0,none⟩=some (.slice Ab (rowT (jI U) a U.length).length cb):=grown_cell hg (by first|(go_simp;done)|(simp;done)) (by intro e_;have:=hg0 _ e_.symm;simp at this)
      clear ho hb hg hat hg0
      refine hK.out _ _ ⟨(blk_cell HG7.out 1).trans rfl,(blk_cell HG7.out 2).trans rfl⟩ (fun hHeld7=>?_)
      clear hK K
      (try simp only [Act.put,List.setIfInBounds_toArray,List.set_cons_zero,List.set_cons_succ])
      refine one_ (i:=15) (N:=some 82) (zqb 22 65535) rfl rfl (one_of HT_.out zqk) (by decide) (fun K hK=>?_)
      refine Kd.R_append_rows_step (Kd.slice 3 (Kd.int .i64)) (Rr:=fun x_ cs_=>x_=rowT (jI U) a U.length∧cs_= [.slice Ab (rowT (jI U) a U.length).length cb]) (w0:=w) w.heap.size (by rfl) (.tmp 79) (.tmp 81) 27 28 (.slice none 0 0) 24 rfl Tryz.underlying27 infoRow rfl (by decide) (by omega) (.slice AO (tabT U.length (jI U) a).length cO) (tabT U.length (jI U) a) [rowT (jI U) a U.length] _ 1 1 (fun k_=>True∧some k_≠(.slice A7 (tabT U.length (mI U) (a+1)).length c7:Value).ownBlock) (fun k_=>some k_≠(.slice AO (tabT U.length (jI U) a).length cO:Value).ownBlock∧some k_≠(.slice A7 (tabT U.length (mI U) (a+1)).length c7:Value).ownBlock) rfl rfl zq143 (reads_one zq81) ?aK11 (fun k_ hk=>⟨⟨trivial,hk.2⟩,hk.1⟩) ?aF11 zq41 (below_size zq41) (by rw [tabT_length];omega) ?_
      case aK11=>rintro x_ cs_ ⟨rfl,rfl⟩;exact⟨_,rfl,zq140⟩
      case aF11=>exact fun k_ hk=>⟨trivial,Kd.fresh_ok zq103 k_ hk⟩
      intro v8 w8 ho hb hg hat
      rw [← tabT_succ] at ho
      obtain⟨A8,c8,rfl⟩:=Kd.R_slice ho
      have HB8:=zqm hb
      have HO8:=zqm ho
      have HA8:=zqm (Kd.R_after zq103 hg hat)
      have HV8:=zqm (Kd.R_after (Kd.R_mono (ok':=fun k_=>(k_≠g∧some k_≠(Value.slice A7 (tabT U.length (mI U) (a+1)).length c7).ownBlock)∧some k_≠(Value.slice AO (tabT U.length (jI U) a).length cO).ownBlock) zq144 (fun k_ (hk:(k_≠g∧some k_≠(Value.slice AO (tabT U.length (jI U) a).length cO).ownBlock)∧some k_≠(Value.slice A7 (tabT U.length (mI U) (a+1)).length c7).ownBlock)=>⟨⟨hk.1.1,hk.2⟩,hk.1.2⟩)) hg hat)
      have HG8:=zqm (blk_grown (g:=g) (o:= .cells #[.slice A0 U.length c0,.slice AA (tabT U.length (mI U) a).length cA,.slice AO (tabT U.length (jI U) a).length cO,.slice A1 N.length c1,.int .i64 (0),.int .i64 (0)] 52 (0,0)) zq133 hg (Kd.R_ne HO7.out HG7.out (by decide)))
      have HX8:=zqm (blk_grown (g:=gb) (o:= .cells #[.slice A0 U.length c0,.slice A1 N.length c1] 30 (0,0)) zq135 hg (Kd.R_ne HO7.out HX7.out (by decide)))
      clear ho hb hg hat
      refine hK.out _ _ ⟨(blk_cell HG8.out 1).trans rfl,(blk_cell HG8.out 2).trans rfl⟩ (fun hHeld8=>?_)
      clear hK K
      (try simp only [Act.put,List.setIfInBounds_toArray,List.set_cons_zero,List.set_cons_succ])
      exact hC ⟨wd.heap.size+1,wd.heap.size,A7,c7,A8,c8⟩ w8 ⟨HG8.out,HX8.out,HA8.out,HO8.out,HV8.out,HB8.out⟩
     case cont=>
      rintro ⟨x74,x81,A7,c7,A8,c8⟩ w8 ⟨hG8,hX8,hA8,hO8,hV8,hB8⟩
      refine norm_ (by simp only [putAll,Act.put,List.setIfInBounds_toArray,List.set_cons_zero,List.set_cons_succ];rfl) ?_
      have HG8:=zqm hG8;clear hG8
      have HX8:=zqm hX8;clear hX8
      have HA8:=zqm hA8;clear hA8
      have HO8:=zqm hO8;clear hO8
      have HV8:=zqm hV8;clear hV8
      have HB8:=zqm hB8;clear hB8
      clear HGr HXr HAr HOr2 HVr HBr HrA HrO hHeld hg1 hg2
      refine zqp 16 83 (zqb 22 131071) HT_ ?_
      refine zqp 17 84 (zqb 22 262143) HT_ ?_
      have hs81:w8.cell? ⟨g,1,none⟩=some (.slice AA (tabT U.length (mI U) a).length cA):=(blk_cell HG8.out 1).trans rfl
      have hf81:=blk_frozen HG8.out 1
      refine last_ (i:=18) (N:=none) (zqb 22 524287) rfl rfl (one_of HT_.out zqk) (by decide) (fun K hK=>?_)
      refine skip_ (w1:=w8.setCell ⟨g,1,none⟩ (.slice A7 (tabT U.length (mI U) (a+1)).length c7)) (by rfl) rfl ?_ ?_
      ·go_simp
      refine hK.out _ _ ?_
      clear hK K
      have HG9:=zqm (show (w8.setCell ⟨g,1,none⟩ (.slice A7 (tabT U.length (mI U) (a+1)).length c7)).heap[g]? =some (.cells #[.slice A0 U.length c0,.slice A7 (tabT U.length (mI U) (a+1)).length c7,.slice AO (tabT U.length (jI U) a).length cO,.slice A1 N.length c1,.int .i64 (0),.int .i64 (0)] 52 (0,0)) from blk_put HG8.out 1 _ rfl)
      have HA9:=zqm (Kd.R_set HA8.out HG8.out (by decide) 1 (.slice A7 (tabT U.length (mI U) (a+1)).length c7))
      have HO9:=zqm (Kd.R_set HO8.out HG8.out (by decide) 1 (.slice A7 (tabT U.length (mI U) (a+1)).length c7))
      have HV9:=zqm (Kd.R_far (p:=⟨g,1,none⟩) HV8.out (fun k_ hk=>hk.1.1) (.slice A7 (tabT U.length (mI U) (a+1)).length c7))
      have HX9:=zqm (blk_far HX8.out (p:=⟨g,1,none⟩) HNE.out (.slice A7 (tabT U.length (mI U) (a+1)).length c7))
      have HB9:=zqm (below_set (j:=1) (v:= .slice A7 (tabT U.length (mI U) (a+1)).length c7) HB8.out HGE.out)
      generalize w8.setCell ⟨g,1,none⟩ (.slice A7 (tabT U.length (mI U) (a+1)).length c7)=w9 at HG9 HA9 HO9 HV9 HX9 HB9 ⊢
      clear hs81 hf81 HG8 HA8 HO8 HV8 HX8 HB8
      have hs92:w9.cell? ⟨g,2,none⟩=some (.slice AO (tabT U.length (jI U) a).length cO):=(blk_cell HG9.out 2).trans rfl
      have hf92:=blk_frozen HG9.out 2
      refine zqp 19 85 (zqb 22 1048575) HT_ ?_
      refine zqp 20 86 (zqb 22 2097151) HT_ ?_
      refine last_ (i:=21) (N:=none) (zqb 22 4194303) rfl rfl (one_of HT_.out zqk) (by decide) (fun K hK=>?_)
      refine skip_ (w1:=w9.setCell ⟨g,2,none⟩ (.slice A8 (tabT U.length (jI U) (a+1)).length c8)) (by rfl) rfl ?_ ?_
      ·go_simp
      refine hK.out _ _ ?_
      clear hK K
      have HG10:=zqm (show (w9.setCell ⟨g,2,none⟩ (.slice A8 (tabT U.length (jI U) (a+1)).length c8)).heap[g]? =some (.cells #[.slice A0 U.length c0,.slice A7 (tabT U.length (mI U) (a+1)).length c7,.slice A8 (tabT U.length (jI U) (a+1)).length c8,.slice A1 N.length c1,.int .i64 (0),.int .i64 (0)] 52 (0,0)) from blk_put HG9.out 2 _ rfl)
      have HA10:=zqm (Kd.R_set HA9.out HG9.out (by decide) 2 (.slice A8 (tabT U.length (jI U) (a+1)).length c8))
      have HO10:=zqm (Kd.R_set HO9.out HG9.out (by decide) 2 (.slice A8 (tabT U.length (jI U) (a+1)).length c8))
      have HV10:=zqm (Kd.R_far (p:=⟨g,2,none⟩) HV9.out (fun k_ hk=>hk.1.1) (.slice A8 (tabT U.length (jI U) (a+1)).length c8))
      have HX10:=zqm (blk_far HX9.out (p:=⟨g,2,none⟩) HNE.out (.slice A8 (tabT U.length (jI U) (a+1)).length c8))
      have HB10:=zqm (below_set (j:=2) (v:= .slice A8 (tabT U.length (jI U) (a+1)).length c8) HB9.out HGE.out)
      generalize w9.setCell ⟨g,2,none⟩ (.slice A8 (tabT U.length (jI U) (a+1)).length c8)=w10 at HG10 HA10 HO10 HV10 HX10 HB10 ⊢
      clear hs92 hf92 HG9 HA9 HO9 HV9 HX9 HB9
      refine done_ (done_of HT_.out zqk) ?_
      go_wp2
      go_roundg kn
      case measure=>omega
      case rel=>exact⟨a+1,_,_,by first|go_num|(rw [wrap_small (by omega) (by omega)];go_num),⟨by have:=HK.out;omega⟩,⟨by have:=HLT.out;omega⟩,HG10,HA10,HO10,HX10,⟨Kd.R_mono HV10.out (fun k_ hk=>⟨⟨hk.1.1,hk.2⟩,hk.1.2⟩)⟩,HB10⟩
  ·obtain rfl:a=U.length:=by have:=HK2.out;omega
   clear hlt
   obtain⟨AA,cA,eA⟩:=Kd.R_slice HA.out
   obtain⟨AO,cO,eO⟩:=Kd.R_slice HO.out
   rw [tabT_length] at eA eO
   subst eA eO
   have hlt':decide (U.length<U.length)=false:=by simp
   have hg4:wr.cell? ⟨g,4,none⟩=some (.int .i64 0):=(blk_cell HG.out 4).trans rfl
   have hf4:=blk_frozen HG.out 4
   have hnb:gb≠g:=HNE.out
   have hnc:g≠gb:=Ne.symm HNE.out
   have HLE:=zqm (HF.out.least HLB.out)
   go_wp2_with ((go_at_call 34;(with_reducible refine(impl_LeastOf.calls k _ _ U (optI (leastO U)) (leastO U).isSome _ ?s1 ?s2 HLE.out).mono ?_);(case s1=> exact zq97);(case s2=>assumption);rintro e w' ⟨rfl,⟨nd,rfl⟩⟩))
   go_loopg [100] (N.length+1) (fun kq v100 W=> ∃(a:Nat),v100= .int .i64 a∧Aside0 (a+kq=N.length+1)∧Aside0 (a≤N.length)∧Aside0 (W.heap[g]? =some (.cells #[.slice A0 U.length c0,.slice AA U.length cA,.slice AO U.length cO,.slice A1 N.length c1,.int .i64 (optI (leastO U)),.int .i64 (0)] 52 (0,0)))∧Aside0 (Kd.R (Kd.slice 3 (Kd.int .i64)) 28 W w.heap.size (fun _=>True) (.slice AA U.length cA) (tabI U.length (mI U)))∧Aside0 (Kd.R (Kd.slice 3 (Kd.int .i64)) 28 W w.heap.size (fun _=>True) (.slice AO U.length cO) (tabI U.length (jI U)))∧Aside0 (U.length≤cA∧U.length≤cO)∧Aside0 (W.heap[gb]? =some (.cells #[.slice A0 U.length c0,.slice A1 N.length c1] 30 (0,0)))∧Aside0 (Below w.heap.size w W)∧Aside0 (∀i,i<a→Ok3 U N i))
   case atStart=>
    refine⟨0,rfl,⟨by omega⟩,⟨by omega⟩,⟨blk_put (blk_drewN HG.out nd) 4 _ rfl⟩,⟨Kd.R_mono (Kd.R_set (Kd.R_drewN HA.out nd) (blk_drewN HG.out nd) (by decide) 4 (.int .i64 (optI (leastO U)))) (fun _ _=>trivial)⟩,⟨Kd.R_mono (Kd.R_set (Kd.R_drewN HO.out nd) (blk_drewN HG.out nd) (by decide) 4 (.int .i64 (optI (leastO U)))) (fun _ _=>trivial)⟩,⟨?_⟩,⟨blk_far (blk_drewN HX.out nd) HNE.out _⟩,⟨below_set (pw_below_drewN HB.out nd) HGE.out⟩,⟨fun i hi=>absurd hi (by omega)⟩⟩
    ·exact⟨by have h_:=(Kd.R_reads HA.out);obtain⟨A_,c_,e_,l_,k_⟩:=h_;rw [tabT_length] at e_ l_;injection e_ with e1 e2 e3;subst e3;exact l_,by have h_:=(Kd.R_reads HO.out);obtain⟨A_,c_,e_,l_,k_⟩:=h_;rw [tabT_length] at e_ l_;injection e_ with e1 e2 e3;subst e3;exact l_⟩
   case round=>
    clear hg4 hf4 hq0 hq1 HA HO HOr HB HX HG
    obtain⟨a,rfl,HK3,HK4,HG,HCA,HCO,HCC,HX,HB,HS⟩:=hrel
    cases gk with
    |zero=>exact absurd HK3.out (by have:=HK4.out;omega)
    |succ kn3=>
    have hq0:wr.cell? ⟨gb,0,none⟩=some (.slice A0 U.length c0):=(blk_cell HX.out 0).trans rfl
    have hq1:wr.cell? ⟨gb,1,none⟩=some (.slice A1 N.length c1):=(blk_cell HX.out 1).trans rfl
    by_cases hlta:a<N.length
    ·have hlta':decide (a<N.length)=true:=decide_eq_true hlta
     have HLT:=zqm hlta
     obtain⟨adN,eN,hNa⟩:=ints_cell HR1.out a (by omega) (by omega)
     subst eN
     replace hNa:=cell_up hNa HB.out rfl
     simp only [Int.toNat_natCast] at hNa
     by_cases c1:0≤at1 N a∧at1 N a<(U.length:Int)
     ·have hA1:=zqm (show impl_isAnswer.f U (at1 N a)=some true by unfold impl_isAnswer.f;rw [if_pos c1.1];simp [c1.2])
      obtain⟨adN',eN',hNb⟩:=ints_cell HR1.out (at1 N a) c1.1 (by have:=HL.out;omega)
      cases eN'
      replace hNb:=cell_up hNb HB.out rfl
      by_cases c2:at1 N (at1 N a).toNat=(a:Int)
      ·have hc2:(at1 N (at1 N a).toNat !=(a:Int))=false:=by rw [c2];simp
       obtain⟨adA,adR,cR,eA,hRa,hRb,hRl⟩:=tab_cell (Kd.R_reads' HCA.out).2.2 (a:Int) (at1 N a) (by omega) (by have:=HL.out;omega) c1.1 c1.2
       subst eA
       simp only [Int.toNat_natCast] at hRa hRb
       have hg1:wr.cell? ⟨g,1,none⟩=some (.slice (some adA) U.length cA):=(blk_cell HG.out 1).trans rfl
       have hg4:wr.cell? ⟨g,4,none⟩=some (.int .i64 (optI (leastO U))):=(blk_cell HG.out 4).trans rfl
       have p1:(0≤at1 N a)=True:=eq_true c1.1
       have p2:(at1 N a<(U.length:Int))=True:=eq_true c1.2
       have p3:(at1 N a<(N.length:Int))=True:=eq_true (by have:=HL.out;omega)
       have p4:(a<N.length)=True:=eq_true hlta
       have p5:(a<U.length)=True:=eq_true (by have:=HL.out;omega)
       have C1:=zqm c1
       have C2:=zqm c2
       clear c1 c2 hlta
       by_cases c3:meetO U a (at1 N a).toNat=leastO U
       ·have hc3:(mI U a (at1 N a).toNat !=optI (leastO U))=false:=by unfold mI;rw [c3];simp
        have C3:=zqm c3
        clear c3
        go_wp2_with fail
        go_quiet ((go_at_call 35;(with_reducible refine(impl_isAnswer.calls _ _ U (at1 N a) true _ ?s1 ?s2 hA1.out).mono ?_);(case s1=> exact zq86);(case s2=>assumption);rintro e w' ⟨rfl,⟨nd,rfl⟩⟩;(try first|exact⟨rfl,_,World.drewN_drewN _ _ _⟩|exact⟨rfl,_,Eq.trans (World.drewN_drewN _ _ _) (congrArg (World.drewN _) (Nat.add_assoc _ _ _))⟩)))
        go_wp2
        go_roundg kn3
        case measure=>omega
        case rel=>exact⟨a+1,by first|go_num|(rw [wrap_small (by omega) (by have:=HLT.out;have:=HSM.out;have:=HL.out;omega)];go_num),⟨by have:=HK3.out;omega⟩,⟨by have:=HLT.out;omega⟩,⟨blk_drewN HG.out _⟩,⟨Kd.R_drewN HCA.out _⟩,⟨Kd.R_drewN HCO.out _⟩,HCC,⟨blk_drewN HX.out _⟩,⟨pw_below_drewN HB.out _⟩,⟨fun i hi=>by
         rcases Nat.lt_or_ge i a with h|h
         ·exact HS.out i h
         ·obtain rfl:i=a:=by omega
          exact⟨C1.out.1,C1.out.2,C2.out,C3.out⟩⟩⟩
       ·have hc3:(mI U a (at1 N a).toNat !=optI (leastO U))=true:=by rw [bne_iff_ne];intro h;exact c3 (optI_inj h)
        have HNO:=zqm (logicB_no3 (U:=U) (N:=N) (a:=a) zq114 (fun h=>c3 h.2.2.2))
        clear c3
        go_wp2_with fail
        go_quiet ((go_at_call 35;(with_reducible refine(impl_isAnswer.calls _ _ U (at1 N a) true _ ?s1 ?s2 hA1.out).mono ?_);(case s1=> exact zq86);(case s2=>assumption);rintro e w' ⟨rfl,⟨nd,rfl⟩⟩;(try first|exact⟨rfl,_,World.drewN_drewN _ _ _⟩|exact⟨rfl,_,Eq.trans (World.drewN_drewN _ _ _) (congrArg (World.drewN _) (Nat.add_assoc _ _ _))⟩)))
        go_wp2
        go_ret
        exact⟨pw_below_drewN HB.out _,.inr ⟨HNO.out,rfl⟩⟩
      ·have hc2:(at1 N (at1 N a).toNat !=(a:Int))=true:=by rw [bne_iff_ne];exact c2
       have p1:(0≤at1 N a)=True:=eq_true c1.1
       have p2:(at1 N a<(U.length:Int))=True:=eq_true c1.2
       have p3:(at1 N a<(N.length:Int))=True:=eq_true (by have:=HL.out;omega)
       have p4:(a<N.length)=True:=eq_true hlta
       have HNO:=zqm (logicB_no3 (U:=U) (N:=N) (a:=a) zq114 (fun h=>c2 h.2.2.1))
       clear c1 c2 hlta
       go_wp2_with fail
       go_quiet ((go_at_call 35;(with_reducible refine(impl_isAnswer.calls _ _ U (at1 N a) true _ ?s1 ?s2 hA1.out).mono ?_);(case s1=> exact zq86);(case s2=>assumption);rintro e w' ⟨rfl,⟨nd,rfl⟩⟩;(try first|exact⟨rfl,_,World.drewN_drewN _ _ _⟩|exact⟨rfl,_,Eq.trans (World.drewN_drewN _ _ _) (congrArg (World.drewN _) (Nat.add_assoc _ _ _))⟩)))
       go_wp2
       go_ret
       exact⟨pw_below_drewN HB.out _,.inr ⟨HNO.out,rfl⟩⟩
     ·have hA1:=zqm (show impl_isAnswer.f U (at1 N a)=some false by
       unfold impl_isAnswer.f
       by_cases h:at1 N a≥0
       ·rw [if_pos h];simp;exact Int.not_lt.1 fun h2=>c1 ⟨h,h2⟩
       ·rw [if_neg h])
      have p4:(a<N.length)=True:=eq_true hlta
      have HNO:=zqm (logicB_no3 (U:=U) (N:=N) (a:=a) zq114 (fun h=>c1 ⟨h.1,h.2.1⟩))
      clear c1 hlta
      go_wp2_with fail
      go_quiet ((go_at_call 35;(with_reducible refine(impl_isAnswer.calls _ _ U (at1 N a) false _ ?s1 ?s2 hA1.out).mono ?_);(case s1=> exact zq86);(case s2=>assumption);rintro e w' ⟨rfl,⟨nd,rfl⟩⟩;(try first|exact⟨rfl,_,World.drewN_drewN _ _ _⟩|exact⟨rfl,_,Eq.trans (World.drewN_drewN _ _ _) (congrArg (World.drewN _) (Nat.add_assoc _ _ _))⟩)))
      go_wp2
      go_ret
      exact⟨pw_below_drewN HB.out _,.inr ⟨HNO.out,rfl⟩⟩
    ·have hlta':decide (a<N.length)=false:=decide_eq_false hlta
     obtain rfl:a=N.length:=by have:=HK4.out;omega
     clear hlta
     have HOrd:=zqm (latticeB_order HLB.out)
     go_wp2_with fail
     go_loopg [140] (U.length+1) (fun kq v140 W=> ∃(a:Nat),v140= .int .i64 a∧Aside0 (a+kq=U.length+1)∧Aside0 (a≤U.length)∧Aside0 (W.heap[g]? =some (.cells #[.slice A0 U.length c0,.slice AA U.length cA,.slice AO U.length cO,.slice A1 N.length c1,.int .i64 (optI (leastO U)),.int .i64 (0)] 52 (0,0)))∧Aside0 (Kd.R (Kd.slice 3 (Kd.int .i64)) 28 W w.heap.size (fun _=>True) (.slice AA U.length cA) (tabI U.length (mI U)))∧Aside0 (Kd.R (Kd.slice 3 (Kd.int .i64)) 28 W w.heap.size (fun _=>True) (.slice AO U.length cO) (tabI U.length (jI U)))∧Aside0 (U.length≤cA∧U.length≤cO)∧Aside0 (W.heap[gb]? =some (.cells #[.slice A0 U.length c0,.slice A1 N.length c1] 30 (0,0)))∧Aside0 (Below w.heap.size w W)∧Aside0 (∀i,i<a→ ∀j,j<U.length→Ok5 U N i j))
     case atStart=>exact⟨0,rfl,⟨by omega⟩,⟨by omega⟩,HG,HCA,HCO,HCC,HX,HB,⟨fun i hi=>absurd hi (by omega)⟩⟩
     case round=>
      clear hq0 hq1 HG HCA HCO HCC HX HB
      obtain⟨a,rfl,HK5,HK6,HG,HCA,HCO,HCC,HX,HB,HT⟩:=hrel
      cases gk with
      |zero=>exact absurd HK5.out (by have:=HK6.out;omega)
      |succ kn4=>
      have hq0:wr.cell? ⟨gb,0,none⟩=some (.slice A0 U.length c0):=(blk_cell HX.out 0).trans rfl
      have hq1:wr.cell? ⟨gb,1,none⟩=some (.slice A1 N.length c1):=(blk_cell HX.out 1).trans rfl
      by_cases hlta:a<U.length
      ·have hlta':decide (a<U.length)=true:=decide_eq_true hlta
       have HLT:=zqm hlta
       have hrow:=HOrd.out.row a hlta
       obtain⟨adU,Ar,cr,eU,hUa,hUl,hUr⟩:=rows_cell HR0.out a (by omega) (by omega)
       subst eU
       simp only [Int.toNat_natCast] at hUa hUl hUr
       rw [hrow] at hUa hUl hUr
       replace hUa:=cell_up hUa HB.out rfl
       have HUr:=zqm (Kd.C_below hUr HB.out)
       have p1:(a<U.length)=True:=eq_true hlta
       clear hlta hrow hUr
       go_wp2_with fail
       obtain⟨wo,rfl⟩: ∃wo:World,wo=wr:=⟨_,rfl⟩
       go_loopg [147] (U.length+1) (fun kj v147 W=> ∃(b m:Nat),v147= .int .i64 b∧Aside0 (b+kj=U.length+1)∧Aside0 (b≤U.length)∧Aside0 (∀j,j<b→Ok5 U N a j)∧W=wo.drewN m)
       case atStart=>exact⟨0,0,rfl,⟨by omega⟩,⟨by omega⟩,⟨fun i hi=>absurd hi (by omega)⟩,rfl⟩
       case round=>
        obtain⟨b,m,rfl,HKj,HKj2,HU5,rfl⟩:=hrel
        cases gk with
        |zero=>exact absurd HKj.out (by have:=HKj2.out;omega)
        |succ kj=>
        by_cases hltb:b<U.length
        ·have hltb':decide (b<U.length)=true:=decide_eq_true hltb
         have HLTb:=zqm hltb
         have p2:(b<U.length)=True:=eq_true hltb
         obtain⟨adR,eR,hRb⟩:=ints_cell HUr.out b (by omega) (by omega)
         subst eR
         simp only [Int.toNat_natCast] at hRb
         have hRb':wo.cell? (adR.add b)=some (.int .i64 (at2 U a b)):=hRb
         clear hRb
         by_cases d1:leB U a b=true
         ·have hd1:(at2 U a b==1)=true:=d1
          obtain⟨q1,q2,_,_⟩:=HS.out a zq114
          obtain⟨q3,q4,_,_⟩:=HS.out b (by have:=HL.out;omega)
          obtain⟨adN,eN,hNa⟩:=ints_cell HR1.out a (by omega) zq114
          subst eN
          obtain⟨adN',eN',hNb⟩:=ints_cell HR1.out b (by omega) (by have:=HL.out;omega)
          cases eN'
          obtain⟨ad1,ad2,cr2,e1,hM1,hM2,hMl⟩:=mat_cell HR0.out HOrd.out.row (at1 N b) (at1 N a) q3 q4 q1 q2
          cases e1
          replace hNa:=cell_up hNa HB.out rfl
          replace hNb:=cell_up hNb HB.out rfl
          replace hM1:=cell_up hM1 HB.out rfl
          replace hM2:=cell_up hM2 HB.out rfl
          simp only [Int.toNat_natCast] at hNa hNb
          have p3:(0≤at1 N a)=True:=eq_true q1
          have p4:(at1 N a<(U.length:Int))=True:=eq_true q2
          have p5:(0≤at1 N b)=True:=eq_true q3
          have p6:(at1 N b<(U.length:Int))=True:=eq_true q4
          have p7:(a<N.length)=True:=eq_true zq114
          have p8:(b<N.length)=True:=eq_true (by have:=HL.out;omega)
          have D1:=zqm d1
          clear q1 q2 q3 q4 hltb d1
          by_cases d2:leB U (at1 N b).toNat (at1 N a).toNat=true
          ·have hd2:(at2 U (at1 N b).toNat (at1 N a).toNat !=1)=false:=by have h_:(at2 U (at1 N b).toNat (at1 N a).toNat==1)=true:=d2;simpa [bne] using h_
           have D2:=zqm d2
           clear d2
           go_wp2_with fail
           go_quiet (fail)
           go_wp2
           go_roundg kj
           case measure=>omega
           case rel=>exact⟨b+1,_,zq123,⟨by have:=HKj.out;omega⟩,⟨by have:=HLTb.out;omega⟩,⟨fun i hi=>by
            rcases Nat.lt_or_ge i b with h|h
            ·exact HU5.out i h
            ·obtain rfl:i=b:=by omega
             exact fun _=>D2.out⟩,rfl⟩
          ·have hd2:(at2 U (at1 N b).toNat (at1 N a).toNat !=1)=true:=by rw [bne_iff_ne];intro h_;exact d2 (by unfold leB;rw [h_];rfl)
           have HNO:=zqm (logicB_no5 (U:=U) (N:=N) (a:=a) (b:=b) HLT.out HLTb.out (fun h=>d2 (h D1.out)))
           clear d2
           go_wp2_with fail
           go_quiet (fail)
           go_wp2
           go_ret
           exact⟨by repeat(first|exact HB.out|apply pw_below_drewN|apply below_drew1),.inr ⟨HNO.out,rfl⟩⟩
         ·have hd1:(at2 U a b==1)=false:=by simpa [leB] using d1
          have D1:=zqm d1
          clear d1 hltb
          go_wp2_with fail
          go_quiet (fail)
          go_wp2
          go_roundg kj
          case measure=>omega
          case rel=>exact⟨b+1,_,zq123,⟨by have:=HKj.out;omega⟩,⟨by have:=HLTb.out;omega⟩,⟨fun i hi=>by
           rcases Nat.lt_or_ge i b with h|h
           ·exact HU5.out i h
           ·obtain rfl:i=b:=by omega
            exact fun h=>absurd h D1.out⟩,rfl⟩
        ·have hltb':decide (b<U.length)=false:=decide_eq_false hltb
         obtain rfl:b=U.length:=by have:=HKj2.out;omega
         clear hltb
         go_wp2_with fail
         go_roundg kn4
         case measure=>omega
         case rel=>exact⟨a+1,by first|go_num|(rw [wrap_small (by omega) (by have:=HLT.out;have:=HSM.out;omega)];go_num),⟨by have:=HK5.out;omega⟩,⟨by have:=HLT.out;omega⟩,⟨blk_drewN HG.out _⟩,⟨Kd.R_drewN HCA.out _⟩,⟨Kd.R_drewN HCO.out _⟩,HCC,⟨blk_drewN HX.out _⟩,⟨pw_below_drewN HB.out _⟩,⟨fun i hi=>by
          rcases Nat.lt_or_ge i a with h|h
          ·exact HT.out i h
          ·obtain rfl:i=a:=by omega
           exact HU5.out⟩⟩
      ·have hlta':decide (a<U.length)=false:=decide_eq_false hlta
       obtain rfl:a=U.length:=by have:=HK6.out;omega
       clear hlta
       have HYES:=zqm (logicB_yes (U:=U) (N:=N) HLB.out HL.out (fun i hi=>HS.out i (by have:=HL.out;omega)) HT.out)
       have HLg:=zqm (logicB_iff.1 HYES.out)
       obtain⟨mno,hmno⟩:=HLg.out.least_some
       have hno:optI (leastO U)=(mno:Int):=by rw [hmno];rfl
       have hmn:mno<U.length:=(findN_some hmno).1
       obtain⟨adN,eN,hNa⟩:=ints_cell HR1.out mno (by omega) (by have:=HL.out;omega)
       subst eN
       replace hNa:=cell_up hNa HB.out rfl
       simp only [Int.toNat_natCast] at hNa
       rw [hno] at HG
       have hg4:wr.cell? ⟨g,4,none⟩=some (.int .i64 (mno:Int)):=(blk_cell HG.out 4).trans rfl
       have hg5:wr.cell? ⟨g,5,none⟩=some (.int .i64 0):=(blk_cell HG.out 5).trans rfl
       have hf5:=blk_frozen HG.out 5
       have p1:(mno<N.length)=True:=eq_true (by have:=HL.out;omega)
       have HNO:=zqm hno
       clear hno hmno hmn
       go_wp2_with fail
       refine start_ (n:=12) (S:=(fun w'=>w'.cell? ⟨gb,1,none⟩=some (.slice (some adN) N.length c1)∧w'.cell? ⟨g,4,none⟩=some (.int .i64 (mno:Int))∧w'.cell? (adN.add mno)=some (.int .i64 (at1 N mno)))) (ds:= [11]) (zqb 12 0) zqk rfl rfl ⟨hq1,hg4,hNa⟩ (fun hHeld=>?_)
       refine with_tabW impl_told.tab34 impl_told.bits34 (fun HT_ HW_=>?_)
       refine zqp 0 175 (zqb 12 1) HT_ ?_
       refine zqp 1 176 (zqb 12 3) HT_ ?_
       refine zqp 3 178 (zqb 12 11) HT_ ?_
       refine zqp 4 179 (zqb 12 27) HT_ ?_
       refine zqp 5 180 (zqb 12 59) HT_ ?_
       refine zqw 2 177 (zqb 12 63) HT_ HW_ hHeld ?_
       refine zqw 6 181 (zqb 12 127) HT_ HW_ hHeld ?_
       refine zqp 7 182 (zqb 12 255) HT_ ?_
       refine zqw 8 183 (zqb 12 511) HT_ HW_ hHeld ?_
       refine zqp 9 184 (zqb 12 1023) HT_ ?_
       refine zqp 10 185 (zqb 12 2047) HT_ ?_
       refine last_ (i:=11) (N:=none) (zqb 12 4095) rfl rfl (one_of HT_.out zqk) (by decide) (fun K hK=>?_)
       refine skip_ (w1:=World.setCell wr.drew ⟨g,5,none⟩ (.int .i64 (at1 N mno))) (by rfl) rfl ?_ ?_
       ·go_simp
       refine hK.out _ _ ?_
       clear hK K
       refine done_ (done_of HT_.out zqk) ?_
       go_wp2
       go_ret
       refine⟨below_set (below_drew1 HB.out) HGE.out,.inl ⟨HYES.out,g,rfl,HGE.out,?_⟩⟩
       unfold AlgOf;rw [HNO.out,Int.toNat_natCast]
       have hb5:Below w.heap.size w (World.setCell wr.drew ⟨g,5,none⟩ (.int .i64 (at1 N mno))):=below_set (below_drew1 HB.out) HGE.out
       have hA5:=(Kd.R_reads' (Kd.R_set (Kd.R_drew HCA.out) (blk_drew HG.out) (by decide) 5 (.int .i64 (at1 N mno)))).2.2
       have hO5:=(Kd.R_reads' (Kd.R_set (Kd.R_drew HCO.out) (blk_drew HG.out) (by decide) 5 (.int .i64 (at1 N mno)))).2.2
       refine⟨_,c0,AA,cA,AO,cO,_,c1,?_,⟨hc0,by rw [tabI_length];exact HCC.out.1,by rw [tabI_length];exact HCC.out.2,hc1⟩,Kd.C_below HR0.out hb5,hA5,hO5,Kd.C_below HR1.out hb5⟩
       rw [tabI_length,tabI_length];exact blk_put (blk_drew HG.out) 5 _ rfl
theorem told_calls (k : Nat) (A0 : Option Addr) (c0 : Nat) (U : List (List Int)) (A1 : Option Addr) (c1 : Nat) (N : List Int) (w : World)
 (hr0:Kd.C (Kd.slice 3 (Kd.int .i64)) w A0 U.length U) (hc0:U.length≤c0) (hr1:Kd.C (Kd.int .i64) w A1 N.length N) (hc1:N.length≤c1) (hF:ToldFacts k U):Calls Tryz.prog 20 #[.agg #[.slice A0 U.length c0,.slice A1 N.length c1]] w (ToldPost U N w):=by
 cases hlat:latticeB U with
 |false=>
  refine(told_flat k A0 c0 U A1 c1 N w hr0 hc0 hr1 hc1 (hlat ▸ hF.lat)).mono fun e w' h=>⟨h.2,.inr ⟨?_,h.1⟩⟩
  unfold logicB;rw [hlat];rfl
 |true=>
  by_cases hl:N.length=U.length
  ·exact told_walk k A0 c0 U A1 c1 N w hr0 hc0 hr1 hc1 hF hl hlat
  ·refine(told_long k A0 c0 U A1 c1 N w hr0 hc0 hr1 hc1 (hlat ▸ hF.lat) hl).mono fun e w' h=>⟨h.2,.inr ⟨?_,h.1⟩⟩
   rw [Bool.eq_false_iff]
   intro h2
   exact hl (logicB_iff.1 h2).len
section
def In (U : List (List Int)) (a : Int) : Prop := 0 ≤ a ∧ a < (U.length : Int)
def inR (n : Nat) (a : Int) : Bool := decide (0 ≤ a) && decide (a < (n : Int))
theorem inR_iff {U : List (List Int)} {a : Int} : inR U.length a = true ↔ In U a := by simp [inR, In]
def andI (U : List (List Int)) (a b : Int) : Int := mI U a.toNat b.toNat
def orI (U : List (List Int)) (a b : Int) : Int := jI U a.toNat b.toNat
def notI (N : List Int) (a : Int) : Int := at1 N a.toNat
def noI (U : List (List Int)) : Int := optI (leastO U)
def yesI (U : List (List Int)) (N : List Int) : Int := notI N (noI U)
section
variable {U : List (List Int)} {N : List Int} (L : Logic U N)
include L
theorem _root_.Oml.Logic.in_and {a b : Int} (ha : In U a) (hb : In U b) : In U (andI U a b) := by
 obtain⟨m,hm⟩:=Option.isSome_iff_exists.1 (L.meets a.toNat b.toNat (by have:=ha.1;have:=ha.2;omega) (by have:=hb.1;have:=hb.2;omega))
 have:=(findN_some hm).1
 unfold In andI mI;rw [hm];simp only [optI];omega
theorem _root_.Oml.Logic.in_or {a b : Int} (ha : In U a) (hb : In U b) : In U (orI U a b) := by
 obtain⟨m,hm⟩:=Option.isSome_iff_exists.1 (L.joins a.toNat b.toNat (by have:=ha.1;have:=ha.2;omega) (by have:=hb.1;have:=hb.2;omega))
 have:=(findN_some hm).1
 unfold In orI jI;rw [hm];simp only [optI];omega
theorem _root_.Oml.Logic.in_not {a : Int} (ha : In U a) : In U (notI N a) := L.ran a.toNat (by have := ha.1; have := ha.2; omega)
theorem _root_.Oml.Logic.in_no : In U (noI U) := by
 obtain ⟨m, hm⟩ := L.least_some
 have := (findN_some hm).1
 unfold In noI; rw [hm]; simp only [optI]; omega
theorem _root_.Oml.Logic.in_yes : In U (yesI U N) := L.in_not L.in_no
end
structure Adr where
 aU:Addr
 aA:Addr
 aO:Addr
 aN:Addr
 cU:Nat
 cA:Nat
 cO:Nat
 cN:Nat
 rU:Nat→Addr
 rA:Nat→Addr
 rO:Nat→Addr
 qU:Nat→Nat
 qA:Nat→Nat
 qO:Nat→Nat
structure View (W : World) (g : Nat) (U : List (List Int)) (N : List Int) (v : Adr) : Prop where
 blk:W.heap[g]? =some (.cells #[.slice (some v.aU) U.length v.cU,.slice (some v.aA) U.length v.cA,.slice (some v.aO) U.length v.cO,.slice (some v.aN) U.length v.cN,.int .i64 (noI U),.int .i64 (yesI U N)] 52 (0,0))
 len:N.length=U.length
 u: ∀a,In U a→W.cell? (v.aU.add a.toNat)=some (.slice (some (v.rU a.toNat)) U.length (v.qU a.toNat))
 u2: ∀a b,In U a→In U b→W.cell? ((v.rU a.toNat).add b.toNat)=some (.int .i64 (at2 U a.toNat b.toNat))
 m: ∀a,In U a→W.cell? (v.aA.add a.toNat)=some (.slice (some (v.rA a.toNat)) U.length (v.qA a.toNat))
 m2: ∀a b,In U a→In U b→W.cell? ((v.rA a.toNat).add b.toNat)=some (.int .i64 (andI U a b))
 j: ∀a,In U a→W.cell? (v.aO.add a.toNat)=some (.slice (some (v.rO a.toNat)) U.length (v.qO a.toNat))
 j2: ∀a b,In U a→In U b→W.cell? ((v.rO a.toNat).add b.toNat)=some (.int .i64 (orI U a b))
 n: ∀a,In U a→W.cell? (v.aN.add a.toNat)=some (.int .i64 (notI N a))
 capU:U.length≤v.cU
 capR: ∀a,In U a→U.length≤v.qU a.toNat
namespace View
section
variable {W W1 : World} {g : Nat} {U : List (List Int)} {N : List Int} {v : Adr} (h : View W g U N v)
include h
theorem below (hb : Below W.heap.size W W1) : View W1 g U N v where
 blk:=blk_below h.blk hb
 len:=h.len
 u:=fun a ha=>cell_up (h.u a ha) hb rfl
 u2:=fun a b ha hb'=>cell_up (h.u2 a b ha hb') hb rfl
 m:=fun a ha=>cell_up (h.m a ha) hb rfl
 m2:=fun a b ha hb'=>cell_up (h.m2 a b ha hb') hb rfl
 j:=fun a ha=>cell_up (h.j a ha) hb rfl
 j2:=fun a b ha hb'=>cell_up (h.j2 a b ha hb') hb rfl
 n:=fun a ha=>cell_up (h.n a ha) hb rfl
 capU:=h.capU
 capR:=h.capR
theorem f0 : W.cell? ⟨g, 0, none⟩ = some (.slice (some v.aU) U.length v.cU) := (blk_cell h.blk 0).trans rfl
theorem f1 : W.cell? ⟨g, 1, none⟩ = some (.slice (some v.aA) U.length v.cA) := (blk_cell h.blk 1).trans rfl
theorem f2 : W.cell? ⟨g, 2, none⟩ = some (.slice (some v.aO) U.length v.cO) := (blk_cell h.blk 2).trans rfl
theorem f3 : W.cell? ⟨g, 3, none⟩ = some (.slice (some v.aN) U.length v.cN) := (blk_cell h.blk 3).trans rfl
theorem f4 : W.cell? ⟨g, 4, none⟩ = some (.int .i64 (noI U)) := (blk_cell h.blk 4).trans rfl
theorem f5 : W.cell? ⟨g, 5, none⟩ = some (.int .i64 (yesI U N)) := (blk_cell h.blk 5).trans rfl
theorem drewN (n : Nat) : View (W.drewN n) g U N v := h.below (pw_below_drewN (Below.refl _ _) n)
theorem alloc (o : Obj) : View (W.alloc o) g U N v := h.below (below_alloc (Below.refl _ _) o)
theorem rowsU (L : Logic U N) : Kd.C (Kd.slice 3 (Kd.int .i64)) W (some v.aU) U.length U := by
 have hs:=L.small
 refine⟨rfl,by omega,fun _=>⟨v.aU,rfl,fun j p hp=>?_⟩⟩
 have hj:j<U.length:=(List.getElem?_eq_some_iff.1 hp).1
 have hin:In U (j:Int):=⟨by omega,by omega⟩
 have hpl:p.length=U.length:=by
  have:=L.row j hj
  rw [List.getD_eq_getElem?_getD,hp] at this
  exact this
 refine⟨[.slice (some (v.rU j)) p.length (v.qU j)],rfl,⟨some (v.rU j),v.qU j,rfl,by rw [hpl];have:=h.capR _ hin;simpa using this,?_⟩,fun i u hu=>?_⟩
 ·refine⟨rfl,by omega,fun _=>⟨v.rU j,rfl,fun i q hq=>?_⟩⟩
  have hi:i<p.length:=(List.getElem?_eq_some_iff.1 hq).1
  refine⟨[.int .i64 q],rfl,rfl,fun z u hu=>?_⟩
  have hz:z=0:=by
   rcases z with _|z
   ·rfl
   ·simp at hu
  subst hz
  have hu':Value.int .i64 q=u:=by simpa using hu
  subst hu'
  have:=h.u2 j i hin ⟨by omega,by omega⟩
  simp only [Int.toNat_natCast] at this
  show W.cell? ((v.rU j).add (i*1+0))=_
  rw [Nat.mul_one,Nat.add_zero,this]
  simp [at2,List.getD_eq_getElem?_getD,hp,hq]
 ·have hz:i=0:=by
   rcases i with _|z
   ·rfl
   ·simp at hu
  subst hz
  have hu':Value.slice (some (v.rU j)) p.length (v.qU j)=u:=by simpa using hu
  subst hu'
  have:=h.u j hin
  simp only [Int.toNat_natCast] at this
  show W.cell? (v.aU.add (j*1+0))=_
  rw [Nat.mul_one,Nat.add_zero,this,hpl]
end
end View
theorem rows_adr {W : World} {A : Option Addr} {n m : Nat} {xs : List (List Int)} (h : Kd.C (Kd.slice 3 (Kd.int .i64)) W A m xs) (hm : m = n) (hn : 0 < n) (hr : ∀ a, a < n → (xs.getD a []).length = n) :
 ∃(ad:Addr) (r:Nat→Addr) (q:Nat→Nat),A=some ad∧(∀a,a<n→W.cell? (ad.add a)=some (.slice (some (r a)) n (q a)))∧(∀a b,a<n→b<n→W.cell? ((r a).add b)=some (.int .i64 (at2 xs a b)))∧ ∀a,a<n→n≤q a:=by
 subst hm
 obtain⟨ad,_,_,e,_⟩:=mat_cell h hr 0 0 (by omega) (by omega) (by omega) (by omega)
 have key: ∀a:Nat,∃(r:Addr) (q:Nat),a<m→W.cell? (ad.add a)=some (.slice (some r) m q)∧(∀b,b<m→W.cell? (r.add b)=some (.int .i64 (at2 xs a b)))∧m≤q:=by
  intro a
  by_cases ha:a<m
  ·obtain⟨ad1,Ar,cr,e1,hc,hl,hk⟩:=rows_cell h a (by omega) (by omega)
   rw [e] at e1
   injection e1 with e1
   subst e1
   simp only [Int.toNat_natCast] at hc hl hk
   rw [hr a ha] at hc hl hk
   obtain⟨r,e2,_⟩:=ints_cell hk 0 (by omega) (by omega)
   subst e2
   refine⟨r,cr,fun _=>⟨hc,fun b hb=>?_,hl⟩⟩
   obtain⟨r',e3,hc3⟩:=ints_cell hk b (by omega) (by omega)
   cases e3
   simpa [at2,at1] using hc3
  ·exact⟨ad,0,fun h=>absurd h ha⟩
 refine⟨ad,fun a=>Classical.choose (key a),fun a=>Classical.choose (Classical.choose_spec (key a)),e,fun a ha=>?_,fun a b ha hb=>?_,fun a ha=>?_⟩
 ·exact(Classical.choose_spec (Classical.choose_spec (key a)) ha).1
 ·exact(Classical.choose_spec (Classical.choose_spec (key a)) ha).2.1 b hb
 ·exact(Classical.choose_spec (Classical.choose_spec (key a)) ha).2.2
theorem view_of {W : World} {g : Nat} {U : List (List Int)} {N : List Int} (L : Logic U N) (h : AlgOf W g U N) : ∃ v, View W g U N v := by
 obtain⟨A0,c0,A1,c1,A2,c2,A3,c3,h1,hc,k0,k1,k2,k3⟩:=h
 have hn:0<U.length:=L.pos
 rw [tabI_length] at h1 hc k1 k2
 rw [tabI_length,L.len] at h1
 rw [tabI_length,L.len] at hc
 rw [L.len] at k3
 obtain⟨aU,rU,qU,eU,u1,u2,u3⟩:=rows_adr k0 rfl hn L.row
 obtain⟨aA,rA,qA,eA,m1,m2,m3⟩:=rows_adr k1 rfl hn (tabI_row _ _)
 obtain⟨aO,rO,qO,eO,j1,j2,j3⟩:=rows_adr k2 rfl hn (tabI_row _ _)
 obtain⟨aN,eN,_⟩:=ints_cell k3 0 (by omega) (by omega)
 subst eU eA eO eN
 have nat: ∀a,In U a→a.toNat<U.length:=fun a ha=>by have:=ha.1;have:=ha.2;omega
 refine⟨⟨aU,aA,aO,aN,c0,c1,c2,c3,rU,rA,rO,qU,qA,qO⟩,{ blk:=h1,len:=L.len,u:=fun a ha=>u1 _ (nat a ha),u2:=fun a b ha hb=>u2 _ _ (nat a ha) (nat b hb),m:=fun a ha=>m1 _ (nat a ha),m2:=fun a b ha hb=>?_,j:=fun a ha=>j1 _ (nat a ha),j2:=fun a b ha hb=>?_,n:=fun a ha=>?_,capU:=hc.1,capR:=fun a ha=>u3 _ (nat a ha) }⟩
 ·rw [m2 _ _ (nat a ha) (nat b hb),tabI_at _ _ _ _ (nat a ha) (nat b hb)];rfl
 ·rw [j2 _ _ (nat a ha) (nat b hb),tabI_at _ _ _ _ (nat a ha) (nat b hb)];rfl
 ·obtain⟨ad,e,hcell⟩:=ints_cell k3 a ha.1 ha.2
  cases e
  exact hcell
theorem told_y (k : Nat) (A0 : Option Addr) (c0 : Nat) (U : List (List Int)) (A1 : Option Addr) (c1 : Nat) (N : List Int) (w : World)
 (hr0:Kd.C (Kd.slice 3 (Kd.int .i64)) w A0 U.length U) (hc0:U.length≤c0) (hr1:Kd.C (Kd.int .i64) w A1 N.length N) (hc1:N.length≤c1) (hF:ToldFacts k U) (hL:logicB U N=true):
 Calls Tryz.prog 20 #[.agg #[.slice A0 U.length c0,.slice A1 N.length c1]] w fun e w'=> ∃g v,e= .returned (.pointer (some ⟨g,0,none⟩))∧View w' g U N v∧w.heap.size≤g∧Below w.heap.size w w':=by
 refine(told_calls k A0 c0 U A1 c1 N w hr0 hc0 hr1 hc1 hF).mono fun e w' h=>?_
 obtain⟨hb,h|h⟩:=h
 ·obtain⟨_,g,he,hg,ha⟩:=h
  obtain⟨v,hv⟩:=view_of (logicB_iff.1 hL) ha
  exact⟨g,v,he,hv,hg,hb⟩
 ·rw [hL] at h;exact absurd h.1 (by simp)
theorem told_n (k : Nat) (A0 : Option Addr) (c0 : Nat) (U : List (List Int)) (A1 : Option Addr) (c1 : Nat) (N : List Int) (w : World)
 (hr0:Kd.C (Kd.slice 3 (Kd.int .i64)) w A0 U.length U) (hc0:U.length≤c0) (hr1:Kd.C (Kd.int .i64) w A1 N.length N) (hc1:N.length≤c1) (hF:ToldFacts k U) (hL:logicB U N=false):
 Calls Tryz.prog 20 #[.agg #[.slice A0 U.length c0,.slice A1 N.length c1]] w fun e w'=>e= .returned (.pointer none)∧Below w.heap.size w w':=by
 refine(told_calls k A0 c0 U A1 c1 N w hr0 hc0 hr1 hc1 hF).mono fun e w' h=>?_
 obtain⟨hb,h|h⟩:=h
 ·rw [hL] at h;exact absurd h.1 (by simp)
 ·exact⟨h.2,hb⟩
end
theorem lit_C (W : World) (e : TypeId) (xs : List Int) (hm : xs.length ≤ 9223372036854775807) :
 Kd.C (Kd.int .i64) (W.alloc (.cells (nums .i64 xs).toArray e)) (some ⟨W.heap.size,0,none⟩) xs.length xs:=
 (Kd.R_reads' (Kd.R_of_own (ok:=fun _=>True) (own_lit W W.heap.size e .i64 xs (Nat.le_refl _) hm) (fun _ _=>trivial))).2.2
theorem isAnswer_eq (U : List (List Int)) (a : Int) : impl_isAnswer.f U a = some (inR U.length a) := by
 unfold impl_isAnswer.f inR
 by_cases h:a≥0
 ·rw [if_pos h];simp [h]
 ·rw [if_neg h];simp;omega
theorem knows_nil (A : Option Addr) (n c : Nat) (w : World) :
 Calls Tryz.prog 21 #[.pointer none,.slice A n c] w fun e w'=>e= .returned (.bool false)∧Below w.heap.size w w':=by
 go_enter Tryz.func21,Tryz.ntmps21
 go_wp2_with fail
 go_ret
 exact⟨rfl,Below.refl _ _⟩
set_option maxHeartbeats 1000000 in
theorem knows_calls (g : Nat) (U : List (List Int)) (N : List Int) (v : Adr) (w : World) (L : Logic U N) (hV : View w g U N v) (A : Option Addr) (c : Nat) (xs : List Int) (n : Nat) (hn : xs.length = n)
 (hr:Kd.C (Kd.int .i64) w A n xs) (hs:n≤100) (b:Bool) (hb:xs.all (inR U.length)=b):
 Calls Tryz.prog 21 #[.pointer (some ⟨g,0,none⟩),.slice A n c] w fun e w'=>e= .returned (.bool b)∧Below w.heap.size w w':=by
 have hu70:=Tryz.underlying52
 have HV:=zqm hV
 have HR:=zqm hr
 have HL:=zqm L
 have HN:=zqm hn
 have HBB:=zqm hb
 clear hV hr L hn hb
 go_enter Tryz.func21,Tryz.ntmps21
 go_wp2_with fail
 go_loopg [11] (n+1) (fun kq v11 W=> ∃i m:Nat,v11= .int .i64 i∧Aside0 (i+kq=n+1)∧Aside0 (i≤n)∧Aside0 (∀j,j<i→inR U.length (at1 xs j)=true)∧W=w.drewN m)
 case atStart=>exact⟨0,0,rfl,⟨by omega⟩,⟨by omega⟩,⟨fun j hj=>absurd hj (by omega)⟩,rfl⟩
 case round=>
  obtain⟨i,m,rfl,HK,HK2,HS,rfl⟩:=hrel
  cases gk with
  |zero=>exact absurd HK.out (by have:=HK2.out;omega)
  |succ kn=>
  by_cases hlt:i<n
  ·have hlt':decide (i<n)=true:=decide_eq_true hlt
   have HLT:=zqm hlt
   obtain⟨ad,e,hx⟩:=ints_cell HR.out i (by omega) (by omega)
   subst e
   simp only [Int.toNat_natCast] at hx
   have p1:(i<n)=True:=eq_true hlt
   have h0:=HV.out.f0
   have HUC:=zqm (HV.out.rowsU HL.out)
   clear hlt
   cases hi:inR U.length (at1 xs i) with
   |true=>
    have HI:=zqm hi
    have HA:=zqm (show impl_isAnswer.f U (at1 xs i)=some true by rw [isAnswer_eq,hi])
    clear hi
    go_wp2_with (go_at_call 35;(with_reducible refine(impl_isAnswer.calls _ _ U (at1 xs i) true _ ?s1 ?s2 HA.out).mono ?_);(case s1=> exact zq138);(case s2=>exact HV.out.capU);rintro e w' ⟨rfl,⟨nd,rfl⟩⟩)
    go_roundg kn
    case measure=>omega
    case rel=>exact⟨i+1,_,by first|go_num|(rw [wrap_small (by omega) (by have:=HLT.out;omega)];go_num),⟨by have:=HK.out;omega⟩,⟨by have:=HLT.out;omega⟩,⟨fun j hj=>by
     rcases Nat.lt_or_ge j i with h|h
     ·exact HS.out j h
     ·obtain rfl:j=i:=by omega
      exact HI.out⟩,rfl⟩
   |false=>
    have HI:=zqm hi
    have HA:=zqm (show impl_isAnswer.f U (at1 xs i)=some false by rw [isAnswer_eq,hi])
    clear hi
    have hbf:b=false:=by
     rw [← HBB.out,Bool.eq_false_iff]
     intro h
     rw [List.all_eq_true] at h
     have hin:i<xs.length:=by have:=HN.out;have:=HLT.out;omega
     have:=h (xs[i]'hin) (List.getElem_mem _)
     have h2:=HI.out
     rw [show at1 xs i=xs[i]'hin by simp [at1,List.getD_eq_getElem?_getD,List.getElem?_eq_getElem hin],this] at h2
     exact absurd h2 (by simp)
    subst hbf
    go_wp2_with (go_at_call 35;(with_reducible refine(impl_isAnswer.calls _ _ U (at1 xs i) false _ ?s1 ?s2 HA.out).mono ?_);(case s1=> exact zq138);(case s2=>exact HV.out.capU);rintro e w' ⟨rfl,⟨nd,rfl⟩⟩)
    go_ret
    exact⟨rfl,zq139⟩
  ·have hlt':decide (i<n)=false:=decide_eq_false hlt
   obtain rfl:i=n:=by have:=HK2.out;omega
   have hbt:b=true:=by
    rw [← HBB.out,List.all_eq_true]
    intro x hx
    obtain⟨j,hj,rfl⟩:=List.mem_iff_getElem.1 hx
    have:=HS.out j (by have:=HN.out;omega)
    rwa [show at1 xs j=xs[j]'hj by simp [at1,List.getD_eq_getElem?_getD,List.getElem?_eq_getElem hj]] at this
   subst hbt
   clear hlt
   go_wp2_with fail
   go_ret
   exact⟨rfl,zq139⟩
theorem Ev.down {ρ : Type} {g : Nat → Nat → Option ρ} {R : Nat → ρ} (n : Nat) (hend : Ev (fun k => g k n) (R n)) (hstep : ∀ i, i < n → Ev (fun k => g k (i + 1)) (R (i + 1)) → Ev (fun k => g k i) (R i)) : ∀ i, i ≤ n → Ev (fun k => g k i) (R i) := by
 intro i hi
 obtain⟨d,hd⟩: ∃d,n=i+d:=⟨n - i,by omega⟩
 induction d generalizing i with
 |zero=>
  obtain rfl:n=i:=by omega
  exact hend
 |succ d ih=>exact hstep i (by omega) (ih (i+1) (by omega) (by omega))
theorem Ev.eq {α : Type} {g : Nat → Option α} {r r' : α} (h : Ev g r) (e : r = r') : Ev g r' := e ▸ h
def allFrom (n : Nat) (p : Nat → Bool) (i : Nat) : Bool := (List.range' i (n - i)).all p
def fstFrom (n : Nat) (p : Nat → Bool) (i : Nat) : Option Nat := (List.range' i (n - i)).find? p
theorem allFrom_lt {n : Nat} {p : Nat → Bool} {i : Nat} (h : i < n) : allFrom n p i = (p i && allFrom n p (i + 1)) := by
 unfold allFrom
 obtain⟨d,rfl⟩: ∃d,n=i+(d+1):=⟨n - i - 1,by omega⟩
 rw [show i+(d+1) - i=d+1 by omega,show i+(d+1) - (i+1)=d by omega,List.range'_succ,List.all_cons]
theorem allFrom_ge {n : Nat} {p : Nat → Bool} {i : Nat} (h : n ≤ i) : allFrom n p i = true := by
 unfold allFrom; rw [show n - i = 0 by omega]; rfl
theorem allFrom_zero (n : Nat) (p : Nat → Bool) : allFrom n p 0 = allN n p := by
 unfold allFrom allN; rw [Nat.sub_zero, List.range_eq_range']
theorem fstFrom_lt {n : Nat} {p : Nat → Bool} {i : Nat} (h : i < n) : fstFrom n p i = if p i = true then some i else fstFrom n p (i + 1) := by
 unfold fstFrom
 obtain⟨d,rfl⟩: ∃d,n=i+(d+1):=⟨n - i - 1,by omega⟩
 rw [show i+(d+1) - i=d+1 by omega,show i+(d+1) - (i+1)=d by omega,List.range'_succ,List.find?_cons]
 cases p i <;> simp
theorem fstFrom_ge {n : Nat} {p : Nat → Bool} {i : Nat} (h : n ≤ i) : fstFrom n p i = none := by
 unfold fstFrom; rw [show n - i = 0 by omega]; rfl
theorem fstFrom_zero (n : Nat) (p : Nat → Bool) : fstFrom n p 0 = findN n p := by
 unfold fstFrom findN; rw [Nat.sub_zero, List.range_eq_range']
theorem wrap_nat {i : Nat} (h : i < 4611686018427387904) : wrap64 ((i : Int) + 1) = ((i + 1 : Nat) : Int) := by unfold wrap64; omega
theorem Ev.succ {α : Type} {g : Nat → Option α} {r : α} (h : Ev (fun k => g (k + 1)) r) : Ev g r := Ev.step (fun _ => rfl) h
theorem Ev.ite_pos {α : Type} {c : Prop} [Decidable c] {a b : Nat → Option α} {r : α} (h : c) (k : Ev a r) : Ev (fun n => if c then a n else b n) r := by simpa only [if_pos h] using k
theorem Ev.ite_neg {α : Type} {c : Prop} [Decidable c] {a b : Nat → Option α} {r : α} (h : ¬ c) (k : Ev b r) : Ev (fun n => if c then a n else b n) r := by simpa only [if_neg h] using k
theorem Ev.ip {α : Type} {c : Prop} [Decidable c] {a b : Nat → Option α} {r : α} (k : Ev a r) (h : c := by first | assumption | (focus omega) | (simp <;> fail)) : Ev (fun n => if c then a n else b n) r := Ev.ite_pos h k
theorem Ev.iq {α : Type} {c : Prop} [Decidable c] {a b : Nat → Option α} {r : α} (k : Ev b r) (h : ¬ c := by first | assumption | (focus omega) | (simp <;> fail)) : Ev (fun n => if c then a n else b n) r := Ev.ite_neg h k
theorem Ev.pure {α : Type} {o : Option α} {r : α} (h : o = some r) : Ev (fun _ => o) r := h ▸ Ev.now r
theorem Ev.pbind {α β : Type} {g : Option α} {f : Nat → α → Option β} {a : α} {r : β} (h : g = some a) (k : Ev (fun n => f n a) r) : Ev (fun n => g.bind (f n)) r := Ev.bind (g := fun _ => g) (Ev.pure h) k
theorem Ev.all {ρ : Type} {g : Nat → Int → Option ρ} {n : Nat} (p : Nat → Bool) {go stop : ρ} (hn : n < 4611686018427387904) (hend : (∀ i, i < n → p i = true) → Ev (fun k => g k (n : Int)) go)
 (hstep: ∀i,i<n→(∀j,j<i→p j=true)→ ∀R,(p i=true→Ev (fun k=>g k (wrap64 ((i:Int)+1))) R)→Ev (fun k=>g k (i:Int)) (if p i=true then R else stop)):
 Ev (fun k=>g k 0) (if allN n p=true then go else stop):=by
 have key: ∀d i,i+d=n→(∀j,j<i→p j=true)→Ev (fun k=>g k (i:Int)) (if allFrom n p i=true then go else stop):=by
  intro d
  induction d with
  |zero=>
   intro i hi hj
   obtain rfl:i=n:=by omega
   rw [allFrom_ge (Nat.le_refl _),if_pos rfl]
   exact hend hj
  |succ d ih=>
   intro i hi hj
   rw [allFrom_lt (by omega)]
   refine Ev.eq (hstep i (by omega) hj (if allFrom n p (i+1)=true then go else stop) fun hp=>?_) ?_
   ·rw [wrap_nat (by omega)]
    exact ih (i+1) (by omega) fun j hj'=>by
     rcases Nat.lt_or_ge j i with h|h
     ·exact hj j h
     ·obtain rfl:j=i:=by omega
      exact hp
   ·cases p i <;> simp
 have:=key n 0 (by omega) fun _ h=>absurd h (Nat.not_lt_zero _)
 rw [allFrom_zero] at this
 exact this
theorem Ev.find {ρ : Type} {g : Nat → Int → Option ρ} {n : Nat} (p : Nat → Bool) {none' : ρ} {some' : Nat → ρ} (hn : n < 4611686018427387904) (hend : (∀ i, i < n → p i = false) → Ev (fun k => g k (n : Int)) none')
 (hstep: ∀i,i<n→(∀j,j<i→p j=false)→ ∀R,(p i=false→Ev (fun k=>g k (wrap64 ((i:Int)+1))) R)→Ev (fun k=>g k (i:Int)) (if p i=true then some' i else R)):
 Ev (fun k=>g k 0) (match findN n p with|some i=>some' i|none=>none'):=by
 have key: ∀d i,i+d=n→(∀j,j<i→p j=false)→Ev (fun k=>g k (i:Int)) (match fstFrom n p i with|some i=>some' i|none=>none'):=by
  intro d
  induction d with
  |zero=>
   intro i hi hj
   obtain rfl:i=n:=by omega
   rw [fstFrom_ge (Nat.le_refl _)]
   exact hend hj
  |succ d ih=>
   intro i hi hj
   rw [fstFrom_lt (by omega)]
   refine Ev.eq (hstep i (by omega) hj (match fstFrom n p (i+1) with|some i=>some' i|none=>none') fun hp=>?_) ?_
   ·rw [wrap_nat (by omega)]
    exact ih (i+1) (by omega) fun j hj'=>by
     rcases Nat.lt_or_ge j i with h|h
     ·exact hj j h
     ·obtain rfl:j=i:=by omega
      exact hp
   ·cases p i <;> simp
 have:=key n 0 (by omega) fun _ h=>absurd h (Nat.not_lt_zero _)
 rw [fstFrom_zero] at this
 exact this
theorem Ev.loop {σ ρ : Type} {g : Nat → σ → Int → Option ρ} (n : Nat) (I : Nat → σ → Prop) {R : ρ} (hn : n < 4611686018427387904) (hend : ∀ s, I n s → Ev (fun k => g k s (n : Int)) R)
 (hstep: ∀i s,i<n→I i s→ ∃s',I (i+1) s'∧(Ev (fun k=>g k s' (wrap64 ((i:Int)+1))) R→Ev (fun k=>g k s (i:Int)) R)): ∀s,I 0 s→Ev (fun k=>g k s 0) R:=by
 have key: ∀d i,i+d=n→ ∀s,I i s→Ev (fun k=>g k s (i:Int)) R:=by
  intro d
  induction d with
  |zero=>
   intro i hi s hs
   obtain rfl:i=n:=by omega
   exact hend s hs
  |succ d ih=>
   intro i hi s hs
   obtain⟨s',h1,h2⟩:=hstep i s (by omega) hs
   refine h2 ?_
   rw [wrap_nat (by omega)]
   exact ih (i+1) (by omega) s' h1
 exact fun s hs=>key n 0 (by omega) s hs
theorem Ev.all1 {ρ : Type} {g : Nat → Nat → Option ρ} {R : Nat → ρ} (n : Nat) (h : ∀ a, a < n → Ev (fun k => g k a) (R a)) : ∃ K, ∀ a, a < n → ∀ k, K ≤ k → g k a = some (R a) := by
 induction n with
 |zero=>exact⟨0,fun a ha=>absurd ha (Nat.not_lt_zero _)⟩
 |succ n ih=>
  obtain⟨K,hK⟩:=ih fun a ha=>h a (by omega)
  obtain⟨K',hK'⟩:=h n (by omega)
  refine⟨K+K',fun a ha k hk=>?_⟩
  rcases Nat.lt_or_ge a n with hlt|hge
  ·exact hK a hlt k (by omega)
  ·obtain rfl:a=n:=by omega
   exact hK' k (by omega)
theorem Ev.all2 {ρ : Type} {g : Nat → Nat → Nat → Option ρ} {R : Nat → Nat → ρ} (n : Nat) (h : ∀ a b, a < n → b < n → Ev (fun k => g k a b) (R a b)) : ∃ K, ∀ a b, a < n → b < n → ∀ k, K ≤ k → g k a b = some (R a b) := by
 have h1: ∀a,a<n→ ∃K,∀b,b<n→ ∀k,K≤k→g k a b=some (R a b):=fun a ha=>Ev.all1 n fun b hb=>h a b ha hb
 have h2: ∀m,m≤n→ ∃K,∀a b,a<m→b<n→ ∀k,K≤k→g k a b=some (R a b):=by
  intro m
  induction m with
  |zero=>exact fun _=>⟨0,fun a b ha=>absurd ha (Nat.not_lt_zero _)⟩
  |succ m ih=>
   intro hm
   obtain⟨K,hK⟩:=ih (by omega)
   obtain⟨K',hK'⟩:=h1 m (by omega)
   refine⟨K+K',fun a b ha hb k hk=>?_⟩
   rcases Nat.lt_or_ge a m with hlt|hge
   ·exact hK a b hlt hb k (by omega)
   ·obtain rfl:a=m:=by omega
    exact hK' b hb k (by omega)
 exact h2 n (Nat.le_refl _)
theorem rd_nat (N : List Int) (i : Nat) : rd N (i : Int) = at1 N i := by simp [rd, at1]
theorem rdL_nat (U : List (List Int)) (i : Nat) : rd_L3 U (i : Int) = U.getD i [] := by simp [rd_L3]
theorem rd_row (U : List (List Int)) (i j : Nat) : at1 (U.getD i []) j = at2 U i j := rfl
section
section
variable {U : List (List Int)} (O : Order U)
include O
theorem meet_l1 {a b c : Nat} (ha : a < U.length) (hb : b < U.length) (hc : c < U.length) (R : Int) :
 ∀i,i≤U.length→ ∀fl:Bool,((fl && allFrom U.length (fun d=>!(leB U d a && leB U d b)||leB U d c) i)=false→Ev (fun k=>impl_meet.l0 k U a b U.length ((c+1:Nat):Int)) R)→
  Ev (fun k=>impl_meet.l1 k U a b c fl U.length c U.length i) (if(fl && allFrom U.length (fun d=>!(leB U d a && leB U d b)||leB U d c) i)=true then(c:Int) else R):=by
 have hs:=O.small
 refine fun i hi=>?_
 obtain⟨d,hd⟩: ∃d,U.length=i+d:=⟨U.length - i,by omega⟩
 induction d generalizing i with
 |zero=>
  intro fl hR
  rw [allFrom_ge (by omega),Bool.and_true] at hR ⊢
  cases fl with
  |true=>
   refine Ev.step (f:=fun _=>some (c:Int)) (fun k=>?_) (Ev.now _)
   simp only [impl_meet.l1]
   rw [if_neg (by omega)];rfl
  |false=>
   refine Ev.step (f:=fun k=>impl_meet.l0 k U a b U.length ((c+1:Nat):Int)) (fun k=>?_) (by simpa using hR rfl)
   simp only [impl_meet.l1]
   rw [if_neg (by omega),if_neg (by simp),wrap_nat (by omega)]
 |succ d ih=>
  intro fl hR
  rw [allFrom_lt (by omega)] at hR ⊢
  have hrow:((U.getD i []).length:Int)=U.length:=by rw [O.row i (by omega)]
  have va:=O.val (a:=i) (b:=a) (by omega) ha
  have vb:=O.val (a:=i) (b:=b) (by omega) hb
  have vc:=O.val (a:=i) (b:=c) (by omega) hc
  refine Ev.step (f:=fun k=>impl_meet.l1 k U a b c (fl && (!(leB U i a && leB U i b)||leB U i c)) U.length c U.length ((i+1:Nat):Int)) (fun k=>?_) ?_
  ·simp only [impl_meet.l1,rdL_nat,rd_nat,rd_row,hrow,va,vb,vc,wrap_nat (show i<4611686018427387904 by omega)]
   rw [if_pos (by omega)]
   cases fl
   ·rfl
   ·rw [if_pos rfl,if_pos (by omega),if_pos (by omega),if_pos (by omega),if_pos (by omega)]
    cases leB U i a
    ·rfl
    ·rw [if_neg (by simp),if_pos (by omega),if_pos (by omega)]
     cases leB U i b
     ·rfl
     ·rw [if_neg (by simp),if_pos (by omega),if_pos (by omega)]
      cases leB U i c <;> rfl
  ·refine Ev.eq (ih (i+1) (by omega) (by omega) (fl && (!(leB U i a && leB U i b)||leB U i c)) ?_) ?_
   ·intro h;exact hR (by rw [← Bool.and_assoc];exact h)
   ·rw [Bool.and_assoc]
theorem impl_meet.ev {a b : Nat} (ha : a < U.length) (hb : b < U.length) : Ev (fun k => impl_meet.f k U a b) (mI U a b) := by
 have hs:=O.small
 have key: ∀i,i≤U.length→Ev (fun k=>impl_meet.l0 k U a b U.length (i:Int)) (optI (fstFrom U.length (meetP U a b) i)):=by
  refine Ev.down U.length ?_ fun i hi ih=>?_
  ·rw [fstFrom_ge (Nat.le_refl _)]
   refine Ev.step (f:=fun _=>some (-1)) (fun k=>?_) (Ev.now _)
   simp only [impl_meet.l0]
   rw [if_neg (by omega)]
  ·have hrow:((U.getD i []).length:Int)=U.length:=by rw [O.row i hi]
   have va:=O.val (a:=i) (b:=a) hi ha
   have vb:=O.val (a:=i) (b:=b) hi hb
   rw [fstFrom_lt hi]
   refine Ev.step (f:=fun k=>impl_meet.j1 k U a b i U.length i (!(leB U i a && leB U i b))) (fun k=>?_) ?_
   ·simp only [impl_meet.l0,rdL_nat,rd_nat,rd_row,hrow,va,vb]
    rw [if_pos (by omega),if_pos (by omega),if_pos (by omega),if_pos (by omega),if_pos (by omega)]
    cases leB U i a
    ·rfl
    ·rw [if_neg (by simp),if_pos (by omega),if_pos (by omega)]
     cases leB U i b <;> rfl
   ·cases hab:leB U i a && leB U i b with
    |false=>
     refine Ev.step (f:=fun k=>impl_meet.l0 k U a b U.length ((i+1:Nat):Int)) (fun k=>?_) (Ev.eq ih ?_)
     ·simp only [impl_meet.j1,Bool.not_false,if_true]
      rw [wrap_nat (by omega)]
     ·have:meetP U a b i=false:=by unfold meetP;rw [← Bool.and_assoc,hab];rfl
      rw [this];rfl
    |true=>
     refine Ev.step (f:=fun k=>impl_meet.l1 k U a b i true U.length i U.length ((0:Nat):Int)) (fun k=>?_) (Ev.eq (meet_l1 O ha hb hi _ 0 (by omega) true (fun _=>ih)) ?_)
     ·simp only [impl_meet.j1,Bool.not_true];rfl
     ·have:meetP U a b i=allN U.length (fun d=>!(leB U d a && leB U d b)||leB U d i):=by unfold meetP;rw [← Bool.and_assoc,hab];rfl
      rw [this,Bool.true_and,allFrom_zero]
      split <;> rfl
 have:=key 0 (by omega)
 rw [fstFrom_zero] at this
 exact this
end
end
def rowOk (U : List (List Int)) (i : Nat) : Bool :=
 ((U.getD i []).length==U.length) && (leB U i i && allN U.length fun j=>(at2 U i j==0||at2 U i j==1) && ((U.getD j []).length==U.length && !(leB U i j && (!(i==j) && leB U j i))))
def transOk (U : List (List Int)) : Bool := allN U.length fun a => allN U.length fun b => allN U.length fun c => !(leB U a b && leB U b c) || leB U a c
theorem orderB_eq (U : List (List Int)) : orderB U = (decide (1 ≤ U.length) && (decide (U.length ≤ 12) && (allN U.length (rowOk U) && transOk U))) := by
 rw [Bool.eq_iff_iff,orderB_iff]
 unfold rowOk transOk
 simp only [Bool.and_eq_true,decide_eq_true_eq,allN_iff,Bool.or_eq_true,beq_iff_eq,Bool.not_eq_true',Bool.and_eq_false_iff]
 constructor
 ·intro O
  refine⟨O.pos,O.small,fun i hi=>⟨O.row i hi,O.refl i hi,fun j hj=>⟨O.bit i j hi hj,O.row j hj,?_⟩⟩,fun a ha b hb c hc=>?_⟩
  ·by_cases e:i=j
   ·right;left;simp [e]
   ·cases k1:leB U i j <;> cases k2:leB U j i <;> simp
    exact O.anti i j hi hj k1 k2
  ·cases k1:leB U a b <;> cases k2:leB U b c <;> simp
   exact O.trans a b c ha hb hc k1 k2
 ·rintro ⟨h1,h2,h3,h4⟩
  refine⟨h1,h2,fun a ha=>(h3 a ha).1,fun a b ha hb=>((h3 a ha).2.2 b hb).1,fun a ha=>(h3 a ha).2.1,fun a b ha hb k1 k2=>?_,fun a b c ha hb hc k1 k2=>?_⟩
  ·rcases ((h3 a ha).2.2 b hb).2.2 with e|e|e
   ·rw [k1] at e;exact absurd e (by simp)
   ·simpa using e
   ·rw [k2] at e;exact absurd e (by simp)
  ·rcases h4 a ha b hb c hc with (e|e)|e
   ·rw [k1] at e;exact absurd e (by simp)
   ·rw [k2] at e;exact absurd e (by simp)
   ·exact e
theorem impl_OrderOk.ev (U : List (List Int)) : Ev (fun k => impl_OrderOk.f k U) (orderB U) := by
 rw [orderB_eq]
 by_cases h1:1≤U.length
 ·by_cases h2:U.length≤12
  ·simp only [h1,h2,decide_true,Bool.true_and]
   unfold impl_OrderOk.f
   repeat(with_reducible first|refine Ev.ip ?_|refine Ev.iq ?_)
   rw [show decide ((U.length:Int)>12)=false from decide_eq_false (by omega)]
   refine Ev.succ ?_
   simp only [impl_OrderOk.j0]
   repeat(with_reducible first|refine Ev.ip ?_|refine Ev.iq ?_)
   refine Ev.eq (Ev.all (n:=U.length) (g:=fun k i=>impl_OrderOk.l0 k U U.length U U.length i) (rowOk U) (go:=transOk U) (stop:=false) (by omega) (fun hr=>?_) fun i hi hj R hR=>?_) (by cases allN U.length (rowOk U) <;> rfl)
   ·refine Ev.succ ?_
    simp only [impl_OrderOk.l0]
    repeat(with_reducible first|refine Ev.ip ?_|refine Ev.iq ?_)
    refine Ev.eq (Ev.all (n:=U.length) (g:=fun k i=>impl_OrderOk.l2 k U U.length U.length i) (fun a=>allN U.length fun b=>allN U.length fun c=>!(leB U a b && leB U b c)||leB U a c) (go:=true) (stop:=false) (by omega) (fun _=>?_) fun a ha _ R hR=>?_) (by unfold transOk;cases allN U.length _ <;> rfl)
    ·refine Ev.succ ?_
     simp only [impl_OrderOk.l2]
     repeat(with_reducible first|refine Ev.ip ?_|refine Ev.iq ?_)
     exact Ev.now _
    ·refine Ev.succ ?_
     simp only [impl_OrderOk.l2]
     repeat(with_reducible first|refine Ev.ip ?_|refine Ev.iq ?_)
     refine Ev.all (n:=U.length) (g:=fun k i=>impl_OrderOk.l3 k U U.length a U.length a U.length i) _ (by omega) (fun h=>?_) fun b hb _ R2 hR2=>?_
     ·refine Ev.succ ?_
      simp only [impl_OrderOk.l3]
      repeat(with_reducible first|refine Ev.ip ?_|refine Ev.iq ?_)
      exact hR (allN_iff.2 h)
     ·refine Ev.succ ?_
      simp only [impl_OrderOk.l3]
      repeat(with_reducible first|refine Ev.ip ?_|refine Ev.iq ?_)
      refine Ev.all (n:=U.length) (g:=fun k i=>impl_OrderOk.l4 k U U.length a b U.length a U.length b U.length i) _ (by omega) (fun h=>?_) fun c hc _ R3 hR3=>?_
      ·refine Ev.succ ?_
       simp only [impl_OrderOk.l4]
       repeat(with_reducible first|refine Ev.ip ?_|refine Ev.iq ?_)
       exact hR2 (allN_iff.2 h)
      ·refine Ev.succ ?_
       have ra:((U.getD a []).length:Int)=U.length:=by have:=hr a ha;unfold rowOk at this;simp only [Bool.and_eq_true,beq_iff_eq] at this;omega
       have rb:((U.getD b []).length:Int)=U.length:=by have:=hr b hb;unfold rowOk at this;simp only [Bool.and_eq_true,beq_iff_eq] at this;omega
       simp only [impl_OrderOk.l4,rdL_nat,rd_nat,rd_row,ra,rb]
       repeat(with_reducible first|refine Ev.ip ?_|refine Ev.iq ?_)
       by_cases e1:at2 U a b=1
       ·have f1:leB U a b=true:=by simp [leB,e1]
        by_cases e2:at2 U b c=1
        ·have f2:leB U b c=true:=by simp [leB,e2]
         by_cases e3:at2 U a c=1
         ·have f3:leB U a c=true:=by simp [leB,e3]
          repeat(with_reducible first|refine Ev.ip ?_|refine Ev.iq ?_)
          refine Ev.eq (hR3 (by simp [f3])) (by simp [f3])
         ·have f3:leB U a c=false:=by simp [leB,e3]
          repeat(with_reducible first|refine Ev.ip ?_|refine Ev.iq ?_)
          refine Ev.eq (Ev.now _) (by simp [f1,f2,f3])
        ·have f2:leB U b c=false:=by simp [leB,e2]
         repeat(with_reducible first|refine Ev.ip ?_|refine Ev.iq ?_)
         refine Ev.eq (hR3 (by simp [f2])) (by simp [f2])
       ·have f1:leB U a b=false:=by simp [leB,e1]
        repeat(with_reducible first|refine Ev.ip ?_|refine Ev.iq ?_)
        refine Ev.eq (hR3 (by simp [f1])) (by simp [f1])
   ·refine Ev.succ ?_
    simp only [impl_OrderOk.l0,rdL_nat,rd_nat,rd_row]
    repeat(with_reducible first|refine Ev.ip ?_|refine Ev.iq ?_)
    by_cases e1:(U.getD i []).length=U.length
    ·repeat(with_reducible first|refine Ev.ip ?_|refine Ev.iq ?_)
     by_cases e2:at2 U i i=1
     ·have f2:leB U i i=true:=by simp [leB,e2]
      rw [show (at2 U i i !=1)=false by simp [e2]]
      refine Ev.succ ?_
      simp only [impl_OrderOk.j2,rdL_nat,rd_nat,rd_row]
      repeat(with_reducible first|refine Ev.ip ?_|refine Ev.iq ?_)
      rw [e1]
      refine Ev.eq (Ev.all (n:=U.length) (g:=fun k j=>impl_OrderOk.l1 k U U.length i U U.length i (U.getD i []) U.length j) (fun j=>(at2 U i j==0||at2 U i j==1) && ((U.getD j []).length==U.length && !(leB U i j && (!(i==j) && leB U j i)))) (go:=R) (stop:=false) (by omega) (fun h=>?_) fun j hj _ R2 hR2=>?_) (by unfold rowOk;simp [-List.getD_eq_getElem?_getD,e1,f2])
      ·refine Ev.succ ?_
       simp only [impl_OrderOk.l1]
       repeat(with_reducible first|refine Ev.ip ?_|refine Ev.iq ?_)
       exact hR (by unfold rowOk;simp only [e1,f2,BEq.rfl,Bool.true_and];exact allN_iff.2 h)
      ·refine Ev.succ ?_
       simp only [impl_OrderOk.l1,rd_nat,rd_row]
       repeat(with_reducible first|refine Ev.ip ?_|refine Ev.iq ?_)
       have j4: ∀R3:Bool,(((U.getD j []).length=U.length→(leB U i j=true→i≠j→leB U j i=false)→Ev (fun k=>impl_OrderOk.l1 k U U.length i U U.length i (U.getD i []) U.length (wrap64 ((j:Int)+1))) R3))→
        Ev (fun k=>impl_OrderOk.j4 k U U.length i j (at2 U i j) U U.length i (U.getD i []) U.length j false) (if((U.getD j []).length==U.length && !(leB U i j && (!(i==j) && leB U j i)))=true then R3 else false):=by
        intro R3 hR3
        refine Ev.succ ?_
        simp only [impl_OrderOk.j4,rdL_nat,rd_nat,rd_row]
        repeat(with_reducible first|refine Ev.ip ?_|refine Ev.iq ?_)
        by_cases l1:(U.getD j []).length=U.length
        ·repeat(with_reducible first|refine Ev.ip ?_|refine Ev.iq ?_)
         rw [l1]
         by_cases x1:at2 U i j=1
         ·have y1:leB U i j=true:=by simp [leB,x1]
          repeat(with_reducible first|refine Ev.ip ?_|refine Ev.iq ?_)
          by_cases x2:i=j
          ·repeat(with_reducible first|refine Ev.ip ?_|refine Ev.iq ?_)
           exact Ev.eq (hR3 l1 (fun _ h=>absurd x2 h)) (by simp [x2])
          ·repeat(with_reducible first|refine Ev.ip ?_|refine Ev.iq ?_)
           by_cases x3:at2 U j i=1
           ·have y3:leB U j i=true:=by simp [leB,x3]
            repeat(with_reducible first|refine Ev.ip ?_|refine Ev.iq ?_)
            exact Ev.eq (Ev.now _) (by simp [x2,y1,y3])
           ·have y3:leB U j i=false:=by simp [leB,x3]
            repeat(with_reducible first|refine Ev.ip ?_|refine Ev.iq ?_)
            exact Ev.eq (hR3 l1 (fun _ _=>y3)) (by simp [y3])
         ·have y1:leB U i j=false:=by simp [leB,x1]
          repeat(with_reducible first|refine Ev.ip ?_|refine Ev.iq ?_)
          exact Ev.eq (hR3 l1 (fun h=>by rw [y1] at h;exact absurd h (by simp))) (by simp [y1])
        ·repeat(with_reducible first|refine Ev.ip ?_|refine Ev.iq ?_)
         exact Ev.eq (Ev.now _) (by simp [-List.getD_eq_getElem?_getD,l1])
       have hgo:at2 U i j=0∨at2 U i j=1→Ev (fun k=>impl_OrderOk.j4 k U U.length i j (at2 U i j) U U.length i (U.getD i []) U.length j false) (if((at2 U i j==0||at2 U i j==1) && ((U.getD j []).length==U.length && !(leB U i j && (!(i==j) && leB U j i))))=true then R2 else false):=by
        intro hb
        have hb1:(at2 U i j==0||at2 U i j==1)=true:=by rcases hb with h|h <;> simp [h]
        rw [hb1,Bool.true_and]
        refine j4 R2 fun l1 h=>hR2 ?_
        rw [hb1,Bool.true_and]
        simp only [l1,BEq.rfl,Bool.true_and,Bool.not_eq_true']
        cases y1:leB U i j
        ·rfl
        ·by_cases x2:i=j
         ·simp [x2]
         ·simp [h y1 x2]
       by_cases x0:at2 U i j=0
       ·repeat(with_reducible first|refine Ev.ip ?_|refine Ev.iq ?_)
        exact hgo (.inl x0)
       ·repeat(with_reducible first|refine Ev.ip ?_|refine Ev.iq ?_)
        by_cases x1:at2 U i j=1
        ·rw [show (at2 U i j !=1)=false by simp [x1]]
         exact hgo (.inr x1)
        ·rw [show (at2 U i j !=1)=true by simp [x1]]
         refine Ev.succ ?_
         simp only [impl_OrderOk.j4]
         repeat(with_reducible first|refine Ev.ip ?_|refine Ev.iq ?_)
         exact Ev.eq (Ev.now _) (by simp [x0,x1])
     ·have f2:leB U i i=false:=by simp [leB,e2]
      rw [show (at2 U i i !=1)=true by simp [e2]]
      refine Ev.succ ?_
      simp only [impl_OrderOk.j2]
      repeat(with_reducible first|refine Ev.ip ?_|refine Ev.iq ?_)
      exact Ev.eq (Ev.now _) (by unfold rowOk;simp [f2])
    ·repeat(with_reducible first|refine Ev.ip ?_|refine Ev.iq ?_)
     refine Ev.succ ?_
     simp only [impl_OrderOk.j2]
     repeat(with_reducible first|refine Ev.ip ?_|refine Ev.iq ?_)
     exact Ev.eq (Ev.now _) (by unfold rowOk;simp [-List.getD_eq_getElem?_getD,e1])
  ·simp only [h1,h2,decide_true,decide_false,Bool.true_and,Bool.false_and]
   unfold impl_OrderOk.f
   repeat(with_reducible first|refine Ev.ip ?_|refine Ev.iq ?_)
   rw [show decide ((U.length:Int)>12)=true from decide_eq_true (by omega)]
   refine Ev.succ ?_
   simp only [impl_OrderOk.j0]
   repeat(with_reducible first|refine Ev.ip ?_|refine Ev.iq ?_)
   exact Ev.now _
 ·simp only [h1,decide_false,Bool.false_and]
  unfold impl_OrderOk.f
  repeat(with_reducible first|refine Ev.ip ?_|refine Ev.iq ?_)
  refine Ev.succ ?_
  simp only [impl_OrderOk.j0]
  repeat(with_reducible first|refine Ev.ip ?_|refine Ev.iq ?_)
  exact Ev.now _
theorem turnL_len (U : List (List Int)) : (turnL U).length = U.length := by simp [turnL]
theorem turnL_at (U : List (List Int)) {a b : Nat} (ha : a < U.length) (hb : b < U.length) : at2 (turnL U) a b = at2 U b a := by simp [at2, turnL, ha, hb]
theorem turnL_le (U : List (List Int)) {a b : Nat} (ha : a < U.length) (hb : b < U.length) : leB (turnL U) a b = leB U b a := by unfold leB; rw [turnL_at U ha hb]
theorem _root_.Oml.Order.turn {U : List (List Int)} (O : Order U) : Order (turnL U) where
 pos:=by rw [turnL_len];exact O.pos
 small:=by rw [turnL_len];exact O.small
 row a ha:=by rw [turnL_len] at*;simp [turnL,ha]
 bit a b ha hb:=by rw [turnL_len] at*;rw [turnL_at U ha hb];exact O.bit b a hb ha
 refl a ha:=by rw [turnL_len] at*;rw [turnL_le U ha ha];exact O.refl a ha
 anti a b ha hb h k:=by rw [turnL_len] at*;rw [turnL_le U ha hb] at h;rw [turnL_le U hb ha] at k;exact O.anti a b ha hb k h
 trans a b c ha hb hc h k:=by rw [turnL_len] at*;rw [turnL_le U ha hb] at h;rw [turnL_le U hb hc] at k;rw [turnL_le U ha hc];exact O.trans c b a hc hb ha k h
theorem allN_congr {n : Nat} {p q : Nat → Bool} (h : ∀ i, i < n → p i = q i) : allN n p = allN n q := by
 rw [Bool.eq_iff_iff,allN_iff,allN_iff]
 exact⟨fun k i hi=>h i hi ▸ k i hi,fun k i hi=>(h i hi).symm ▸ k i hi⟩
theorem findN_congr {n : Nat} {p q : Nat → Bool} (h : ∀ i, i < n → p i = q i) : findN n p = findN n q := by
 cases e:findN n p with
 |some i=>exact(findN_of (findN_some e).1 (by rw [← h i (findN_some e).1];exact(findN_some e).2) fun j hj=>by rw [← h j (by have:=(findN_some e).1;omega)];exact findN_first e j hj).symm
 |none=>exact(findN_none.2 fun i hi=>by rw [← h i hi];exact findN_none.1 e i hi).symm
theorem meet_turn (U : List (List Int)) {a b : Nat} (ha : a < U.length) (hb : b < U.length) : mI (turnL U) a b = jI U a b := by
 unfold mI jI meetO joinO
 rw [turnL_len]
 congr 1
 refine findN_congr fun c hc=>?_
 unfold meetP joinP
 rw [turnL_le U hc ha,turnL_le U hc hb,turnL_len]
 congr 2
 refine allN_congr fun d hd=>?_
 rw [turnL_le U hd ha,turnL_le U hd hb,turnL_le U hd hc]
theorem impl_meet.ev_turn {U : List (List Int)} (O : Order U) {a b : Nat} (ha : a < U.length) (hb : b < U.length) : Ev (fun k => impl_meet.f k (turnL U) a b) (jI U a b) := by
 rw [← meet_turn U ha hb]
 exact impl_meet.ev O.turn (by rw [turnL_len];exact ha) (by rw [turnL_len];exact hb)
theorem getD_set {α : Type} (l : List α) (i j : Nat) (x d : α) (hi : i < l.length) : (l.set i x).getD j d = if j = i then x else l.getD j d := by
 by_cases e:j=i
 ·subst e;simp [hi]
 ·simp [List.getElem?_set,e,show¬(i=j) by omega]
theorem impl_turned.ev {U : List (List Int)} (O : Order U) : Ev (fun k => impl_turned.f k U) (turnL U) := by
 have hs:=O.small
 unfold impl_turned.f
 repeat(with_reducible first|refine Ev.ip ?_|refine Ev.iq ?_)
 rw [Int.toNat_natCast]
 repeat(with_reducible first|refine Ev.ip ?_|refine Ev.iq ?_)
 refine Ev.loop (g:=fun k s i=>impl_turned.l0 k U s U.length i) U.length (fun i s=>s.length=U.length∧ ∀a,a<i→s.getD a []=(List.range U.length).map fun b=>at2 U b a) (by omega) (fun s h=>?_) (fun i s hi h=>?_) _ ⟨by simp,fun a h=>absurd h (Nat.not_lt_zero _)⟩
 ·refine Ev.succ ?_
  simp only [impl_turned.l0]
  repeat(with_reducible first|refine Ev.ip ?_|refine Ev.iq ?_)
  refine Ev.eq (Ev.now s) (List.ext_getElem (by rw [h.1,turnL_len]) fun a h1 h2=>?_)
  have:=h.2 a (by omega)
  simpa [turnL,h1] using this
 ·obtain⟨h1,h2⟩:=h
  refine⟨s.set i ((List.range U.length).map fun b=>at2 U b i),⟨by simp [h1],fun a ha=>?_⟩,fun K=>Ev.succ ?_⟩
  ·rw [getD_set _ _ _ _ _ (by omega)]
   by_cases e:a=i
   ·rw [if_pos e,e]
   ·rw [if_neg e];exact h2 a (by omega)
  ·simp only [impl_turned.l0,Int.toNat_natCast]
   repeat(with_reducible first|refine Ev.ip ?_|refine Ev.iq ?_)
   refine Ev.loop (g:=fun k s j=>impl_turned.l1 k U s i U.length i U.length j) U.length (fun j t=>t.length=U.length∧(t.getD i []).length=U.length∧t.set i []=s.set i []∧ ∀b,b<j→at1 (t.getD i []) b=at2 U b i) (by omega) (fun t h=>?_) (fun j t hj h=>?_) _ ⟨by simp [h1],by rw [getD_set _ _ _ _ _ (by omega)];simp,by simp,fun b h=>absurd h (Nat.not_lt_zero _)⟩
   ·refine Ev.succ ?_
    simp only [impl_turned.l1]
    repeat(with_reducible first|refine Ev.ip ?_|refine Ev.iq ?_)
    have e:t=s.set i ((List.range U.length).map fun b=>at2 U b i):=by
     obtain⟨t1,t2,t3,t4⟩:=h
     have er:t.getD i []=(List.range U.length).map fun b=>at2 U b i:=by
      refine List.ext_getElem (by rw [t2];simp) fun b k1 k2=>?_
      have:=t4 b (by omega)
      simp only [at1] at this
      rw [List.getD_eq_getElem?_getD,List.getElem?_eq_getElem k1] at this
      simpa using this
     refine List.ext_getElem (by simp [t1,h1]) fun a k1 k2=>?_
     by_cases ea:a=i
     ·subst ea
      have:t.getD a []=t[a]:=by simp [k1]
      rw [← this,er];simp
     ·have:=congrArg (fun l=>l.getD a []) t3
      rw [getD_set _ _ _ _ _ (by omega),getD_set _ _ _ _ _ (by omega),if_neg ea,if_neg ea] at this
      have k3:a<s.length:=by omega
      simpa [k1,k3,List.getElem_set,show¬(i=a) by omega] using this
    rw [e]
    exact K
   ·obtain⟨t1,t2,t3,t4⟩:=h
    have hrow:=O.row j hj
    refine⟨t.set i ((t.getD i []).set j (at2 U j i)),⟨by simp [t1],?_,?_,fun b hb=>?_⟩,fun K=>Ev.succ ?_⟩
    ·rw [getD_set _ _ _ _ _ (by omega),if_pos rfl];simpa using t2
    ·rw [← t3];simp
    ·rw [getD_set _ _ _ _ _ (by omega),if_pos rfl]
     unfold at1
     rw [getD_set _ _ _ _ _ (by omega)]
     by_cases eb:b=j
     ·rw [if_pos eb,eb]
     ·rw [if_neg eb];exact t4 b (by omega)
    ·simp only [impl_turned.l1,rdL_nat,rd_nat,rd_row,hrow,t1,t2,Int.toNat_natCast]
     repeat(with_reducible first|refine Ev.ip ?_|refine Ev.iq ?_)
     exact K
theorem optI_neg (o : Option Nat) : (optI o < 0) ↔ o.isSome = false := by cases o <;> simp [optI] <;> omega
theorem impl_LatticeOk.ev (U : List (List Int)) : Ev (fun k => impl_LatticeOk.f k U) (latticeB U) := by
 unfold impl_LatticeOk.f latticeB
 refine Ev.bind (impl_OrderOk.ev U) ?_
 cases ho:orderB U with
 |false=>
  repeat(with_reducible first|refine Ev.ip ?_|refine Ev.iq ?_)
  exact Ev.now _
 |true=>
  have O:=orderB_iff.1 ho
  have hs:=O.small
  repeat(with_reducible first|refine Ev.ip ?_|refine Ev.iq ?_)
  refine Ev.bind (impl_turned.ev O) ?_
  refine Ev.eq (Ev.all (n:=U.length) (g:=fun k i=>impl_LatticeOk.l0 k U (turnL U) U.length i) (fun a=>allN U.length fun b=>(meetO U a b).isSome && (joinO U a b).isSome) (go:=true) (stop:=false) (by omega) (fun _=>?_) fun a ha _ R hR=>?_) (by rw [Bool.true_and];cases allN U.length _ <;> rfl)
  ·refine Ev.succ ?_
   simp only [impl_LatticeOk.l0]
   repeat(with_reducible first|refine Ev.ip ?_|refine Ev.iq ?_)
   exact Ev.now _
  ·refine Ev.succ ?_
   simp only [impl_LatticeOk.l0]
   repeat(with_reducible first|refine Ev.ip ?_|refine Ev.iq ?_)
   refine Ev.all (n:=U.length) (g:=fun k i=>impl_LatticeOk.l1 k U (turnL U) a U.length a U.length i) _ (by omega) (fun h=>?_) fun b hb _ R2 hR2=>?_
   ·refine Ev.succ ?_
    simp only [impl_LatticeOk.l1]
    repeat(with_reducible first|refine Ev.ip ?_|refine Ev.iq ?_)
    exact hR (allN_iff.2 h)
   ·refine Ev.succ ?_
    simp only [impl_LatticeOk.l1]
    repeat(with_reducible first|refine Ev.ip ?_|refine Ev.iq ?_)
    refine Ev.bind (impl_meet.ev O ha hb) ?_
    unfold mI
    cases em:meetO U a b with
    |none=>
     refine Ev.ite_pos (by simp [optI]) ?_
     exact Ev.eq (Ev.now _) (by simp)
    |some m=>
     refine Ev.ite_neg (by have:=optI_neg (some 0);simp [optI]) ?_
     refine Ev.bind (impl_meet.ev_turn O ha hb) ?_
     unfold jI
     cases ej:joinO U a b with
     |none=>
      refine Ev.ite_pos (by simp [optI]) ?_
      exact Ev.eq (Ev.now _) (by simp)
     |some j=>
      refine Ev.ite_neg (by have:=optI_neg (some 0);simp [optI]) ?_
      exact Ev.eq (hR2 (by simp [em,ej])) (by simp)
theorem impl_LeastOf.ev (U : List (List Int)) : Ev (fun k => impl_LeastOf.f k U) (if orderB U = true then (optI (leastO U), (leastO U).isSome) else (-1, false)) := by
 unfold impl_LeastOf.f
 refine Ev.bind (impl_OrderOk.ev U) ?_
 cases ho:orderB U with
 |false=>
  repeat(with_reducible first|refine Ev.ip ?_|refine Ev.iq ?_)
  exact Ev.now _
 |true=>
  have O:=orderB_iff.1 ho
  have hs:=O.small
  repeat(with_reducible first|refine Ev.ip ?_|refine Ev.iq ?_)
  refine Ev.eq (Ev.find (n:=U.length) (g:=fun k i=>impl_LeastOf.l0 k U U.length i) (fun a=>allN U.length fun b=>leB U a b) (none':=(-1,false)) (some':=fun i=>((i:Int),true)) (by omega) (fun _=>?_) fun a ha _ R hR=>?_) (by unfold leastO;cases findN U.length _ <;> rfl)
  ·refine Ev.succ ?_
   simp only [impl_LeastOf.l0]
   repeat(with_reducible first|refine Ev.ip ?_|refine Ev.iq ?_)
   exact Ev.now _
  ·refine Ev.succ ?_
   simp only [impl_LeastOf.l0,rdL_nat,O.row a ha]
   repeat(with_reducible first|refine Ev.ip ?_|refine Ev.iq ?_)
   have key: ∀d i,i+d=U.length→ ∀fl:Bool,(fl && allFrom U.length (fun b=>leB U a b) i)=allN U.length (fun b=>leB U a b)→Ev (fun k=>impl_LeastOf.l1 k a fl U U.length a (U.getD a []) U.length i) (if allN U.length (fun b=>leB U a b)=true then((a:Int),true) else R):=by
    intro d
    induction d with
    |zero=>
     intro i hi fl hfl
     refine Ev.succ ?_
     simp only [impl_LeastOf.l1]
     rw [allFrom_ge (by omega),Bool.and_true] at hfl
     rw [hfl]
     repeat(with_reducible first|refine Ev.ip ?_|refine Ev.iq ?_)
     cases ha':allN U.length (fun b=>leB U a b) with
     |true=>
      repeat(with_reducible first|refine Ev.ip ?_|refine Ev.iq ?_)
      exact Ev.now _
     |false=>
      repeat(with_reducible first|refine Ev.ip ?_|refine Ev.iq ?_)
      exact hR ha'
    |succ d ih=>
     intro i hi fl hfl
     rw [allFrom_lt (by omega)] at hfl
     refine Ev.succ ?_
     have rl:=O.row a ha
     simp only [impl_LeastOf.l1,rd_nat,rd_row,wrap_nat (show i<4611686018427387904 by omega)]
     repeat(with_reducible first|refine Ev.ip ?_|refine Ev.iq ?_)
     cases fl with
     |true=>
      repeat(with_reducible first|refine Ev.ip ?_|refine Ev.iq ?_)
      exact ih (i+1) (by omega) _ hfl
     |false=>
      repeat(with_reducible first|refine Ev.ip ?_|refine Ev.iq ?_)
      exact ih (i+1) (by omega) _ (by rw [← hfl];simp)
   exact key U.length 0 (by omega) true (by rw [allFrom_zero,Bool.true_and])
theorem told_facts (U : List (List Int)) : ∃ k, ToldFacts k U := by
 cases hl:latticeB U with
 |false=>
  obtain⟨k,hk⟩:=(impl_LatticeOk.ev U).rounds
  exact⟨k,by rw [hk,hl],fun h=>by rw [hl] at h;exact absurd h (by simp),fun h=>by rw [hl] at h;exact absurd h (by simp),fun h=>by rw [hl] at h;exact absurd h (by simp),fun h=>by rw [hl] at h;exact absurd h (by simp)⟩
 |true=>
  have O:=latticeB_order hl
  obtain⟨k1,h1⟩:=impl_LatticeOk.ev U
  obtain⟨k2,h2⟩:=impl_LeastOf.ev U
  have hm: ∃K,∀a b:Nat,a<U.length→b<U.length→ ∀k,K≤k→impl_meet.f k U a b=some (mI U a b):=Ev.all2 U.length fun a b ha hb=>impl_meet.ev O ha hb
  have hj: ∃K,∀a b:Nat,a<U.length→b<U.length→ ∀k,K≤k→impl_meet.f k (turnL U) a b=some (jI U a b):=Ev.all2 U.length fun a b ha hb=>impl_meet.ev_turn O ha hb
  obtain⟨k3,h3⟩:=hm
  obtain⟨k4,h4⟩:=hj
  obtain⟨k5,h5⟩:=impl_turned.ev O
  refine⟨k1+k2+k3+k4+k5,?_,fun _=>h5 _ (by omega),fun _ a b ha hb=>h3 a b ha hb _ (by omega),fun _ a b ha hb=>h4 a b ha hb _ (by omega),fun _=>?_⟩
  ·exact h1 _ (by omega)
  ·have:=h2 (k1+k2+k3+k4+k5) (by omega)
   rw [if_pos (orderB_iff.2 O)] at this
   exact this
def impl_NotOf.f (l0_0 : List (List Int)) (l0_1 : List Int) (a1 : Int) : Option (Int) := some (if logicB l0_0 l0_1 = true then (if [a1].all (inR l0_0.length) = true then (notI l0_1 a1) else (-1)) else (-1))
set_option maxHeartbeats 1000000 in
theorem impl_NotOf.calls (A0_0 : Option Addr) (c0_0 : Nat) (l0_0 : List (List Int)) (A0_1 : Option Addr) (c0_1 : Nat) (l0_1 : List Int) (a1 : Int) (r : Int) (w : World) (hr0_0 : Kd.C (Kd.slice 3 (Kd.int .i64)) w A0_0 l0_0.length l0_0) (hc0_0 : l0_0.length ≤ c0_0) (hr0_1 : Kd.C (Kd.int .i64) w A0_1 l0_1.length l0_1) (hc0_1 : l0_1.length ≤ c0_1) (h : impl_NotOf.f l0_0 l0_1 a1 = some r) :
 Calls Tryz.prog 11 #[.agg #[.slice A0_0 l0_0.length c0_0,.slice A0_1 l0_1.length c0_1],.int .i64 a1] w fun e w'=>e= .returned (.int .i64 r)∧Below w.heap.size w w':=by
 obtain⟨k,hF⟩:=told_facts l0_0
 have hu30:=Tryz.underlying30
 have hu70:=Tryz.underlying52
 have HF:=zqm hF
 have HR0:=zqm hr0_0
 have HC0:=zqm hc0_0
 have HR1:=zqm hr0_1
 have HC1:=zqm hc0_1
 simp only [impl_NotOf.f,Option.some.injEq] at h
 clear hr0_0 hc0_0 hr0_1 hc0_1 hF
 cases hL:logicB l0_0 l0_1 with
 |false=>
  rw [hL] at h
  have hr_:(-1)=r:=by simpa using h
  subst hr_
  have HLB:=zqm hL
  clear h hL
  go_enter Tryz.func11,Tryz.ntmps11
  go_wp2_with (first|((with_reducible refine gate_dst (N:=2) rfl ?_);refine box_event ?hg (N:=2) ?hd (cs:= #[.slice A0_0 l0_0.length c0_0,.slice A0_1 l0_1.length c0_1]) (t:=30) ?hr ?_;(case hd=>rfl);(case hg=>rfl);(case hr=> exact zq16);intro gb hg_ w1 hbox hb;have HB:=zqm hb;have hx0:w1.cell? ⟨gb,0,none⟩=some (.slice A0_0 l0_0.length c0_0):=(blk_cell hbox 0).trans rfl;have hx1:w1.cell? ⟨gb,1,none⟩=some (.slice A0_1 l0_1.length c0_1):=(blk_cell hbox 1).trans rfl;have HX:=zqm hbox;clear hbox hb hg_)|(go_at_call 20;(with_reducible refine(told_n k _ _ l0_0 _ _ l0_1 _ ?s1 ?s2 ?s3 ?s4 HF.out HLB.out).mono ?_);(case s1=> exact zq97);(case s2=>exact HC0.out);(case s3=> exact zq105);(case s4=>exact HC1.out);rintro e w2 ⟨rfl,hb⟩;have HB2:=zqm (below_step HB.out hb);clear hb hx0 hx1 HX HB)|(go_at_call 21;(with_reducible refine(knows_nil _ _ _ _).mono ?_);rintro e w3 ⟨rfl,hb⟩;have HB3:=zqm (below_step (by repeat(first|exact HB2.out|apply below_alloc|apply pw_below_drewN|apply below_drew1)) hb);clear hb))
  go_ret
  exact⟨rfl,HB3.out⟩
 |true=>
  have HLB:=zqm hL
  have HLg:=zqm (logicB_iff.1 hL)
  cases hin: [a1].all (inR l0_0.length) with
  |false=>
   rw [hL,hin] at h
   have hr_:(-1)=r:=by simpa using h
   subst hr_
   have HIN:=zqm hin
   clear h hL hin
   go_enter Tryz.func11,Tryz.ntmps11
   go_wp2_with (first|((with_reducible refine gate_dst (N:=2) rfl ?_);refine box_event ?hg (N:=2) ?hd (cs:= #[.slice A0_0 l0_0.length c0_0,.slice A0_1 l0_1.length c0_1]) (t:=30) ?hr ?_;(case hd=>rfl);(case hg=>rfl);(case hr=> exact zq16);intro gb hg_ w1 hbox hb;have HB:=zqm hb;have hx0:w1.cell? ⟨gb,0,none⟩=some (.slice A0_0 l0_0.length c0_0):=(blk_cell hbox 0).trans rfl;have hx1:w1.cell? ⟨gb,1,none⟩=some (.slice A0_1 l0_1.length c0_1):=(blk_cell hbox 1).trans rfl;have HX:=zqm hbox;clear hbox hb hg_)|(go_at_call 20;(with_reducible refine(told_y k _ _ l0_0 _ _ l0_1 _ ?s1 ?s2 ?s3 ?s4 HF.out HLB.out).mono ?_);(case s1=> exact zq97);(case s2=>exact HC0.out);(case s3=> exact zq105);(case s4=>exact HC1.out);rintro e w2 ⟨g,v,rfl,hv,hge,hb⟩;have HB2:=zqm (below_step HB.out hb);have HV:=zqm hv;clear hv hge hb hx0 hx1 HX HB)|(go_at_call 21;(with_reducible refine(knows_calls g l0_0 l0_1 v _ HLg.out ?s1 _ _ [a1] 1 rfl ?s2 (by omega) false HIN.out).mono ?_);(case s1=>exact View.alloc HV.out _);(case s2=>exact lit_C _ _ [a1] (by simp));rintro e w3 ⟨rfl,hb⟩;have HB3:=zqm (below_step (below_alloc HB2.out _) hb);have HV3:=zqm (View.below (View.alloc HV.out _) hb);clear hb))
   go_ret
   exact⟨rfl,HB3.out⟩
  |true=>
   rw [hL,hin] at h
   have hr_:(notI l0_1 a1)=r:=by simpa using h
   subst hr_
   have HIN:=zqm hin
   have hin2:=hin
   simp only [List.all_cons,List.all_nil,Bool.and_true,Bool.and_eq_true,inR_iff] at hin2
   have Ia1:=zqm (hin2)
   clear h hL hin hin2
   go_enter Tryz.func11,Tryz.ntmps11
   go_wp2_with (first|((with_reducible refine gate_dst (N:=2) rfl ?_);refine box_event ?hg (N:=2) ?hd (cs:= #[.slice A0_0 l0_0.length c0_0,.slice A0_1 l0_1.length c0_1]) (t:=30) ?hr ?_;(case hd=>rfl);(case hg=>rfl);(case hr=> exact zq16);intro gb hg_ w1 hbox hb;have HB:=zqm hb;have hx0:w1.cell? ⟨gb,0,none⟩=some (.slice A0_0 l0_0.length c0_0):=(blk_cell hbox 0).trans rfl;have hx1:w1.cell? ⟨gb,1,none⟩=some (.slice A0_1 l0_1.length c0_1):=(blk_cell hbox 1).trans rfl;have HX:=zqm hbox;clear hbox hb hg_)|(go_at_call 20;(with_reducible refine(told_y k _ _ l0_0 _ _ l0_1 _ ?s1 ?s2 ?s3 ?s4 HF.out HLB.out).mono ?_);(case s1=> exact zq97);(case s2=>exact HC0.out);(case s3=> exact zq105);(case s4=>exact HC1.out);rintro e w2 ⟨g,v,rfl,hv,hge,hb⟩;have HB2:=zqm (below_step HB.out hb);have HV:=zqm hv;clear hv hge hb hx0 hx1 HX HB)|(go_at_call 21;(with_reducible refine(knows_calls g l0_0 l0_1 v _ HLg.out ?s1 _ _ [a1] 1 rfl ?s2 (by omega) true HIN.out).mono ?_);(case s1=>exact View.alloc HV.out _);(case s2=>exact lit_C _ _ [a1] (by simp));rintro e w3 ⟨rfl,hb⟩;have HB3:=zqm (below_step (below_alloc HB2.out _) hb);have HV3:=zqm (View.below (View.alloc HV.out _) hb);clear hb;have b0_:=eq_true Ia1.out.1;have c0_:=eq_true Ia1.out.2;have hf3_:=HV3.out.f3;have n2_:=HV3.out.n a1 Ia1.out))
   go_ret
   exact⟨rfl,HB3.out⟩
end Go.Proofs.YtbomiegcbimgoaaGreat.Print
end
