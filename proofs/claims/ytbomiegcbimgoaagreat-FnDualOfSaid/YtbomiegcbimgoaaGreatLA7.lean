/- Part 7 of what is common to several claims of this seat: DualL. -/
import Derived.Test.YtbomiegcbimgoaaGreatLA6
import Derived.Below
import Derived.Deep.Draws
import Derived.Deep.AppendLies
import Derived.Maps.AppendAt
import Derived.OwnWalk
import Derived.Laws.BytesArg
import Derived.Laws.MakeOwn
import Derived.Laws.OwnMore
import Derived.Deep.OwnRows
import Derived.Tactics
import Derived.Lib.ConvBytes
import Derived.Laws.Slices
import Derived.WalkKit
import Derived.KernelRfl
import Derived.RowKit3
import Derived.Deep.LoopGhost
import Derived.Deep.QuietTactic
import Derived.BigQuiet
import Derived.WideLaws
import Derived.Deep.DeepCutAuto
import Derived.Deep.CutBlock
import Derived.Deep.RegionHeld3
import Derived.Laws.Rows
import Derived.Lib.AppendStr
import Derived.ArgAppend
import Derived.Laws.IdiomCopy
import Derived.RowKit
import Derived.OrdersHeld
import Derived.Laws.BitsLemmas
import Derived.Test.YtbomiegcbimgoaaGreatProg
import Derived.Tactics2
import Derived.Defers
import Derived.Laws.Pointers
import Derived.Laws.LoneSync
import Derived.RegionTactic
import Derived.RegionCalls
import Derived.ChangeAlike
set_option linter.all false
section
namespace Go.Proofs.YtbomiegcbimgoaaGreat.Print
open Go.RowKit Go.Proofs.YtbomiegcbimgoaaGreatW.PrintWords Go.Proofs.YtbomiegcbimgoaaGreatW.PrintLast Go.Proofs.YtbomiegcbimgoaaGreatW.PrintMore
theorem disable (w : World) : (callFunc 59 #[]).run Tryz.prog w = .ok (.value (.tuple #[])) w := run_call_mark0 Tryz.func59 (by kernel_rfl) (by kernel_rfl) (by kernel_rfl) .disable (by kernel_rfl) w
theorem enable (w : World) : (callFunc 61 #[]).run Tryz.prog w = .ok (.value (.tuple #[])) w := run_call_mark0 Tryz.func61 (by kernel_rfl) (by kernel_rfl) (by kernel_rfl) .enable (by kernel_rfl) w
theorem acquire (a : Addr) (w : World) : (callFunc 62 #[.pointer (some a)]).run Tryz.prog w = .ok (.value (.tuple #[])) w := run_call_marked Tryz.func62 (by kernel_rfl) (by kernel_rfl) (by kernel_rfl) .acquire (by kernel_rfl) a w
theorem releaseMerge (a : Addr) (w : World) : (callFunc 64 #[.pointer (some a)]).run Tryz.prog w = .ok (.value (.tuple #[])) w := run_call_marked Tryz.func64 (by kernel_rfl) (by kernel_rfl) (by kernel_rfl) .releaseMerge (by kernel_rfl) a w
set_option maxRecDepth 100000 in
set_option maxHeartbeats 1600000 in
theorem store_deferred (a : Addr) (x : Value) (u : FrameMode) (w : World) (hc : w.cell? a = some x) (hz : w.frozen? a = false) :
 CallsD Tryz.prog 43 #[.pointer (some a),.bool true] u w fun e u' w'=>u'=u∧(e= .returned (.tuple #[])∧w'=w.drew.setCell a (.int .u32 1)):=by
 have hc':w.drew.cell? a=some x:=by go_simp
 have hz':w.drew.frozen? a=false:=by go_simp
 have hst:=run_call_store (P:=Tryz.prog) Tryz.func53 zqk zqk zqk zqk (k:= .u32) (y:=1) hc' hz'
 go_enter_d Tryz.func43,Tryz.ntmps43
 go_wp2
 go_region_calls
 all_goals (go_end0;exact⟨rfl,rfl⟩)
set_option maxRecDepth 100000 in
set_option maxHeartbeats 1600000 in
theorem unlock_deferred (a : Addr) (u : FrameMode) (w : World) (hc : w.cell? a = some (.int .i32 1)) (hz : w.frozen? a = false) :
 CallsD Tryz.prog 42 #[.pointer (some a)] u w fun e u' w'=>u'=u∧(e= .returned (.tuple #[])∧w'=w.setCell a (.int .i32 0)):=by
 have hd:=disable
 have he:=enable
 have hr:=releaseMerge
 have hadd:=run_call_add (P:=Tryz.prog) Tryz.func65 zqk zqk zqk .i32 zqk (y:= -1) (s:=0) hc hz (by simp [go_sem];rfl)
 have hcv:=run_convert_to_unsafe (P:=Tryz.prog) (src:=126) (dst:=130) Tryz.underlying126 Tryz.underlying130 zqk hc
 go_enter_d Tryz.func42,Tryz.ntmps42
 go_wp2
 go_end0
 go_wp2
 go_end0
 exact⟨rfl,rfl⟩
set_option maxRecDepth 100000 in
set_option maxHeartbeats 1600000 in
theorem lock_free (a : Addr) (w : World) (hc : w.cell? a = some (.int .i32 0)) (hz : w.frozen? a = false) :
 Calls Tryz.prog 41 #[.pointer (some a)] w fun e w'=>e= .returned (.tuple #[])∧w'=w.setCell a (.int .i32 1):=by
 have hd:=disable
 have he:=enable
 have ha:=acquire
 have hcas:=run_call_cas_hit (P:=Tryz.prog) Tryz.func60 zqk zqk zqk .i32 zqk (y:=1) hc hz
 have hc':(w.setCell a (.int .i32 1)).cell? a=some (.int .i32 1):=World.cell?_setCell_same w a _ hc
 have hcv:=run_convert_to_unsafe (P:=Tryz.prog) (src:=126) (dst:=130) Tryz.underlying126 Tryz.underlying130 zqk hc'
 go_enter Tryz.func41,Tryz.ntmps41
 go_wp2
 first|go_end0|(simp only [Exit.inBlock,Exit.then];refine bodyPost_ret (results_none rfl _ _ _) rfl ?_)|refine bodyPost_ret (results_none rfl _ _ _) rfl ?_
 go_wp2
 go_end0
 exact⟨rfl,rfl⟩
def dualL : List ByteArray := [⟨#[38]⟩, ⟨#[124]⟩, ⟨#[124]⟩, ⟨#[38]⟩, ⟨#[48]⟩, ⟨#[49]⟩, ⟨#[49]⟩, ⟨#[48]⟩]
def dT (m j : Nat) : Int := if j = 49 ∧ 1 ≤ m then 48 else if j = 48 ∧ 2 ≤ m then 49 else if j = 124 ∧ 3 ≤ m then 38 else if j = 38 ∧ 4 ≤ m then 124 else (j : Int)
theorem add0 (g m : Nat) : (⟨g, 0, none⟩ : Addr).add m = ⟨g, m, none⟩ := by by_cases h : m = 0 <;> simp [Addr.add, h]
theorem dl_cell {w : World} {h : Nat} (H : Kd.C Kd.string w (some ⟨h, 0, none⟩) 8 dualL) (j : Nat) (hj : j < 8) : w.cell? ⟨h, j, none⟩ = some (.string (dualL.getD j ByteArray.empty)) := by
 obtain⟨ad,e,hx⟩:=H.2.2 (by omega)
 cases e
 have hl:j<dualL.length:=hj
 obtain⟨cs,hcs,hk,hcell⟩:=hx j _ (List.getElem?_eq_getElem hl)
 have hk':cs= [.string dualL[j]]:=by first|exact hk|simpa [Kd.string] using hk
 subst hk'
 have h0:=hcell 0 _ rfl
 rw [add0,show j*(Kd.string).sz+0=j from Nat.mul_one j] at h0
 rw [List.getD_eq_getElem?_getD,List.getElem?_eq_getElem hl]
 exact h0
theorem dT_zero (j : Nat) : dT 0 j = j := by unfold dT; rw [if_neg (by omega), if_neg (by omega), if_neg (by omega), if_neg (by omega)]
theorem dT_step {cur : Array Value} {m o n : Nat} (hm : (m = 0 ∧ o = 49 ∧ n = 48) ∨ (m = 1 ∧ o = 48 ∧ n = 49) ∨ (m = 2 ∧ o = 124 ∧ n = 38) ∨ (m = 3 ∧ o = 38 ∧ n = 124)) (hs : cur.size = 256) (h : ∀ j, j < 256 → cur[j]? = some (.int .u8 (dT m j))) :
 (cur.setIfInBounds o (.int .u8 n)).size=256∧ ∀j,j<256→(cur.setIfInBounds o (.int .u8 n))[j]? =some (.int .u8 (dT (m+1) j)):=by
 refine⟨by simp [hs],fun j hj=>?_⟩
 rw [Array.getElem?_setIfInBounds]
 by_cases e:o=j
 ·rw [if_pos e,if_pos (by omega)]
  refine congrArg (fun z=>some (Value.int .u8 z)) ?_
  unfold dT
  rcases hm with ⟨rfl,rfl,rfl⟩|⟨rfl,rfl,rfl⟩|⟨rfl,rfl,rfl⟩|⟨rfl,rfl,rfl⟩ <;> subst e <;> rfl
 ·rw [if_neg e,h j hj]
  refine congrArg (fun z=>some (Value.int .u8 z)) ?_
  unfold dT
  rcases hm with ⟨rfl,rfl,rfl⟩|⟨rfl,rfl,rfl⟩|⟨rfl,rfl,rfl⟩|⟨rfl,rfl,rfl⟩ <;> (repeat' split) <;> omega
theorem tab_step {cur : Array Value} {i : Nat} {x : Int} (hx : x = i) (hi : i < 256) (hs : cur.size = 256) (h1 : ∀ j, j < i → cur[j]? = some (.int .u8 j)) (h2 : ∀ j, i ≤ j → j < 256 → ∃ y, cur[j]? = some (.int .u8 y)) :
 (cur.setIfInBounds i (.int .u8 x)).size=256∧(∀j,j<i+1→(cur.setIfInBounds i (.int .u8 x))[j]? =some (.int .u8 j))∧ ∀j,i+1≤j→j<256→ ∃y,(cur.setIfInBounds i (.int .u8 x))[j]? =some (.int .u8 y):=by
 refine⟨by simp [hs],fun j hj=>?_,fun j h3 h4=>?_⟩
 ·rw [Array.getElem?_setIfInBounds]
  by_cases e:i=j
  ·subst e
   rw [if_pos rfl,if_pos (by omega),hx]
  ·rw [if_neg e]
   exact h1 j (by omega)
 ·rw [Array.getElem?_setIfInBounds,if_neg (by omega)]
  exact h2 j (by omega) h4
set_option maxHeartbeats 8000000 in
set_option maxRecDepth 100000 in
theorem build_calls (g h c : Nat) (w : World) (d s m r : Value) (hb : w.heap[g]? = some (.cells #[d, s, m, r, .slice (some ⟨h, 0, none⟩) 8 c] 73 (0, 0))) (H : Kd.C Kd.string w (some ⟨h, 0, none⟩) 8 dualL) :
 Calls Tryz.prog 38 #[.pointer (some ⟨g,0,none⟩)] w fun e w'=> ∃b cur,e= .returned (.iface 101 (.pointer (some ⟨b,0,none⟩)))∧w.heap.size≤b∧w'.heap[b]? =some (.cells cur 100 (0,0))∧cur.size=256∧(∀j,j<256→cur[j]? =some (.int .u8 (dT 4 j)))∧Below w.heap.size w w':=by
 have HX:=zqm hb
 have HC:=zqm H
 have hx4:w.cell? ⟨g,4,none⟩=some (.slice (some ⟨h,0,none⟩) 8 c):=(blk_cell hb 4).trans rfl
 clear hb H
 go_enter Tryz.func38,Tryz.ntmps38
 go_wp2_with fail
 go_loopg [4,5] 5 (fun kq v4 v5 W=> ∃(i:Nat) (x:Int),v4= .bool true∧v5= .int .i64 x∧Aside0 (x=2*(i:Int))∧Aside0 (4<i+kq)∧Aside0 (i≤4)∧Aside0 (Below w.heap.size w W))
 case atStart=>exact⟨0,0,rfl,rfl,⟨rfl⟩,⟨by omega⟩,⟨by omega⟩,⟨zq119⟩⟩
 case round=>
  clear hx4
  obtain⟨i,x,rfl,rfl,HXI,HF,HI,HB⟩:=hrel
  cases gk with
  |zero=>exact absurd HF.out (by have:=HI.out;omega)
  |succ kn=>
  have hi:i=0∨i=1∨i=2∨i=3∨i=4:=by have:=HI.out;omega
  rcases hi with rfl|rfl|rfl|rfl|rfl
  ·obtain rfl:x=0:=by have:=HXI.out;omega
   have c0:wr.cell? ⟨h,0,none⟩=some (.string ⟨#[38]⟩):=dl_cell (Kd.C_below HC.out HB.out) 0 (by omega)
   have c1:wr.cell? ⟨h,1,none⟩=some (.string ⟨#[124]⟩):=dl_cell (Kd.C_below HC.out HB.out) 1 (by omega)
   have z: ∀b:UInt8,(⟨#[b]⟩:ByteArray).size=1:=fun _=>rfl
   go_wp2_with fail
   go_roundg kn
   case measure=>omega
   case rel=>exact⟨1,2,rfl,rfl,⟨rfl⟩,⟨by have:=HF.out;omega⟩,⟨by omega⟩,⟨zq43⟩⟩
  ·obtain rfl:x=2:=by have:=HXI.out;omega
   have c0:wr.cell? ⟨h,2,none⟩=some (.string ⟨#[124]⟩):=dl_cell (Kd.C_below HC.out HB.out) 2 (by omega)
   have c1:wr.cell? ⟨h,3,none⟩=some (.string ⟨#[38]⟩):=dl_cell (Kd.C_below HC.out HB.out) 3 (by omega)
   have z: ∀b:UInt8,(⟨#[b]⟩:ByteArray).size=1:=fun _=>rfl
   go_wp2_with fail
   go_roundg kn
   case measure=>omega
   case rel=>exact⟨2,4,rfl,rfl,⟨rfl⟩,⟨by have:=HF.out;omega⟩,⟨by omega⟩,⟨zq43⟩⟩
  ·obtain rfl:x=4:=by have:=HXI.out;omega
   have c0:wr.cell? ⟨h,4,none⟩=some (.string ⟨#[48]⟩):=dl_cell (Kd.C_below HC.out HB.out) 4 (by omega)
   have c1:wr.cell? ⟨h,5,none⟩=some (.string ⟨#[49]⟩):=dl_cell (Kd.C_below HC.out HB.out) 5 (by omega)
   have z: ∀b:UInt8,(⟨#[b]⟩:ByteArray).size=1:=fun _=>rfl
   go_wp2_with fail
   go_roundg kn
   case measure=>omega
   case rel=>exact⟨3,6,rfl,rfl,⟨rfl⟩,⟨by have:=HF.out;omega⟩,⟨by omega⟩,⟨zq43⟩⟩
  ·obtain rfl:x=6:=by have:=HXI.out;omega
   have c0:wr.cell? ⟨h,6,none⟩=some (.string ⟨#[49]⟩):=dl_cell (Kd.C_below HC.out HB.out) 6 (by omega)
   have c1:wr.cell? ⟨h,7,none⟩=some (.string ⟨#[48]⟩):=dl_cell (Kd.C_below HC.out HB.out) 7 (by omega)
   have z: ∀b:UInt8,(⟨#[b]⟩:ByteArray).size=1:=fun _=>rfl
   go_wp2_with fail
   go_roundg kn
   case measure=>omega
   case rel=>exact⟨4,8,rfl,rfl,⟨rfl⟩,⟨by have:=HF.out;omega⟩,⟨by omega⟩,⟨zq43⟩⟩
  obtain rfl:x=8:=by have:=HXI.out;omega
  go_wp2_with (first|(refine wpList_build rfl 100 #[] rfl zqk ?_;rw [show (Tryz.prog.built 100 (#[]:Array (Nat × Value)).toList).getD #[]=Array.replicate 256 (.int .u8 0) from by kernel_rfl])|((with_reducible refine gate_dst (N:=6) rfl ?_);refine box_event ?hg (N:=6) ?hd (cs:=Array.replicate 256 (.int .u8 0)) (t:=100) ?hr ?_;(case hd=>rfl);(case hg=>rfl);(case hr=> exact zq16);intro b hg_ wb hbox hb;have HBX:=zqm hbox;have HGB:=zqm (show w.heap.size≤b from by rw [hg_];exact below_size HB.out);have n0_:=zqm (below_step HB.out hb);clear HB;have HB:=n0_;clear n0_ hbox hb hg_)|((with_reducible refine gate_store (t:=100) (p:=6) rfl ?_);refine wpList_plain rfl fun K hK=>wp_store_row 100 (.tmp 6) (.tmp 60) rfl b (Array.replicate 256 (.int .u8 0)) (by rfl) (by rfl) 100 (Array.replicate 256 (.int .u8 0)) HBX.out zqk rfl zqk ?_;rw [setRow_self _ _ _ _ _ HBX.out];refine hK _ _ ?_))
  go_loopg [61] 257 (fun kq v61 W=> ∃(i:Nat) (x:Int),v61= .int .i64 x∧Aside0 (x=(i:Int))∧Aside0 (256<i+kq)∧Aside0 (i≤256)∧Aside0 (∃cur,W.heap[b]? =some (.cells cur 100 (0,0))∧cur.size=256∧(∀j,j<i→cur[j]? =some (.int .u8 j))∧ ∀j,i≤j→j<256→ ∃y,cur[j]? =some (.int .u8 y))∧Aside0 (Below w.heap.size w W))
  case atStart=>exact⟨0,0,rfl,⟨rfl⟩,⟨by omega⟩,⟨by omega⟩,⟨_,HBX.out,by simp,fun j hj=>absurd hj (by omega),fun j _ hj=>⟨0,by rw [Array.getElem?_replicate,if_pos hj]⟩⟩,⟨HB.out⟩⟩
  case round=>
   clear HBX HB HF HI HXI
   obtain⟨i,x,rfl,HXI,HF,HI,⟨cur,hX,hS,h1,h2⟩,HB⟩:=hrel
   cases gk with
   |zero=>exact absurd HF.out (by have:=HI.out;omega)
   |succ kn=>
   by_cases hlt:x<256
   ·have hlt':decide (x<256)=true:=decide_eq_true hlt
    have p1:(x<256)=True:=eq_true hlt
    obtain⟨y,hy⟩:=h2 i (Nat.le_refl _) (by have:=HXI.out;omega)
    have hn:x.toNat=i:=by have:=HXI.out;omega
    have hw:IntKind.u8.wrap x=x:=by have:=HXI.out;simp [IntKind.wrap,IntKind.bits,IntKind.signed];omega
    have h0:(0≤x)=True:=eq_true (by have:=HXI.out;omega)
    have h0':decide (0≤x)=true:=decide_eq_true (by have:=HXI.out;omega)
    have h0'':(x<0)=False:=eq_false (by have:=HXI.out;omega)
    have HX:=zqm hX
    have HS:=zqm hS
    have H1:=zqm h1
    have H2:=zqm h2
    have HLT:=zqm hlt
    have HY:=zqm hy
    have hc:wr.cell? ⟨b,i,none⟩=some (.int .u8 y):=(blk_cell HX.out i).trans HY.out
    have hf:=blk_frozen HX.out i
    clear hX hS h1 h2 hlt hy
    go_wp2_with fail
    go_roundg kn
    case measure=>omega
    case rel=>exact⟨i+1,x+1,by first|rfl|(refine congrArg (Value.int .i64) ?_;have:=HXI.out;have:=HLT.out;first|(simp only [i64_w];unfold wrap64;omega)|(unfold wrap64;omega)|omega),⟨by have:=HXI.out;omega⟩,⟨by have:=HF.out;omega⟩,⟨zq150⟩,⟨_,blk_set HX.out i _,(tab_step HXI.out zq150 HS.out H1.out H2.out).1,(tab_step HXI.out zq150 HS.out H1.out H2.out).2.1,(tab_step HXI.out zq150 HS.out H1.out H2.out).2.2⟩,⟨below_set HB.out HGB.out⟩⟩
   ·have hlt':decide (x<256)=false:=decide_eq_false hlt
    have p1:(x<256)=False:=eq_false hlt
    have HX:=zqm hX
    have HS:=zqm hS
    have H1:=zqm (show∀j,j<256→cur[j]? =some (.int .u8 (dT 0 j)) from fun j hj=>by rw [dT_zero];exact h1 j (by have:=HXI.out;omega))
    clear hX hS h1 h2 hlt
    go_wp2_with fail
    go_loopg [8] 5 (fun kq v8 W=> ∃(m:Nat) (x:Int),v8= .int .i64 x∧Aside0 (x=6 - 2*(m:Int))∧Aside0 (4<m+kq)∧Aside0 (m≤4)∧Aside0 (∃cur,W.heap[b]? =some (.cells cur 100 (0,0))∧cur.size=256∧ ∀j,j<256→cur[j]? =some (.int .u8 (dT m j)))∧Aside0 (Below w.heap.size w W))
    case atStart=>exact⟨0,6,rfl,⟨rfl⟩,⟨by omega⟩,⟨by omega⟩,⟨_,HX.out,HS.out,H1.out⟩,⟨HB.out⟩⟩
    case round=>
     clear HX HS H1 HB HF HI HXI
     obtain⟨m,x,rfl,HXI,HF,HI,⟨cur,hX,hS,h1⟩,HB⟩:=hrel
     cases gk with
     |zero=>exact absurd HF.out (by have:=HI.out;omega)
     |succ kn=>
     have z: ∀b:UInt8,(⟨#[b]⟩:ByteArray).size=1:=fun _=>rfl
     have HX:=zqm hX
     have HS:=zqm hS
     have H1:=zqm h1
     clear hX hS h1
     have hm:m=0∨m=1∨m=2∨m=3∨m=4:=by have:=HI.out;omega
     rcases hm with rfl|rfl|rfl|rfl|rfl
     ·obtain rfl:x=6:=by have:=HXI.out;omega
      have c0:wr.cell? ⟨h,6,none⟩=some (.string ⟨#[49]⟩):=dl_cell (Kd.C_below HC.out HB.out) 6 (by omega)
      have c1:wr.cell? ⟨h,7,none⟩=some (.string ⟨#[48]⟩):=dl_cell (Kd.C_below HC.out HB.out) 7 (by omega)
      have hc:wr.cell? ⟨b,49,none⟩=some (.int .u8 (dT 0 49)):=(blk_cell HX.out 49).trans (H1.out 49 (by omega))
      have hf:=blk_frozen HX.out 49
      have ea: ∀(h:0<(⟨#[49]⟩:ByteArray).size),((⟨#[49]⟩:ByteArray)[0]'h).toNat=49:=fun _=>rfl
      have eb: ∀(h:0<(⟨#[48]⟩:ByteArray).size),((⟨#[48]⟩:ByteArray)[0]'h).toNat=48:=fun _=>rfl
      go_wp2_with fail
      go_roundg kn
      case measure=>omega
      case rel=>exact⟨1,4,rfl,⟨by omega⟩,⟨by have:=HF.out;omega⟩,⟨by omega⟩,⟨_,blk_set HX.out 49 _,(dT_step (n:=48) (by omega) HS.out H1.out).1,(dT_step (n:=48) (by omega) HS.out H1.out).2⟩,⟨below_set HB.out HGB.out⟩⟩
     ·obtain rfl:x=4:=by have:=HXI.out;omega
      have c0:wr.cell? ⟨h,4,none⟩=some (.string ⟨#[48]⟩):=dl_cell (Kd.C_below HC.out HB.out) 4 (by omega)
      have c1:wr.cell? ⟨h,5,none⟩=some (.string ⟨#[49]⟩):=dl_cell (Kd.C_below HC.out HB.out) 5 (by omega)
      have hc:wr.cell? ⟨b,48,none⟩=some (.int .u8 (dT 1 48)):=(blk_cell HX.out 48).trans (H1.out 48 (by omega))
      have hf:=blk_frozen HX.out 48
      have ea: ∀(h:0<(⟨#[48]⟩:ByteArray).size),((⟨#[48]⟩:ByteArray)[0]'h).toNat=48:=fun _=>rfl
      have eb: ∀(h:0<(⟨#[49]⟩:ByteArray).size),((⟨#[49]⟩:ByteArray)[0]'h).toNat=49:=fun _=>rfl
      go_wp2_with fail
      go_roundg kn
      case measure=>omega
      case rel=>exact⟨2,2,rfl,⟨by omega⟩,⟨by have:=HF.out;omega⟩,⟨by omega⟩,⟨_,blk_set HX.out 48 _,(dT_step (n:=49) (by omega) HS.out H1.out).1,(dT_step (n:=49) (by omega) HS.out H1.out).2⟩,⟨below_set HB.out HGB.out⟩⟩
     ·obtain rfl:x=2:=by have:=HXI.out;omega
      have c0:wr.cell? ⟨h,2,none⟩=some (.string ⟨#[124]⟩):=dl_cell (Kd.C_below HC.out HB.out) 2 (by omega)
      have c1:wr.cell? ⟨h,3,none⟩=some (.string ⟨#[38]⟩):=dl_cell (Kd.C_below HC.out HB.out) 3 (by omega)
      have hc:wr.cell? ⟨b,124,none⟩=some (.int .u8 (dT 2 124)):=(blk_cell HX.out 124).trans (H1.out 124 (by omega))
      have hf:=blk_frozen HX.out 124
      have ea: ∀(h:0<(⟨#[124]⟩:ByteArray).size),((⟨#[124]⟩:ByteArray)[0]'h).toNat=124:=fun _=>rfl
      have eb: ∀(h:0<(⟨#[38]⟩:ByteArray).size),((⟨#[38]⟩:ByteArray)[0]'h).toNat=38:=fun _=>rfl
      go_wp2_with fail
      go_roundg kn
      case measure=>omega
      case rel=>exact⟨3,0,rfl,⟨by omega⟩,⟨by have:=HF.out;omega⟩,⟨by omega⟩,⟨_,blk_set HX.out 124 _,(dT_step (n:=38) (by omega) HS.out H1.out).1,(dT_step (n:=38) (by omega) HS.out H1.out).2⟩,⟨below_set HB.out HGB.out⟩⟩
     ·obtain rfl:x=0:=by have:=HXI.out;omega
      have c0:wr.cell? ⟨h,0,none⟩=some (.string ⟨#[38]⟩):=dl_cell (Kd.C_below HC.out HB.out) 0 (by omega)
      have c1:wr.cell? ⟨h,1,none⟩=some (.string ⟨#[124]⟩):=dl_cell (Kd.C_below HC.out HB.out) 1 (by omega)
      have hc:wr.cell? ⟨b,38,none⟩=some (.int .u8 (dT 3 38)):=(blk_cell HX.out 38).trans (H1.out 38 (by omega))
      have hf:=blk_frozen HX.out 38
      have ea: ∀(h:0<(⟨#[38]⟩:ByteArray).size),((⟨#[38]⟩:ByteArray)[0]'h).toNat=38:=fun _=>rfl
      have eb: ∀(h:0<(⟨#[124]⟩:ByteArray).size),((⟨#[124]⟩:ByteArray)[0]'h).toNat=124:=fun _=>rfl
      go_wp2_with fail
      go_roundg kn
      case measure=>omega
      case rel=>exact⟨4,-2,rfl,⟨by omega⟩,⟨by have:=HF.out;omega⟩,⟨by omega⟩,⟨_,blk_set HX.out 38 _,(dT_step (n:=124) (by omega) HS.out H1.out).1,(dT_step (n:=124) (by omega) HS.out H1.out).2⟩,⟨below_set HB.out HGB.out⟩⟩
     obtain rfl:x= -2:=by have:=HXI.out;omega
     go_wp2_with fail
     go_ret
     exact⟨b,_,rfl,HGB.out,HX.out,HS.out,H1.out,HB.out⟩
theorem goesF_ {P : Program} {ops : Array Oper} {Q : Exit → Act → World → Prop} {rest : List Oper} {oi : Oper} {a : Act} {w : World} (N : Option Tmp) (hd : oi.dst = N) (hg : oi.guard = none) {f : FuncId} {fn : Func} {x : Operand} {xo : Array Operand} {ts : Array TypeId} {fs cs : Array Value}
 (hf : P.funcs[f]? = some fn) (hname : (fn.name == "runtime.NumGoroutine") = false) (hb : fn.body.isSome = true) (args : Array Value)
 (hop : oi.op = .call { callee := .value x, args := xo, argTypes := ts }) (hx : a.eval x = .func (.func f) fs cs) (hargs : xo.map a.eval = args)
 (h : Calls P f (fs ++ args ++ cs) w fun e w' => ∃ v, e = .returned v ∧ wpList P ops Q rest (a.put N v) w') : wpList P ops Q (oi :: rest) a w := by
 refine wpList_plain hg fun K hK => ?_
 have he := enters_ hf hname hb (fs ++ args ++ cs) w
 have hrun : (execOp a.eval oi).run P w = .ok (.enter f (fs ++ args ++ cs)) w := by
  unfold execOp
  simp [hop, resolve, Deferred.ofValue, invoke, hx, hargs]
  rw [← Array.append_assoc]
  exact he
 unfold Oper.wp
 rw [hrun, Oper.upon_enter]
 refine h.mono fun e w'' hh => ?_
 obtain ⟨v, rfl, hk⟩ := hh
 subst hd
 exact hK _ _ hk
theorem C_block {w w' : World} {h n : Nat} {l : List ByteArray} (H : Kd.C Kd.string w (some ⟨h, 0, none⟩) n l) (e : w'.heap[h]? = w.heap[h]?) : Kd.C Kd.string w' (some ⟨h, 0, none⟩) n l := by
 refine⟨H.1,H.2.1,fun hp=>?_⟩
 obtain⟨ad,ea,hx⟩:=H.2.2 hp
 cases ea
 refine⟨_,rfl,fun j p hj=>?_⟩
 obtain⟨cs,hcs,hk,hcell⟩:=hx j p hj
 refine⟨cs,hcs,hk,fun i u hu=>?_⟩
 have h1:=hcell i u hu
 rw [add0] at h1 ⊢
 rw [← h1]
 simp only [World.cell?,e]
set_option maxHeartbeats 4000000 in
set_option maxRecDepth 100000 in
theorem buildOnce_calls (g h c : Nat) (d s m : Int) (w0 w : World) (hb : w.heap[g]? = some (.cells #[.int .u32 d, .int .i32 s, .int .u32 m, .nilIface, .slice (some ⟨h, 0, none⟩) 8 c] 73 (0, 0))) (H : Kd.C Kd.string w (some ⟨h, 0, none⟩) 8 dualL) (hB : Below w0.heap.size w0 w) (hg : w0.heap.size ≤ g) (hh : h ≠ g) :
 Calls Tryz.prog 27 #[.pointer (some ⟨g,0,none⟩)] w fun e w'=>e= .returned (.tuple #[])∧ ∃b cur,w0.heap.size≤b∧g≠b∧w'.heap[g]? =some (.cells #[.int .u32 d,.int .i32 s,.int .u32 m,.iface 101 (.pointer (some ⟨b,0,none⟩)),.slice none 0 0] 73 (0,0))∧w'.heap[b]? =some (.cells cur 100 (0,0))∧cur.size=256∧(∀j,j<256→cur[j]? =some (.int .u8 (dT 4 j)))∧Below w0.heap.size w0 w':=by
 have HX:=zqm hb
 have HC:=zqm H
 have HB:=zqm hB
 have HG:=zqm hg
 clear hb H hB hg
 go_enter Tryz.func27,Tryz.ntmps27
 go_wp2_with (go_at_call 38;(with_reducible refine(build_calls g h c _ _ _ _ _ HX.out HC.out).mono ?_);rintro e w1 ⟨b,cur,rfl,hgb,hcur,hs,hv,hb⟩;have hne:g≠b:=Nat.ne_of_lt (Nat.lt_of_lt_of_le (blk_lt HX.out) hgb);have HGB:=zqm (show w0.heap.size≤b from Nat.le_trans HB.out.size hgb);have n0_:=zqm (blk_below HX.out hb);have n1_:=zqm (below_step HB.out hb);clear HX HB HC;have HX:=n0_;have HB:=n1_;clear n0_ n1_;have HN:=zqm hne;have HU:=zqm hcur;have HS:=zqm hs;have HV:=zqm hv;clear hgb hcur hs hv hb hne;have hx3:w1.cell? ⟨g,3,none⟩=some .nilIface:=(blk_cell HX.out 3).trans rfl;have hx4:w1.cell? ⟨g,4,none⟩=some (.slice (some ⟨h,0,none⟩) 8 c):=(blk_cell HX.out 4).trans rfl;have hf3:=blk_frozen HX.out 3;have hf4:=blk_frozen HX.out 4)
 go_end0
 exact⟨rfl,b,cur,HGB.out,HN.out,blk_put (blk_put HX.out 3 _ rfl) 4 _ rfl,blk_far (blk_far HU.out (Ne.symm HN.out) _) (Ne.symm HN.out) _,HS.out,HV.out,below_set (below_set HB.out HG.out) HG.out⟩
set_option maxRecDepth 100000 in
set_option maxHeartbeats 4000000 in
theorem slow_calls (g h c : Nat) (w0 w : World) (hb : w.heap[g]? = some (.cells #[.int .u32 0, .int .i32 0, .int .u32 0, .nilIface, .slice (some ⟨h, 0, none⟩) 8 c] 73 (0, 0))) (H : Kd.C Kd.string w (some ⟨h, 0, none⟩) 8 dualL) (hB : Below w0.heap.size w0 w) (hg : w0.heap.size ≤ g) (hh : h ≠ g) :
 Calls Tryz.prog 37 #[.pointer (some ⟨g,0,none⟩),.func (.func 27) #[.pointer (some ⟨g,0,none⟩)] #[]] w fun e w'=>e= .returned (.tuple #[])∧ ∃b cur,w0.heap.size≤b∧g≠b∧w'.heap[g]? =some (.cells #[.int .u32 1,.int .i32 0,.int .u32 0,.iface 101 (.pointer (some ⟨b,0,none⟩)),.slice none 0 0] 73 (0,0))∧w'.heap[b]? =some (.cells cur 100 (0,0))∧cur.size=256∧(∀j,j<256→cur[j]? =some (.int .u8 (dT 4 j)))∧Below w0.heap.size w0 w':=by
 have h0:w.cell? ⟨g,0,none⟩=some (.int .u32 0):=(blk_cell hb 0).trans rfl
 have h1:w.cell? ⟨g,1,none⟩=some (.int .i32 0):=(blk_cell hb 1).trans rfl
 have f1:=blk_frozen hb 1
 have hl:=run_call_load (P:=Tryz.prog) Tryz.func40 zqk zqk zqk .u32 zqk (w:=w.setCell ⟨g,1,none⟩ (.int .i32 1)) (a:=⟨g,0,none⟩) (x:=0) ((World.cell?_setCell_other _ ⟨g,1,none⟩ ⟨g,0,none⟩ _ (by simp)).trans h0)
 have hnot: ∀(x:Bool) (w:World),(Op.unary .not (.bool x)).run Tryz.prog w= .ok (.bool (!x)) w:=fun _ _=>rfl
 have HX:=zqm (show (w.setCell ⟨g,1,none⟩ (.int .i32 1)).heap[g]? =some (.cells #[.int .u32 0,.int .i32 1,.int .u32 0,.nilIface,.slice (some ⟨h,0,none⟩) 8 c] 73 (0,0)) from blk_put hb 1 _ rfl)
 have HC:=zqm (show Kd.C Kd.string (w.setCell ⟨g,1,none⟩ (.int .i32 1)) (some ⟨h,0,none⟩) 8 dualL from C_block H (Below.heap_setCell w ⟨g,1,none⟩ _ h hh))
 have HB:=zqm (show Below w0.heap.size w0 (w.setCell ⟨g,1,none⟩ (.int .i32 1)) from below_set hB hg)
 have HG:=zqm hg
 have HH:=zqm hh
 clear hb H hB hg hh
 go_enter_defers Tryz.func37,Tryz.ntmps37
 go_wp2_with (first|(go_at_call 41;refine(lock_free ⟨g,1,none⟩ _ (by go_simp) (by go_simp)).mono ?_;rintro e w' ⟨rfl,rfl⟩)|(go_at_call 36;go_in)|(refine goesF_ _ rfl rfl Tryz.func27 zqk rfl #[] rfl rfl zq68 ?_;refine(buildOnce_calls g h c 0 1 0 w0 _ HX.out HC.out HB.out HG.out HH.out).mono ?_;rintro e w1 ⟨rfl,b,cur,hgb,hne,hx,hu,hs,hv,hb⟩;refine⟨_,rfl,?_⟩;clear HX HC HB;have HX:=zqm hx;have HU:=zqm hu;have HS:=zqm hs;have HV:=zqm hv;have HB:=zqm hb;have HGB:=zqm hgb;have HN:=zqm hne;clear hgb hne hx hu hs hv hb))
 refine leaves_cons (f:=43) (args:= #[.pointer (some ⟨g,0,none⟩),.bool true]) (by simp) (by simp [go_sem]) ?_
 refine(store_deferred ⟨g,0,none⟩ (.int .u32 0) .returning _ ((blk_cell HX.out 0).trans rfl) (blk_frozen HX.out 0)).mono ?_
 rintro e u' w'' ⟨rfl,rfl,rfl⟩
 have HY:=zqm (blk_put (blk_drew HX.out) 0 (.int .u32 1) rfl)
 refine leaves_cons (f:=42) (args:= #[.pointer (some ⟨g,1,none⟩)]) (by simp [settle]) (by simp [go_sem]) ?_
 refine(unlock_deferred ⟨g,1,none⟩ _ _ ((blk_cell HY.out 1).trans rfl) (blk_frozen HY.out 1)).mono ?_
 rintro e u' w'' ⟨rfl,rfl,rfl⟩
 have HZ: ∃b cur,w0.heap.size≤b∧g≠b∧((w1.drew.setCell ⟨g,0,none⟩ (.int .u32 1)).setCell ⟨g,1,none⟩ (.int .i32 0)).heap[g]? =some (.cells #[.int .u32 1,.int .i32 0,.int .u32 0,.iface 101 (.pointer (some ⟨b,0,none⟩)),.slice none 0 0] 73 (0,0))∧((w1.drew.setCell ⟨g,0,none⟩ (.int .u32 1)).setCell ⟨g,1,none⟩ (.int .i32 0)).heap[b]? =some (.cells cur 100 (0,0))∧cur.size=256∧(∀j,j<256→cur[j]? =some (.int .u8 (dT 4 j)))∧Below w0.heap.size w0 ((w1.drew.setCell ⟨g,0,none⟩ (.int .u32 1)).setCell ⟨g,1,none⟩ (.int .i32 0)):=⟨b,cur,HGB.out,HN.out,blk_put HY.out 1 _ rfl,blk_far (blk_far (blk_drew HU.out) (Ne.symm HN.out) _) (Ne.symm HN.out) _,HS.out,HV.out,below_set (below_set (below_drew1 HB.out) HG.out) HG.out⟩
 simp [Leaves,settle,results,Tryz.results37]
 simpa using HZ
set_option maxRecDepth 100000 in
set_option maxHeartbeats 4000000 in
theorem do_calls (g h c : Nat) (w0 w : World) (hb : w.heap[g]? = some (.cells #[.int .u32 0, .int .i32 0, .int .u32 0, .nilIface, .slice (some ⟨h, 0, none⟩) 8 c] 73 (0, 0))) (H : Kd.C Kd.string w (some ⟨h, 0, none⟩) 8 dualL) (hB : Below w0.heap.size w0 w) (hg : w0.heap.size ≤ g) (hh : h ≠ g) :
 Calls Tryz.prog 26 #[.pointer (some ⟨g,0,none⟩),.func (.func 27) #[.pointer (some ⟨g,0,none⟩)] #[]] w fun e w'=>e= .returned (.tuple #[])∧ ∃b cur,w0.heap.size≤b∧g≠b∧w'.heap[g]? =some (.cells #[.int .u32 1,.int .i32 0,.int .u32 0,.iface 101 (.pointer (some ⟨b,0,none⟩)),.slice none 0 0] 73 (0,0))∧w'.heap[b]? =some (.cells cur 100 (0,0))∧cur.size=256∧(∀j,j<256→cur[j]? =some (.int .u8 (dT 4 j)))∧Below w0.heap.size w0 w':=by
 have h0:w.cell? ⟨g,0,none⟩=some (.int .u32 0):=(blk_cell hb 0).trans rfl
 have hl:=run_call_load (P:=Tryz.prog) Tryz.func40 zqk zqk zqk .u32 zqk h0
 have hnot: ∀(x:Bool) (w:World),(Op.unary .not (.bool x)).run Tryz.prog w= .ok (.bool (!x)) w:=fun _ _=>rfl
 have HX:=zqm hb
 have HC:=zqm H
 have HB:=zqm hB
 have HG:=zqm hg
 have HH:=zqm hh
 clear hb H hB hg hh
 go_enter Tryz.func26,Tryz.ntmps26
 go_wp2_with (first|(go_at_call 37;refine(slow_calls g h c w0 _ HX.out HC.out HB.out HG.out HH.out).mono ?_;rintro e w1 ⟨rfl,hq⟩;have HQ:=zqm hq;clear hq)|(go_at_call 36;go_in))
 go_end0
 exact⟨rfl,HQ.out⟩
end Go.Proofs.YtbomiegcbimgoaaGreat.Print
end
section
namespace Go.Proofs.YtbomiegcbimgoaaGreat.Print
open Go.RowKit Go.Proofs.YtbomiegcbimgoaaGreatW.PrintWords Go.Proofs.YtbomiegcbimgoaaGreatW.PrintLast Go.Proofs.YtbomiegcbimgoaaGreatW.PrintMore
open Oml
inductive Fm where
 | leaf (c : Int)
 | neg (f : Fm)
 | bin (o : Int) (f g : Fm)
def isLeaf (c : Int) : Prop := c = 97 ∨ c = 98 ∨ c = 99 ∨ c = 48 ∨ c = 49
instance (c : Int) : Decidable (isLeaf c) := by unfold isLeaf; infer_instance
def rdF : Nat → ByteArray → Option (Fm × ByteArray)
 |0,_=>none
 |k+1,s=>
  if s.size=0 then none
  else if isLeaf (bt s 0) then some (.leaf (bt s 0),s.extract 1 s.size)
  else if bt s 0=33 then
   match rdF k (s.extract 1 s.size) with
   |none=>none
   |some (f,r)=>some (.neg f,r)
  else if bt s 0=40 then
   match rdF k (s.extract 1 s.size) with
   |none=>none
   |some (f,r)=>
    if r.size=0 then none
    else if bt r 0=38∨bt r 0=124 then
     match rdF k (r.extract 1 r.size) with
     |none=>none
     |some (g,q)=>
      if q.size=0 then none
      else if bt q 0=41 then some (.bin (bt r 0) f g,q.extract 1 q.size)
      else none
    else none
  else none
theorem ext_size (s : ByteArray) : (s.extract 1 s.size).size = s.size - 1 := by rw [ByteArray.size_extract]; omega
theorem rdF_size : ∀ (k : Nat) (s : ByteArray) (f : Fm) (r : ByteArray), rdF k s = some (f, r) → r.size < s.size
 |0,_,_,_,h=>by simp [rdF] at h
 |k+1,s,f,r,h=>by
  have ih:=rdF_size k
  simp only [rdF] at h
  split at h
  ·cases h
  ·rename_i h0
   split at h
   ·cases h;rw [ext_size];omega
   ·split at h
    ·split at h
     ·cases h
     ·rename_i f1 r1 h1
      cases h
      have:=ih _ _ _ h1
      rw [ext_size] at this;omega
    ·split at h
     ·split at h
      ·cases h
      ·rename_i f1 r1 h1
       have h2:=ih _ _ _ h1
       rw [ext_size] at h2
       split at h
       ·cases h
       ·split at h
        ·split at h
         ·cases h
         ·rename_i g q h3
          have h4:=ih _ _ _ h3
          rw [ext_size] at h4
          split at h
          ·cases h
          ·split at h
           ·cases h;rw [ext_size];omega
           ·cases h
        ·cases h
     ·cases h
def fmOf (s : ByteArray) : Option Fm :=
 if 60 < s.size then none
 else match rdF s.size s with
  | none => none
  | some (f, r) => if r.size = 0 then some f else none
def FAt (W : World) : Nat → Fm → Prop
 |p,.leaf c=>W.heap[p]? =some (.cells #[.int .u8 c,.slice none 0 0] 87 (0,0))
 |p,.neg f=> ∃q a c,W.heap[p]? =some (.cells #[.int .u8 33,.slice (some ⟨a,0,none⟩) 1 c] 87 (0,0))∧W.cell? ⟨a,0,none⟩=some (.pointer (some ⟨q,0,none⟩))∧FAt W q f
 |p,.bin o f g=> ∃q r a c,W.heap[p]? =some (.cells #[.int .u8 o,.slice (some ⟨a,0,none⟩) 2 c] 87 (0,0))∧W.cell? ⟨a,0,none⟩=some (.pointer (some ⟨q,0,none⟩))∧W.cell? ⟨a,1,none⟩=some (.pointer (some ⟨r,0,none⟩))∧FAt W q f∧FAt W r g
theorem FAt.below {W W1 : World} (hb : Below W.heap.size W W1) : ∀ (f : Fm) (p : Nat), FAt W p f → FAt W1 p f
 | .leaf c,p,h=>blk_below h hb
 | .neg f,p,⟨q,a,c,h1,h2,h3⟩=>⟨q,a,c,blk_below h1 hb,cell_up h2 hb rfl,FAt.below hb f q h3⟩
 | .bin o f g,p,⟨q,r,a,c,h1,h2,h3,h4,h5⟩=>⟨q,r,a,c,blk_below h1 hb,cell_up h2 hb rfl,cell_up h3 hb rfl,FAt.below hb f q h4,FAt.below hb g r h5⟩
def RdPost (w : World) (s : ByteArray) (o : Option (Fm × ByteArray)) (e : Ending) (w' : World) : Prop :=
 Below w.heap.size w w'∧match o with
  |none=>e= .returned (.tuple #[.pointer none,.string s])
  |some (f,r)=> ∃p,e= .returned (.tuple #[.pointer (some ⟨p,0,none⟩),.string r])∧FAt w' p f
theorem size_al (W : World) (o : Obj) : (W.alloc o).heap.size = W.heap.size + 1 := by first | (simp; done) | (unfold World.alloc; simp; done) | rfl
theorem blk2 (W : World) (o q : Obj) : ((W.alloc o).alloc q).heap[W.heap.size + 1]? = some q ∧ ((W.alloc o).alloc q).heap[W.heap.size]? = some o := by
 have h:=(MapKept.heap_alloc (W.alloc o) q).1
 rw [size_al] at h
 exact⟨h,blk_alloc (MapKept.heap_alloc W o).1 q⟩
theorem str_nil {s : ByteArray} (h : s.size = 0) : s.toList = [] := by
 rw [ByteArray.toList_eq]
 have h2:s.data.size=0:=h
 exact List.eq_nil_of_length_eq_zero (by rw [Array.length_toList];exact h2)
theorem str_ne {s : ByteArray} (h : 0 < s.size) : s.toList.isEmpty = false ∧ (s.toList == []) = false := by
 have h1:s.toList≠ []:=by
  rw [ByteArray.toList_eq]
  intro e
  have h2:s.data.size=0:=by rw [← Array.length_toList,e];rfl
  have h3:s.size=0:=h2
  omega
 cases hl:s.toList with
 |nil=>exact absurd hl h1
 |cons a l=>exact⟨rfl,rfl⟩
theorem read_empty (k : Nat) (s : ByteArray) (w : World) (h : s.size = 0) : Calls Tryz.prog 29 #[.string s] w (RdPost w s (rdF k s)) := by
 have hr:rdF k s=none:=by cases k <;> simp [rdF,h]
 rw [hr]
 have h1:=str_nil h
 have h2:(s.toList== [])=true:=by rw [h1];rfl
 have h3:s.toList.isEmpty=true:=by rw [h1];rfl
 clear hr h
 go_enter Tryz.func29,Tryz.ntmps29
 go_wp2_with fail
 go_ret2
 exact⟨Below.refl _ _,rfl⟩
def impl_readFormula.T9 : Bool × List (List Nat × List Nat) := (true, [([], []), ([0], [0]), ([1], [1]), ([2], [2]), ([], []), ([4], [4]), ([3, 0, 1, 2, 3], [3]), ([5, 6, 0, 1, 2, 3, 4, 5, 6], [5])])
def impl_readFormula.B9 : List Nat := [0, 1, 3, 7, 0, 16, 15, 127]
theorem impl_readFormula.tab9 : rtab .any (opsOf Tryz.f29 9) = impl_readFormula.T9 := by kernel_rfl
theorem impl_readFormula.bits9 : waitsOk impl_readFormula.T9.2 impl_readFormula.B9 = true := by kernel_rfl
def impl_readFormula.T22 : Bool × List (List Nat × List Nat) := (true, [([], []), ([0], [0]), ([], []), ([], []), ([2, 3], [2, 3]), ([1, 4], [1, 4]), ([5], [5]), ([], []), ([7], [7]), ([6, 0, 1, 2, 3, 4, 5, 6], [6]), ([8, 9, 0, 1, 2, 3, 4, 5, 6, 7, 8, 9], [8])])
def impl_readFormula.B22 : List Nat := [0, 1, 0, 0, 12, 31, 63, 0, 128, 127, 1023]
theorem impl_readFormula.tab22 : rtab .any (opsOf Tryz.f29 22) = impl_readFormula.T22 := by kernel_rfl
theorem impl_readFormula.bits22 : waitsOk impl_readFormula.T22.2 impl_readFormula.B22 = true := by kernel_rfl
theorem read_leaf (k : Nat) (s : ByteArray) (w : World) (hp : 0 < s.size) (c : Int) (hc : bt s 0 = c) (hl : isLeaf c) : Calls Tryz.prog 29 #[.string s] w (RdPost w s (rdF (k + 1) s)) := by
 have hr:rdF (k+1) s=some (.leaf (bt s 0),s.extract 1 s.size):=by simp only [rdF];rw [if_neg (by omega),if_pos (by rw [hc];exact hl)]
 rw [hr]
 obtain⟨n1,n2⟩:=str_ne hp
 have n3:decide (0<s.size)=true:=decide_eq_true hp
 have n4:decide (1≤s.size)=true:=decide_eq_true hp
 have n5:=eq_true hp
 have n7: ∀h:0<s.size,((s[0]'h).toNat:Int)=bt s 0:=fun h=>bt_at s 0 h
 have n6:decide ((1:Int)≤(s.size:Int))=true:=decide_eq_true (by omega);have n8:((1:Int)≤(s.size:Int))=True:=eq_true (by omega)
 unfold isLeaf at hl
 clear hr
 rcases hl with hl|hl|hl|hl|hl
 all_goals
  subst hl
  have t97:(bt s 0==97)=(bt s 0==97):=rfl
  have e97:(bt s 0==97)=_:=congrArg (fun x:Int=>x==97) hc
  have e98:(bt s 0==98)=_:=congrArg (fun x:Int=>x==98) hc
  have e99:(bt s 0==99)=_:=congrArg (fun x:Int=>x==99) hc
  have e48:(bt s 0==48)=_:=congrArg (fun x:Int=>x==48) hc
  have e49:(bt s 0==49)=_:=congrArg (fun x:Int=>x==49) hc
  clear t97 hc
  go_enter Tryz.func29,Tryz.ntmps29
  go_wp2_with fail
  refine start_ (n:=8) (S:=(fun _=>True)) (ds:= []) (zqb 8 0) zqk rfl rfl True.intro (fun hHeld=>?_)
  refine with_tabW impl_readFormula.tab9 impl_readFormula.bits9 (fun HT_ HW_=>?_)
  generalize hwd:w.drew=wd at hHeld ⊢
  have HB:=zqm (show Below w.heap.size w wd from hwd ▸ below_drew1 (Below.refl _ _))
  clear hwd
  refine zqp 0 21 (zqb 8 1) HT_ ?_
  refine zqp 1 22 (zqb 8 3) HT_ ?_
  refine zqp 2 23 (zqb 8 7) HT_ ?_
  refine zqp 4 25 (zqb 8 23) HT_ ?_
  refine zqp 5 26 (zqb 8 55) HT_ ?_
  refine one_ (i:=3) (N:=some 24) (zqb 8 63) rfl rfl (one_of HT_.out zqk) (by decide) (fun K hK=>?_)
  refine box_step (cs:= #[.int .u8 (bt s 0),.slice none 0 0]) (t:=87) (N:=24) (by rfl) (by rfl) ?hr1 ?_
  case hr1=>first|(go_simp;done)|(go_simp;rfl)
  intro p hp w1 hbox hb
  have HX:=zqm hbox
  have HB1:=zqm (below_step HB.out hb)
  refine hK.out _ _ True.intro (fun hHeld1=>?_)
  clear hK K hbox hb hp HB
  refine norm_ (a':=?_) ?_ ?_
  rotate_left
  ·show Act.put _ (some 24) _=_
   simp only [Act.put,List.setIfInBounds_toArray,List.set_cons_zero,List.set_cons_succ,i64_w,i32_w]
   rfl
  refine zqp 6 2 (zqb 8 127) HT_ ?_
  refine zqp 7 3 (zqb 8 255) HT_ ?_
  refine done_ (done_of HT_.out zqk) ?_
  go_wp2
  go_ret2
  exact⟨by repeat(first|exact HB1.out|apply pw_below_drewN|apply below_drew1),p,rfl,HX.out⟩
theorem rd_neg {k : Nat} {s : ByteArray} (hp : 0 < s.size) (hc : bt s 0 = 33) : rdF (k + 1) s = match rdF k (s.extract 1 s.size) with | none => none | some (f, r) => some (.neg f, r) := by
 simp only [rdF];rw [if_neg (by omega),if_neg (by rw [hc];unfold isLeaf;omega),if_pos hc]
 all_goals (cases rdF k (s.extract 1 s.size) <;> rfl)
theorem rd_par {k : Nat} {s : ByteArray} (hp : 0 < s.size) (hc : bt s 0 = 40) : rdF (k + 1) s = match rdF k (s.extract 1 s.size) with
 |none=>none
 |some (f,r)=>
  if r.size=0 then none
  else if bt r 0=38∨bt r 0=124 then
   match rdF k (r.extract 1 r.size) with
   |none=>none
   |some (g,q)=>
    if q.size=0 then none
    else if bt q 0=41 then some (.bin (bt r 0) f g,q.extract 1 q.size)
    else none
  else none:=by
 simp only [rdF];rw [if_neg (by omega),if_neg (by rw [hc];unfold isLeaf;omega),if_neg (by rw [hc];omega),if_pos hc]
 all_goals
  rcases rdF k (s.extract 1 s.size) with _|⟨f,r⟩
  ·rfl
  simp only []
  split
  ·rfl
  split
  ·rcases rdF k (r.extract 1 r.size) with _|⟨g,q⟩ <;> rfl
  ·rfl
set_option maxHeartbeats 4000000 in
set_option maxRecDepth 100000 in
theorem read_calls : ∀ (k : Nat) (s : ByteArray) (w : World), s.size ≤ k → Calls Tryz.prog 29 #[.string s] w (RdPost w s (rdF k s)) := by
 intro k
 induction k with
 |zero=>intro s w h;exact read_empty 0 s w (by omega)
 |succ k ih=>
 intro s w hk
 rcases Nat.eq_zero_or_pos s.size with h0|hp
 ·exact read_empty _ s w h0
 by_cases hl:isLeaf (bt s 0)
 ·exact read_leaf k s w hp _ rfl hl
 obtain⟨n1,n2⟩:=str_ne hp
 have n3:decide (0<s.size)=true:=decide_eq_true hp
 have n4:decide (1≤s.size)=true:=decide_eq_true hp
 have n5:=eq_true hp
 have n7: ∀h:0<s.size,((s[0]'h).toNat:Int)=bt s 0:=fun h=>bt_at s 0 h
 have n6:decide ((1:Int)≤(s.size:Int))=true:=decide_eq_true (by omega);have n8:((1:Int)≤(s.size:Int))=True:=eq_true (by omega)
 have HK:=zqm (show (s.extract 1 s.size).size≤k by rw [ext_size];omega)
 have IH:=zqm ih
 by_cases hc:bt s 0=33
 ·rw [rd_neg hp hc]
  cases hrd:rdF k (s.extract 1 s.size) with
  |none=>
   have HRD:=zqm hrd
   have z97:(bt s 0==97)=false:=by rw [hc];rfl
   have z98:(bt s 0==98)=false:=by rw [hc];rfl
   have z99:(bt s 0==99)=false:=by rw [hc];rfl
   have z48:(bt s 0==48)=false:=by rw [hc];rfl
   have z49:(bt s 0==49)=false:=by rw [hc];rfl
   have q33:(bt s 0==33)=true:=by rw [hc];rfl
   clear ih hk hl hc hrd hp
   go_enter Tryz.func29,Tryz.ntmps29
   go_wp2_with (go_at_call 29;(with_reducible refine(IH.out (s.extract 1 s.size) _ HK.out).mono ?_);rintro e w2 ⟨hb,hm⟩;rw [HRD.out] at hm;obtain rfl:=hm;have HB:=zqm hb;clear hb)
   go_ret2
   exact⟨HB.out,rfl⟩
  |some fr=>
   obtain⟨f,r⟩:=fr
   have HRD:=zqm hrd
   have z97:(bt s 0==97)=false:=by rw [hc];rfl
   have z98:(bt s 0==98)=false:=by rw [hc];rfl
   have z99:(bt s 0==99)=false:=by rw [hc];rfl
   have z48:(bt s 0==48)=false:=by rw [hc];rfl
   have z49:(bt s 0==49)=false:=by rw [hc];rfl
   have q33:(bt s 0==33)=true:=by rw [hc];rfl
   clear ih hk hl hc hrd hp
   go_enter Tryz.func29,Tryz.ntmps29
   go_wp2_with (go_at_call 29;(with_reducible refine(IH.out (s.extract 1 s.size) _ HK.out).mono ?_);rintro e w2 ⟨hb,hm⟩;rw [HRD.out] at hm;obtain⟨p,rfl,hf⟩:=hm;have HB:=zqm hb;have HF:=zqm hf;clear hb hf)
   go_ret2
   have h2:=blk2 w2 (.cells #[.pointer (some ⟨p,0,none⟩)] 41) (.cells #[.int .u8 33,.slice (some ⟨w2.heap.size,0,none⟩) 1 1] 87)
   exact⟨below_alloc (below_alloc HB.out _) _,w2.heap.size+1,rfl,p,w2.heap.size,1,h2.1,(blk_cell h2.2 0).trans rfl,FAt.below (below_alloc (below_alloc (Below.refl _ _) _) _) f p HF.out⟩
 by_cases hc2:bt s 0=40
 ·rw [rd_par hp hc2]
  cases hrd:rdF k (s.extract 1 s.size) with
  |none=>
   have HRD:=zqm hrd
   have z97:(bt s 0==97)=false:=by rw [hc2];rfl
   have z98:(bt s 0==98)=false:=by rw [hc2];rfl
   have z99:(bt s 0==99)=false:=by rw [hc2];rfl
   have z48:(bt s 0==48)=false:=by rw [hc2];rfl
   have z49:(bt s 0==49)=false:=by rw [hc2];rfl
   have z33:(bt s 0==33)=false:=by rw [hc2];rfl
   have q40:(bt s 0==40)=true:=by rw [hc2];rfl
   clear ih hk hl hc hc2 hrd hp
   go_enter Tryz.func29,Tryz.ntmps29
   go_wp2_with (go_at_call 29;(with_reducible refine(IH.out (s.extract 1 s.size) _ HK.out).mono ?_);rintro e w2 ⟨hb,hm⟩;rw [HRD.out] at hm;obtain rfl:=hm;have HB:=zqm hb;clear hb)
   go_ret2
   exact⟨HB.out,rfl⟩
  |some fr=>
   obtain⟨f,r⟩:=fr
   have HRD:=zqm hrd
   have HRS:=zqm (rdF_size _ _ _ _ hrd)
   have z97:(bt s 0==97)=false:=by rw [hc2];rfl
   have z98:(bt s 0==98)=false:=by rw [hc2];rfl
   have z99:(bt s 0==99)=false:=by rw [hc2];rfl
   have z48:(bt s 0==48)=false:=by rw [hc2];rfl
   have z49:(bt s 0==49)=false:=by rw [hc2];rfl
   have z33:(bt s 0==33)=false:=by rw [hc2];rfl
   have q40:(bt s 0==40)=true:=by rw [hc2];rfl
   clear ih hk hl hc hc2 hrd
   simp only []
   by_cases hr0:r.size=0
   ·rw [if_pos hr0]
    have m1:=str_nil hr0
    have m2:(r.toList== [])=true:=by rw [m1];rfl
    have m3:r.toList.isEmpty=true:=by rw [m1];rfl
    clear hr0 hp
    go_enter Tryz.func29,Tryz.ntmps29
    go_wp2_with (go_at_call 29;(with_reducible refine(IH.out (s.extract 1 s.size) _ HK.out).mono ?_);rintro e w2 ⟨hb,hm⟩;rw [HRD.out] at hm;obtain⟨p,rfl,hf⟩:=hm;have HB:=zqm hb;have HF:=zqm hf;clear hb hf)
    go_ret2
    exact⟨HB.out,rfl⟩
   rw [if_neg hr0]
   obtain⟨m1,m2⟩:=str_ne (s:=r) (by omega)
   have m3:decide (0<r.size)=true:=decide_eq_true (by omega)
   have m4:decide (1≤r.size)=true:=decide_eq_true (by omega)
   have m5:=eq_true (show 0<r.size by omega)
   have m7: ∀h:0<r.size,((r[0]'h).toNat:Int)=bt r 0:=fun h=>bt_at r 0 h
   have m6:decide ((1:Int)≤(r.size:Int))=true:=decide_eq_true (by omega);have m8:((1:Int)≤(r.size:Int))=True:=eq_true (by omega)
   have HK2:=zqm (show (r.extract 1 r.size).size≤k by rw [ext_size];have:=HRS.out;have:=HK.out;rw [ext_size] at*;omega)
   clear hr0 hp
   by_cases ho:bt r 0=38∨bt r 0=124
   ·rw [if_pos ho]
    have HO:=zqm ho
    have o1:((bt r 0 !=38)=false∨((bt r 0 !=38)=true∧(bt r 0 !=124)=false)):=by
     rcases ho with e|e
     ·left;rw [e];rfl
     ·right;rw [e];exact⟨rfl,rfl⟩
    clear ho
    have key: ∀(o:Option (Fm × ByteArray)),rdF k (r.extract 1 r.size)=o→Calls Tryz.prog 29 #[.string s] w (RdPost w s (match o with
     |none=>none
     |some (g,q)=>if q.size=0 then none else if bt q 0=41 then some (.bin (bt r 0) f g,q.extract 1 q.size) else none)):=by
     intro o ho
     have HO2:=zqm ho
     clear ho
     cases o with
     |none=>
      rcases o1 with o1|⟨o1,o2⟩
      all_goals
       go_enter Tryz.func29,Tryz.ntmps29
       go_wp2_with (first|(go_at_call 29;(with_reducible refine(IH.out (s.extract 1 s.size) _ HK.out).mono ?_);rintro e w2 ⟨hb,hm⟩;rw [HRD.out] at hm;obtain⟨p,rfl,hf⟩:=hm;have HB:=zqm hb;have HF:=zqm hf;clear hb hf)|(go_at_call 29;(with_reducible refine(IH.out (r.extract 1 r.size) _ HK2.out).mono ?_);rintro e w3 ⟨hb,hm⟩;rw [HO2.out] at hm;obtain rfl:=hm;have HB3:=zqm (below_step HB.out hb);clear hb))
       go_ret2
       exact⟨HB3.out,rfl⟩
     |some gq=>
      obtain⟨g,q2⟩:=gq
      simp only []
      by_cases hq0:q2.size=0
      ·rw [if_pos hq0]
       have u1:=str_nil hq0
       have u2:(q2.toList== [])=true:=by rw [u1];rfl
       have u3:q2.toList.isEmpty=true:=by rw [u1];rfl
       clear hq0
       rcases o1 with o1|⟨o1,o2⟩
       all_goals
        go_enter Tryz.func29,Tryz.ntmps29
        go_wp2_with (first|(go_at_call 29;(with_reducible refine(IH.out (s.extract 1 s.size) _ HK.out).mono ?_);rintro e w2 ⟨hb,hm⟩;rw [HRD.out] at hm;obtain⟨p,rfl,hf⟩:=hm;have HB:=zqm hb;have HF:=zqm hf;clear hb hf)|(go_at_call 29;(with_reducible refine(IH.out (r.extract 1 r.size) _ HK2.out).mono ?_);rintro e w3 ⟨hb,hm⟩;rw [HO2.out] at hm;obtain⟨q,rfl,hf⟩:=hm;have HB3:=zqm (below_step HB.out hb);clear hb hf))
        go_ret2
        exact⟨HB3.out,rfl⟩
      rw [if_neg hq0]
      obtain⟨u1,u2⟩:=str_ne (s:=q2) (by omega)
      have u3:decide (0<q2.size)=true:=decide_eq_true (by omega)
      have u4:decide (1≤q2.size)=true:=decide_eq_true (by omega)
      have u5:=eq_true (show 0<q2.size by omega)
      have u7: ∀h:0<q2.size,((q2[0]'h).toNat:Int)=bt q2 0:=fun h=>bt_at q2 0 h
      have u6:decide ((1:Int)≤(q2.size:Int))=true:=decide_eq_true (by omega);have u8:((1:Int)≤(q2.size:Int))=True:=eq_true (by omega)
      clear hq0
      by_cases hq:bt q2 0=41
      ·rw [if_pos hq]
       have v1:(bt q2 0 !=41)=false:=by rw [hq];rfl
       clear hq
       rcases o1 with o1|⟨o1,o2⟩
       all_goals
        go_enter Tryz.func29,Tryz.ntmps29
        go_wp2_with (first|(go_at_call 29;(with_reducible refine(IH.out (s.extract 1 s.size) _ HK.out).mono ?_);rintro e w2 ⟨hb,hm⟩;rw [HRD.out] at hm;obtain⟨p,rfl,hf⟩:=hm;have HB:=zqm hb;have HF:=zqm hf;clear hb hf)|(go_at_call 29;(with_reducible refine(IH.out (r.extract 1 r.size) _ HK2.out).mono ?_);rintro e w3 ⟨hb,hm⟩;rw [HO2.out] at hm;obtain⟨q,rfl,hf⟩:=hm;have HB3:=zqm (below_step HB.out hb);have HF3:=zqm (FAt.below hb f p HF.out);have HG3:=zqm hf;clear hb hf HB HF))
        refine start_ (n:=11) (S:=(fun _=>True)) (ds:= []) (zqb 11 0) zqk rfl rfl True.intro (fun hHeld=>?_)
        refine with_tabW impl_readFormula.tab22 impl_readFormula.bits22 (fun HT_ HW_=>?_)
        generalize hwd:w3.drew=wd at hHeld ⊢
        have HB4:=zqm (show Below w.heap.size w wd from hwd ▸ below_drew1 HB3.out)
        have HFf:=zqm (show FAt wd p f from hwd ▸ FAt.below (below_drew1 (Below.refl _ _)) f p HF3.out)
        have HFg:=zqm (show FAt wd q g from hwd ▸ FAt.below (below_drew1 (Below.refl _ _)) g q HG3.out)
        clear hwd HB3 HF3 HG3
        refine zqp 0 86 (zqb 11 1) HT_ ?_
        refine zqp 1 87 (zqb 11 3) HT_ ?_
        refine zqp 2 88 (zqb 11 7) HT_ ?_
        refine zqp 3 89 (zqb 11 15) HT_ ?_
        refine zqp 7 93 (zqb 11 143) HT_ ?_
        refine zqp 8 94 (zqb 11 399) HT_ ?_
        refine one_ (i:=4) (N:=some 90) (zqb 11 415) rfl rfl (one_of HT_.out zqk) (by decide) (fun K hK=>?_)
        refine event_step (w1:=World.alloc wd (.cells #[.pointer (some ⟨p,0,none⟩),.pointer (some ⟨q,0,none⟩)] 41)) (v:= .slice (some ⟨wd.heap.size,0,none⟩) 2 2) (by rfl) ?hr1 ?_
        case hr1=>first|(go_simp;done)|(go_simp;rfl)
        have HA:=zqm (MapKept.heap_alloc wd (.cells #[.pointer (some ⟨p,0,none⟩),.pointer (some ⟨q,0,none⟩)] 41)).1
        have HB5:=zqm (below_alloc HB4.out (.cells #[.pointer (some ⟨p,0,none⟩),.pointer (some ⟨q,0,none⟩)] 41))
        have HFf5:=zqm (FAt.below (below_alloc (Below.refl _ _) (.cells #[.pointer (some ⟨p,0,none⟩),.pointer (some ⟨q,0,none⟩)] 41)) f p HFf.out)
        have HFg5:=zqm (FAt.below (below_alloc (Below.refl _ _) (.cells #[.pointer (some ⟨p,0,none⟩),.pointer (some ⟨q,0,none⟩)] 41)) g q HFg.out)
        obtain⟨ag,hag⟩: ∃ag,ag=wd.heap.size:=⟨_,rfl⟩
        rw [← hag] at HA ⊢
        generalize World.alloc wd (.cells #[.pointer (some ⟨p,0,none⟩),.pointer (some ⟨q,0,none⟩)] 41)=w5 at HA HB5 HFf5 HFg5 ⊢
        clear hag HB4 HFf HFg
        refine hK.out _ _ True.intro (fun hHeld1=>?_)
        clear hK K
        refine norm_ (a':=?_) ?_ ?_
        rotate_left
        ·show Act.put _ (some 90) _=_
         simp only [Act.put,List.setIfInBounds_toArray,List.set_cons_zero,List.set_cons_succ,i64_w,i32_w]
         rfl
        refine zqp 5 91 (zqb 11 447) HT_ ?_
        refine one_ (i:=6) (N:=some 92) (zqb 11 511) rfl rfl (one_of HT_.out zqk) (by decide) (fun K hK=>?_)
        refine box_step (cs:= #[.int .u8 (bt r 0),.slice (some ⟨ag,0,none⟩) 2 2]) (t:=87) (N:=92) (by rfl) (by rfl) ?hr2 ?_
        case hr2=>first|(go_simp;done)|(go_simp;rfl)
        intro pp hp w6 hbox hb
        have HX:=zqm hbox
        have HB6:=zqm (below_step HB5.out hb)
        have HA6:=zqm (blk_below HA.out hb)
        have HFf6:=zqm (FAt.below hb f p HFf5.out)
        have HFg6:=zqm (FAt.below hb g q HFg5.out)
        refine hK.out _ _ True.intro (fun hHeld2=>?_)
        clear hK K hbox hb hp HB5 HA HFf5 HFg5
        refine norm_ (a':=?_) ?_ ?_
        rotate_left
        ·show Act.put _ (some 92) _=_
         simp only [Act.put,List.setIfInBounds_toArray,List.set_cons_zero,List.set_cons_succ,i64_w,i32_w]
         rfl
        refine zqp 9 2 (zqb 11 1023) HT_ ?_
        refine zqp 10 3 (zqb 11 2047) HT_ ?_
        refine done_ (done_of HT_.out zqk) ?_
        go_wp2
        go_ret2
        exact⟨by repeat(first|exact HB6.out|apply pw_below_drewN|apply below_drew1),pp,rfl,p,q,ag,2,HX.out,(blk_cell HA6.out 0).trans rfl,(blk_cell HA6.out 1).trans rfl,HFf6.out,HFg6.out⟩
      ·rw [if_neg hq]
       have v1:(bt q2 0 !=41)=true:=bne_iff_ne.2 hq
       clear hq
       rcases o1 with o1|⟨o1,o2⟩
       all_goals
        go_enter Tryz.func29,Tryz.ntmps29
        go_wp2_with (first|(go_at_call 29;(with_reducible refine(IH.out (s.extract 1 s.size) _ HK.out).mono ?_);rintro e w2 ⟨hb,hm⟩;rw [HRD.out] at hm;obtain⟨p,rfl,hf⟩:=hm;have HB:=zqm hb;have HF:=zqm hf;clear hb hf)|(go_at_call 29;(with_reducible refine(IH.out (r.extract 1 r.size) _ HK2.out).mono ?_);rintro e w3 ⟨hb,hm⟩;rw [HO2.out] at hm;obtain⟨q,rfl,hf⟩:=hm;have HB3:=zqm (below_step HB.out hb);clear hb hf))
        go_ret2
        exact⟨HB3.out,rfl⟩
    exact key _ rfl
   ·rw [if_neg ho]
    have o1:(bt r 0 !=38)=true:=bne_iff_ne.2 (fun e=>ho (.inl e))
    have o2:(bt r 0 !=124)=true:=bne_iff_ne.2 (fun e=>ho (.inr e))
    clear ho
    go_enter Tryz.func29,Tryz.ntmps29
    go_wp2_with (go_at_call 29;(with_reducible refine(IH.out (s.extract 1 s.size) _ HK.out).mono ?_);rintro e w2 ⟨hb,hm⟩;rw [HRD.out] at hm;obtain⟨p,rfl,hf⟩:=hm;have HB:=zqm hb;have HF:=zqm hf;clear hb hf)
    go_ret2
    exact⟨HB.out,rfl⟩
 ·have hr:rdF (k+1) s=none:=by simp only [rdF];rw [if_neg (by omega),if_neg hl,if_neg hc,if_neg hc2]
  rw [hr]
  unfold isLeaf at hl
  have z97:(bt s 0==97)=false:=beq_eq_false_iff_ne.2 (fun e=>by simp [e] at hl)
  have z98:(bt s 0==98)=false:=beq_eq_false_iff_ne.2 (fun e=>by simp [e] at hl)
  have z99:(bt s 0==99)=false:=beq_eq_false_iff_ne.2 (fun e=>by simp [e] at hl)
  have z48:(bt s 0==48)=false:=beq_eq_false_iff_ne.2 (fun e=>by simp [e] at hl)
  have z49:(bt s 0==49)=false:=beq_eq_false_iff_ne.2 (fun e=>by simp [e] at hl)
  have z33:(bt s 0==33)=false:=beq_eq_false_iff_ne.2 (fun e=>by simp [e] at hc)
  have z40:(bt s 0==40)=false:=beq_eq_false_iff_ne.2 (fun e=>by simp [e] at hc2)
  clear ih hk hl hc hc2 hr hp
  go_enter Tryz.func29,Tryz.ntmps29
  go_wp2_with fail
  go_ret2
  exact⟨Below.refl _ _,rfl⟩
theorem formulaOf_calls (s : ByteArray) (w : World) : Calls Tryz.prog 17 #[.string s] w fun e w' => Below w.heap.size w w' ∧ match fmOf s with
 |none=>e= .returned (.pointer none)
 |some f=> ∃p,e= .returned (.pointer (some ⟨p,0,none⟩))∧FAt w' p f:=by
 unfold fmOf
 by_cases h:60<s.size
 ·have d1:decide ((60:Int)<(s.size:Int))=true:=decide_eq_true (by omega)
  have d2:decide (60<s.size)=true:=decide_eq_true h
  rw [if_pos h]
  clear h
  go_enter Tryz.func17,Tryz.ntmps17
  go_wp2_with fail
  go_ret
  exact⟨Below.refl _ _,rfl⟩
 ·have d1:decide ((60:Int)<(s.size:Int))=false:=decide_eq_false (by omega)
  have d2:decide (60<s.size)=false:=decide_eq_false h
  rw [if_neg h]
  have HR:=zqm (read_calls s.size s w (Nat.le_refl _))
  clear h
  generalize rdF s.size s=o at HR ⊢
  cases o with
  |none=>
   have key: ∀x:ByteArray,x=s→Calls Tryz.prog 17 #[.string s] w fun e w'=>Below w.heap.size w w'∧e= .returned (.pointer none):=by
    intro x hx
    by_cases h0:s.size=0
    ·have m1:=str_nil h0
     have m2:(s.toList != [])=false:=by rw [m1];rfl
     have m3:s.toList.isEmpty=true:=by rw [m1];rfl
     clear h0
     go_enter Tryz.func17,Tryz.ntmps17
     go_wp2_with (go_at_call 29;(with_reducible refine HR.out.mono ?_);rintro e w2 ⟨hb,rfl⟩;have HB:=zqm hb;clear hb)
     go_ret
     exact⟨HB.out,rfl⟩
    ·obtain⟨m1,m2⟩:=str_ne (s:=s) (by omega)
     have m3:(s.toList != [])=true:=by rw [bne,m2];rfl
     clear h0
     go_enter Tryz.func17,Tryz.ntmps17
     go_wp2_with (go_at_call 29;(with_reducible refine HR.out.mono ?_);rintro e w2 ⟨hb,rfl⟩;have HB:=zqm hb;clear hb)
     go_ret
     exact⟨HB.out,rfl⟩
   exact key _ rfl
  |some fr=>
   obtain⟨f,r⟩:=fr
   simp only []
   by_cases h0:r.size=0
   ·rw [if_pos h0]
    have m1:=str_nil h0
    have m2:(r.toList != [])=false:=by rw [m1];rfl
    have m3:r.toList.isEmpty=true:=by rw [m1];rfl
    clear h0
    go_enter Tryz.func17,Tryz.ntmps17
    go_wp2_with (go_at_call 29;(with_reducible refine HR.out.mono ?_);rintro e w2 ⟨hb,p,rfl,hf⟩;have HB:=zqm hb;have HF:=zqm hf;clear hb hf)
    go_ret
    exact⟨HB.out,p,rfl,HF.out⟩
   ·rw [if_neg h0]
    obtain⟨m1,m2⟩:=str_ne (s:=r) (by omega)
    have m3:(r.toList != [])=true:=by rw [bne,m2];rfl
    clear h0
    go_enter Tryz.func17,Tryz.ntmps17
    go_wp2_with (go_at_call 29;(with_reducible refine HR.out.mono ?_);rintro e w2 ⟨hb,p,rfl,hf⟩;have HB:=zqm hb;clear hb hf)
    go_ret
    exact⟨HB.out,rfl⟩
def impl_FormulaOk.f (a0 : ByteArray) : Option (Bool) := some (fmOf a0).isSome
theorem impl_FormulaOk.calls (a0 : ByteArray) (r : Bool) (w : World) (h : impl_FormulaOk.f a0 = some r) :
 Calls Tryz.prog 7 #[.string a0] w fun e w'=>e= .returned (.bool r)∧Below w.heap.size w w':=by
 have HR:=zqm (formulaOf_calls a0 w)
 simp only [impl_FormulaOk.f,Option.some.injEq] at h
 generalize fmOf a0=o at HR h
 subst h
 cases o with
 |none=>
  go_enter Tryz.func7,Tryz.ntmps7
  go_wp2_with (go_at_call 17;(with_reducible refine HR.out.mono ?_);rintro e w2 ⟨hb,rfl⟩;have HB:=zqm hb;clear hb)
  go_ret
  exact⟨rfl,HB.out⟩
 |some f=>
  go_enter Tryz.func7,Tryz.ntmps7
  go_wp2_with (go_at_call 17;(with_reducible refine HR.out.mono ?_);rintro e w2 ⟨hb,p,rfl,hf⟩;have HB:=zqm hb;clear hb hf)
  go_ret
  exact⟨rfl,HB.out⟩
end Go.Proofs.YtbomiegcbimgoaaGreat.Print
end
