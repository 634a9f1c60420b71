/- Part 8 of what is common to several claims of this seat: DualL. -/
import Derived.Test.YtbomiegcbimgoaaGreatLA7
import Derived.Below
import Derived.Deep.Draws
import Derived.Deep.AppendLies
import Derived.Maps.AppendAt
import Derived.OwnWalk
import Derived.Laws.BytesArg
import Derived.Laws.MakeOwn
import Derived.Laws.OwnMore
import Derived.Deep.OwnRows
import Derived.Tactics
import Derived.Lib.ConvBytes
import Derived.Laws.Slices
import Derived.WalkKit
import Derived.KernelRfl
import Derived.RowKit3
import Derived.Deep.LoopGhost
import Derived.Deep.QuietTactic
import Derived.BigQuiet
import Derived.WideLaws
import Derived.Deep.DeepCutAuto
import Derived.Deep.CutBlock
import Derived.Deep.RegionHeld3
import Derived.Laws.Rows
import Derived.Lib.AppendStr
import Derived.ArgAppend
import Derived.Laws.IdiomCopy
import Derived.RowKit
import Derived.OrdersHeld
import Derived.Laws.BitsLemmas
import Derived.Test.YtbomiegcbimgoaaGreatProg
import Derived.Tactics2
import Derived.Defers
import Derived.Laws.Pointers
import Derived.Laws.LoneSync
import Derived.RegionTactic
import Derived.RegionCalls
import Derived.ChangeAlike
import Derived.Lib.LazyBuf
set_option linter.all false
section
namespace Go.Proofs.YtbomiegcbimgoaaGreat.Print
open Go.RowKit Go.Proofs.YtbomiegcbimgoaaGreatW.PrintWords Go.Proofs.YtbomiegcbimgoaaGreatW.PrintLast Go.Proofs.YtbomiegcbimgoaaGreatW.PrintMore
def dI (x : Int) : Int := if x = 38 then 124 else if x = 124 then 38 else if x = 48 then 49 else if x = 49 then 48 else x
def dualS (s : ByteArray) : ByteArray := strOfNums ((bytesOf s).map dI)
theorem dT_dI {x : Int} (h0 : 0 ≤ x) : dT 4 x.toNat = dI x := by
 unfold dT dI
 rcases Int.eq_ofNat_of_zero_le h0 with ⟨n, rfl⟩
 rw [Int.toNat_natCast]
 (repeat' split) <;> omega
theorem fr_cell {w : World} {q : Nat} {t : TypeId} {fr : Nat × Nat} {cur : Array Value} (h : w.heap[q]? = some (.cells cur t fr)) (i : Nat) : w.cell? ⟨q, i, none⟩ = cur[i]? := cell_of_row w q i cur t fr h
theorem fr_frozen {w : World} {q : Nat} {t : TypeId} {lo hi : Nat} {cur : Array Value} (h : w.heap[q]? = some (.cells cur t (lo, hi))) {i : Nat} (hl : i < lo) : w.frozen? ⟨q, i, none⟩ = false := by
 simp [World.frozen?,h]
 omega
theorem fr_set {w : World} {q : Nat} {t : TypeId} {fr : Nat × Nat} {cur : Array Value} (h : w.heap[q]? = some (.cells cur t fr)) (i : Nat) (u : Value) : (w.setCell ⟨q, i, none⟩ u).heap[q]? = some (.cells (cur.setIfInBounds i u) t fr) := by
 simp [World.setCell,Array.getElem?_modify,h]
theorem row_string {w : World} {q n c sz : Nat} {cur : Array Value} {xs : List Int} {P : Program} {src dst e : TypeId} (hs : P.underlying src = some (.slice e)) (he : P.underlying e = some (.int .u8)) (hd : P.underlying dst = some .string) (hb : w.heap[q]? = some (.cells cur e (sz, sz + 1))) (hl : xs.length = n) (hn : n ≤ 9223372036854775807) (hx : ∀ j (hj : j < xs.length), cur[j]? = some (.int .u8 xs[j])) :
 (convert src dst (.slice (some ⟨q,0,none⟩) n c)).run P w= .ok (.string (strOfNums xs)) w:=by
 refine Kd.C_string hs he hd ⟨hl,hn,fun _=>⟨_,rfl,fun j p hp=>?_⟩⟩
 obtain⟨hj,rfl⟩:=List.getElem?_eq_some_iff.1 hp
 refine⟨[.int .u8 xs[j]],rfl,rfl,fun i u hu=>?_⟩
 cases i with
 |zero=>
  have:u= .int .u8 xs[j]:=by simpa using hu.symm
  subst this
  rw [add0,fr_cell hb]
  exact(congrArg (fun k=>cur[k]?) (Nat.mul_one j)).trans (hx j hj)
 |succ i=>simp at hu
theorem row_step {cur : Array Value} {s : ByteArray} {i sz : Nat} (hi : i < s.size) (hs : cur.size = sz) (hz : s.size ≤ sz) (h : ∀ j, j < s.size → cur[j]? = some (.int .u8 (if j < i then dI (bt s j) else bt s j))) :
 ∀j,j<s.size→(cur.setIfInBounds i (.int .u8 (dI (bt s i))))[j]? =some (.int .u8 (if j<i+1 then dI (bt s j) else bt s j)):=fun j hj=>by
 rw [Array.getElem?_setIfInBounds]
 by_cases e:i=j
 ·subst e
  rw [if_pos rfl,if_pos (by omega),if_pos (by omega)]
 ·rw [if_neg e,h j hj]
  by_cases hl:j<i
  ·rw [if_pos hl,if_pos (by omega)]
  ·rw [if_neg hl,if_neg (by omega)]
theorem row_skip {cur : Array Value} {s : ByteArray} {i : Nat} (hd : dI (bt s i) = bt s i) (h : ∀ j, j < s.size → cur[j]? = some (.int .u8 (if j < i then dI (bt s j) else bt s j))) :
 ∀j,j<s.size→cur[j]? =some (.int .u8 (if j<i+1 then dI (bt s j) else bt s j)):=fun j hj=>by
 rw [h j hj]
 by_cases e:j=i
 ·subst e
  rw [if_neg (by omega),if_pos (by omega),hd]
 ·by_cases hl:j<i
  ·rw [if_pos hl,if_pos (by omega)]
  ·rw [if_neg hl,if_neg (by omega)]
theorem bytes_get {s : ByteArray} {j : Nat} (hj : j < s.size) {h : j < (bytesOf s).length} : bt s j = (bytesOf s)[j] := by
 have e:=rd_bytesOf s (j:Int)
 rw [← e]
 unfold rd
 rw [Int.toNat_natCast,List.getD_eq_getElem?_getD,List.getElem?_eq_getElem h]
 rfl
theorem str_bytes (s : ByteArray) : strOfNums (bytesOf s) = s := by
 apply ByteArray.ext
 apply Array.ext'
 show (strOfNums (bytesOf s)).data.toList=s.data.toList
 rw [strOfNums_data,bytesOf,List.map_map]
 simp [Function.comp_def]
theorem dual_same {s : ByteArray} (h : ∀ j : Nat, j < s.size → dI (bt s j) = bt s j) : s = dualS s := by
 have e:(bytesOf s).map dI=bytesOf s:=by
  refine List.ext_getElem (by simp) fun j h1 h2=>?_
  rw [List.getElem_map]
  have hj:j<s.size:=by rwa [bytesOf_length] at h2
  rw [← bytes_get hj]
  exact h j hj
 unfold dualS
 rw [e,str_bytes]
set_option maxHeartbeats 8000000 in
set_option maxRecDepth 100000 in
theorem rep_calls (b : Nat) (s : ByteArray) (w : World) (tab : Array Value) (hsz : s.size ≤ 9223372036854775807 - 1) (hb : w.heap[b]? = some (.cells tab 100 (0, 0))) (h2 : ∀ j, j < 256 → tab[j]? = some (.int .u8 (dT 4 j))) :
 Calls Tryz.prog 108 #[.pointer (some ⟨b,0,none⟩),.string s] w fun e w'=>e= .returned (.string (dualS s))∧Below w.heap.size w w':=by
 have HT:=zqm hb
 have HV:=zqm h2
 have HZ:=zqm hsz
 clear hb h2 hsz
 have en: ∀w:World,(binOp .eql 22 (.slice none 0 0) (.slice none 0 0)).run Tryz.prog w= .ok (.bool true) w:=fun w=>run_eql_slice_nil w _ _ none 0 0 Tryz.underlying22
 have es: ∀(w:World) (q n c:Nat),(binOp .eql 22 (.slice (some ⟨q,0,none⟩) n c) (.slice none 0 0)).run Tryz.prog w= .ok (.bool false) w:=fun w q n c=>run_eql_slice_nil w _ _ (some ⟨q,0,none⟩) n c Tryz.underlying22
 go_enter Tryz.func108,Tryz.ntmps108
 go_wp2_with fail
 go_loopg [5,6] (s.size+1) (fun kq v5 v6 W=> ∃i:Nat,v6= .int .i64 (i:Int)∧Aside0 (s.size<i+kq)∧Aside0 (i≤s.size)∧Aside0 (Below w.heap.size w W)∧Aside0 ((v5= .slice none 0 0∧ ∀j,j<i→dI (bt s j)=bt s j)∨ ∃(q c:Nat),v5= .slice (some ⟨q,0,none⟩) s.size c∧(∃cur sz,w.heap.size≤q∧W.heap[q]? =some (.cells cur 5 (sz,sz+1))∧cur.size=sz∧s.size≤sz∧ ∀j,j<s.size→cur[j]? =some (.int .u8 (if j<i then dI (bt s j) else bt s j)))))
 case atStart=>exact⟨0,rfl,⟨by omega⟩,⟨by omega⟩,⟨zq119⟩,⟨.inl ⟨rfl,fun j hj=>absurd hj (by omega)⟩⟩⟩
 case round=>
  obtain⟨i,rfl,HF,HI,HB,⟨hor⟩⟩:=hrel
  cases gk with
  |zero=>exact absurd HF.out (by have:=HI.out;omega)
  |succ kn=>
  have HTW:=zqm (blk_below HT.out HB.out)
  by_cases hlt:i<s.size
  ·have p1:(i<s.size)=True:=eq_true hlt
   have p1':decide (i<s.size)=true:=decide_eq_true hlt
   have p2:((i:Int)<(s.size:Int))=True:=eq_true (by omega)
   have p2':decide ((i:Int)<(s.size:Int))=true:=decide_eq_true (by omega)
   obtain⟨x,hx⟩: ∃x,x=bt s i:=⟨_,rfl⟩
   have hr:=bt_range s i
   rw [← hx] at hr
   have hbt: ∀h:i<s.size,((s[i]'h).toNat:Int)=x:=fun h=>by rw [hx];exact bt_at s (i:Int) h
   have hc:wr.cell? ⟨b,x.toNat,none⟩=some (.int .u8 (dT 4 x.toNat)):=(blk_cell HTW.out x.toNat).trans (HV.out _ (by omega))
   rw [dT_dI hr.1] at hc
   have hx0:(0≤x)=True:=eq_true hr.1
   have hx1:(x<256)=True:=eq_true (by omega)
   have hx1':(x.toNat<256)=True:=eq_true (by omega)
   obtain⟨y,hy⟩: ∃y,y=dI x:=⟨_,rfl⟩
   rw [← hy] at hc
   have HLT:=zqm hlt
   have HXE:=zqm hx
   have HYE:=zqm hy
   have HR:=zqm hr
   clear hlt hx hr hy
   have HRND:=zqm (show IntKind.i64.wrap ((i:Int)+1)=((i+1:Nat):Int) by have:=HZ.out;have:=HLT.out;simp only [i64_w];unfold wrap64;omega)
   have HRNE:=zqm (show wrap64 ((i:Int)+1)=((i+1:Nat):Int) by have:=HZ.out;have:=HLT.out;unfold wrap64;omega)
   by_cases hd:y=x
   ·have e1:(y !=x)=false:=by simp [hd]
    have e2:(y=x)=True:=eq_true hd
    have HD:=zqm (show dI (bt s i)=bt s i by rw [← HXE.out,← HYE.out];exact hd)
    clear hd
    rcases hor with ⟨rfl,hno⟩|⟨q,c,rfl,cur,sz,hq,hcur,hs,hz,hrow⟩
    ·have HNO:=zqm hno
     clear hno
     go_wp2_with fail
     go_roundg kn
     case measure=>omega
     case rel=>exact⟨i+1,congrArg (Value.int .i64) zq132,⟨by have:=HF.out;omega⟩,⟨HLT.out⟩,⟨zq43⟩,⟨.inl ⟨rfl,fun j hj=>by
      rcases Nat.lt_or_ge j i with h|h
      ·exact HNO.out j h
      ·obtain rfl:j=i:=by omega
       exact HD.out⟩⟩⟩
    ·have HQ:=zqm (show (∃cur sz,w.heap.size≤q∧wr.heap[q]? =some (.cells cur 5 (sz,sz+1))∧cur.size=sz∧s.size≤sz∧ ∀j,j<s.size→cur[j]? =some (.int .u8 (if j<i+1 then dI (bt s j) else bt s j))) from ⟨cur,sz,hq,hcur,hs,hz,row_skip HD.out hrow⟩)
     clear hq hcur hs hz hrow
     go_wp2_with fail
     go_roundg kn
     case measure=>omega
     case rel=>exact⟨i+1,congrArg (Value.int .i64) zq132,⟨by have:=HF.out;omega⟩,⟨HLT.out⟩,⟨zq43⟩,⟨.inr ⟨q,c,rfl,HQ.out⟩⟩⟩
   ·have e1:(y !=x)=true:=by simp [hd]
    have e2:(y=x)=False:=eq_false hd
    clear hd
    rcases hor with ⟨rfl,hno⟩|⟨q,c,rfl,cur,sz,hq,hcur,hs,hz,hrow⟩
    ·have HNO:=zqm hno
     clear hno
     have kb:=print_bytes (P:=Tryz.prog) 9 22 5 Tryz.underlying9 Tryz.underlying22 Tryz.underlying5 s wr
     have hsz:i<(Lib.bytesCells wr 5 s).size:=by have:=HLT.out;simp [Lib.bytesCells];have:s.data.size=s.size:=rfl;omega
     have hcB:(Lib.bytesWorld wr 5 s).cell? ⟨b,x.toNat,none⟩=some (.int .u8 y):=(Lib.bytesWorld_old wr 5 s ⟨b,x.toNat,none⟩ (blk_lt HTW.out)).trans hc
     have hcN:=Lib.bytesWorld_cell wr 5 s i HLT.out
     have hfN:=fr_frozen (Lib.bytesWorld_at_new wr 5 s) hsz
     have HBW:=zqm (bytes_below HB.out HB.out.size 5 s)
     clear hsz
     go_wp2_with fail
     (try go_wp2_with fail)
     go_roundg kn
     case measure=>omega
     case rel=>exact⟨i+1,congrArg (Value.int .i64) zq132,⟨by have:=HF.out;omega⟩,⟨HLT.out⟩,⟨below_set HBW.out HB.out.size⟩,⟨.inr ⟨wr.heap.size,_,rfl,_,_,HB.out.size,fr_set (Lib.bytesWorld_at_new wr 5 s) i _,by simp,by simp [Lib.bytesCells],by
      rw [HYE.out,HXE.out]
      refine row_step HLT.out rfl (by simp [Lib.bytesCells]) fun j hj=>?_
      have h1:=Lib.bytesWorld_cell wr 5 s j hj
      rw [fr_cell (Lib.bytesWorld_at_new wr 5 s) j] at h1
      rw [h1]
      refine congrArg (fun z=>some (Value.int .u8 z)) ?_
      have h2:(((s.data.toList.getD j 0).toNat:Nat):Int)=bt s j:=by
       have h3:=bytes_get hj (h:=by rw [bytesOf_length];exact hj)
       rw [h3]
       have h4:j<s.data.size:=hj
       simp [bytesOf,List.getD_eq_getElem?_getD,Array.getElem?_eq_getElem h4]
      rw [h2]
      by_cases hji:j<i
      ·rw [if_pos hji,HNO.out j hji]
      ·rw [if_neg hji]⟩⟩⟩
    ·have hne:q≠b:=by have:=blk_lt HT.out;omega
     have hcc:wr.cell? ⟨q,i,none⟩=some (.int .u8 (if i<i then dI (bt s i) else bt s i)):=(fr_cell hcur i).trans (hrow i HLT.out)
     have hff:=fr_frozen hcur (i:=i) (by have:=HLT.out;omega)
     have HNE:=zqm hne
     have HQ:=zqm hq
     have HU:=zqm hcur
     have HS:=zqm hs
     have HZZ:=zqm hz
     have HRW:=zqm hrow
     clear hq hcur hs hz hrow hne
     go_wp2_with fail
     (try go_wp2_with fail)
     go_roundg kn
     case measure=>omega
     case rel=>exact⟨i+1,congrArg (Value.int .i64) zq132,⟨by have:=HF.out;omega⟩,⟨HLT.out⟩,⟨below_set HB.out HQ.out⟩,⟨.inr ⟨q,c,rfl,_,sz,HQ.out,fr_set HU.out i _,by simp [HS.out],HZZ.out,by rw [HYE.out,HXE.out];exact row_step HLT.out HS.out HZZ.out HRW.out⟩⟩⟩
  ·have p1:(i<s.size)=False:=eq_false hlt
   have p1':decide (i<s.size)=false:=decide_eq_false hlt
   have p2:((i:Int)<(s.size:Int))=False:=eq_false (by omega)
   have p2':decide ((i:Int)<(s.size:Int))=false:=decide_eq_false (by omega)
   obtain rfl:i=s.size:=by have:=HI.out;omega
   clear hlt
   rcases hor with ⟨rfl,hno⟩|⟨q,c,rfl,cur,sz,hq,hcur,hs,hz,hrow⟩
   ·have HNO:=zqm (show s=dualS s from dual_same hno)
    clear hno
    go_wp2_with fail
    go_ret
    exact⟨by rw [← HNO.out];rfl,zq43⟩
   ·have hcv:=row_string (P:=Tryz.prog) (c:=c) Tryz.underlying22 Tryz.underlying5 Tryz.underlying9 hcur (xs:=(bytesOf s).map dI) (n:=s.size) (by rw [List.length_map,bytesOf_length]) (by have:=HZ.out;omega) (fun j hj=>by
     rw [List.length_map,bytesOf_length] at hj
     rw [hrow j hj,if_pos hj]
     refine congrArg (fun z=>some (Value.int .u8 z)) ?_
     rw [List.getElem_map]
     exact congrArg dI (bytes_get hj))
    clear hq hcur hs hz hrow
    go_wp2_with fail
    go_ret
    exact⟨rfl,zq43⟩
theorem slice_event {P : Program} {ops : Array Oper} {rest : List Oper} {o : Oper} {a : Act} {Q : Exit → Act → World → Prop} {W : World} (hgd : o.guard = none) {N : Tmp} (_hd : o.dst = some N) {cs : Array Value} {t : TypeId} {n : Nat}
 (hrun:(execOp a.eval o).run P W= .ok (.value (.slice (some ⟨W.heap.size,0,none⟩) n n)) (W.alloc (.cells cs t (0,0))))
 (h: ∀g,g=W.heap.size→ ∀w1,w1.heap[g]? =some (.cells cs t (0,0))→Below W.heap.size W w1→wpList P ops Q rest (a.put o.dst (.slice (some ⟨g,0,none⟩) n n)) w1):wpList P ops Q (o :: rest) a W:=
 Kd.event_run hgd hrun (h _ rfl _ (blk_new W _) (below_alloc (Below.refl _ _) _))
theorem dual_lit {w : World} {q : Nat} (hb : w.heap[q]? = some (.cells #[.string ⟨#[38]⟩, .string ⟨#[124]⟩, .string ⟨#[124]⟩, .string ⟨#[38]⟩, .string ⟨#[48]⟩, .string ⟨#[49]⟩, .string ⟨#[49]⟩, .string ⟨#[48]⟩] 9 (0, 0))) : Kd.C Kd.string w (some ⟨q, 0, none⟩) 8 dualL := by
 refine⟨rfl,by omega,fun _=>⟨_,rfl,fun j p hp=>?_⟩⟩
 refine⟨[.string p],rfl,rfl,fun i u hu=>?_⟩
 cases i with
 |zero=>
  have:u= .string p:=by simpa using hu.symm
  subst this
  rw [add0,blk_cell hb]
  have hj:j<8:=(List.getElem?_eq_some_iff.1 hp).1
  have e:j*(Kd.string).sz+0=j:=Nat.mul_one j
  rw [e]
  have hj2:j=0∨j=1∨j=2∨j=3∨j=4∨j=5∨j=6∨j=7:=by omega
  rcases hj2 with rfl|rfl|rfl|rfl|rfl|rfl|rfl|rfl <;> (have:=Option.some.inj hp;subst this;rfl)
 |succ i=>simp at hu
set_option maxHeartbeats 4000000 in
set_option maxRecDepth 100000 in
theorem new_calls (h0 c0 : Nat) (w : World) (hC : Kd.C Kd.string w (some ⟨h0, 0, none⟩) 8 dualL) :
 Calls Tryz.prog 14 #[.slice (some ⟨h0,0,none⟩) 8 c0] w fun e w'=> ∃g h c,e= .returned (.pointer (some ⟨g,0,none⟩))∧w.heap.size≤g∧h≠g∧w'.heap[g]? =some (.cells #[.int .u32 0,.int .i32 0,.int .u32 0,.nilIface,.slice (some ⟨h,0,none⟩) 8 c] 73 (0,0))∧Kd.C Kd.string w' (some ⟨h,0,none⟩) 8 dualL∧Below w.heap.size w w':=by
 have HC:=zqm hC
 clear hC
 go_enter Tryz.func14,Tryz.ntmps14
 go_wp2_with (first|(refine Kd.R_append_row (h1:=fun _=>rfl) Value.string ByteArray.empty (w0:=w) w.heap.size rfl (.const (.slice none 0 0)) (.tmp 8) 55 9 (.string ⟨#[]⟩) 16 rfl Tryz.underlying55 zqk rfl (by decide) (.slice none 0 0) [] dualL (some ⟨h0,0,none⟩) 8 c0 (fun _=>True) rfl rfl (fun _ _=>trivial) (Kd.R_nil _ _ _ _ _) HC.out (Below.refl _ _) (Nat.le_refl _) (by decide) ?_;intro v1 w1 hv hb _ _;obtain⟨A1,c1,rfl⟩: ∃A c,v1= .slice A 8 c:=Kd.R_slice hv;obtain⟨hq,cap,hform,_⟩:=Kd.R_form hv (show 0<8 by decide);cases hform;have HC1:=zqm (show Kd.C Kd.string w1 (some ⟨hq,0,none⟩) 8 dualL from (Kd.R_reads' hv).2.2);have HB:=zqm hb;clear hv hb)|((with_reducible refine gate_dst (N:=11) rfl ?_);refine box_event ?hg (N:=11) ?hd (cs:= #[.int .u32 0,.int .i32 0,.int .u32 0,.nilIface,.slice (some ⟨hq,0,none⟩) 8 c1]) (t:=73) ?hr ?_;(case hd=>rfl);(case hg=>rfl);(case hr=>first|(go_simp;done)|(go_simp;rfl));intro g hg_ wb hbox hb;have HN:=zqm (show hq≠g from fun e=>by have:=Kd.C_lt HC1.out (by decide) (by decide);rw [hg_] at e;omega);have HGB:=zqm (show w.heap.size≤g from by rw [hg_];exact HB.out.size);have n0_:=zqm (below_step HB.out hb);have n1_:=zqm (Kd.C_below HC1.out hb);clear HB HC1;have HB:=n0_;have HC1:=n1_;have HX:=zqm hbox;clear n0_ n1_ hbox hb hg_))
 go_ret
 exact⟨g,hq,c1,rfl,HGB.out,HN.out,HX.out,HC1.out,HB.out⟩
set_option maxHeartbeats 4000000 in
set_option maxRecDepth 100000 in
theorem replace_calls (s : ByteArray) (g h c : Nat) (w0 w : World) (hsz : s.size ≤ 9223372036854775807 - 1) (hb : w.heap[g]? = some (.cells #[.int .u32 0, .int .i32 0, .int .u32 0, .nilIface, .slice (some ⟨h, 0, none⟩) 8 c] 73 (0, 0))) (H : Kd.C Kd.string w (some ⟨h, 0, none⟩) 8 dualL) (hB : Below w0.heap.size w0 w) (hg : w0.heap.size ≤ g) (hh : h ≠ g) :
 Calls Tryz.prog 15 #[.pointer (some ⟨g, 0, none⟩), .string s] w fun e w' => e = .returned (.string (dualS s)) ∧ Below w0.heap.size w0 w' := by
 have hm : ∀ (b : Nat) (w : World), (method 285 101 (.pointer (some ⟨b, 0, none⟩)) "Replace").run Tryz.prog w = .ok (108, .pointer (some ⟨b, 0, none⟩)) w := fun _ _ => by kernel_rfl
 have hmf : ∀ (fn : Fn) (first cap : Array Value) (w : World), (Instr.makeFunc fn first cap).run Tryz.prog w = .ok (.func fn first cap) w := fun _ _ _ _ => rfl
 have HX := Aside0.mk hb
 have HC := Aside0.mk H
 have HB := Aside0.mk hB
 have HG := Aside0.mk hg
 have HH := Aside0.mk hh
 have HZ := Aside0.mk hsz
 clear hb H hB hg hh hsz
 go_enter Tryz.func15, Tryz.ntmps15
 go_wp2_with (first | (go_at_call 26; refine (do_calls g h c w0 _ HX.out HC.out HB.out HG.out HH.out).mono ?_; rintro e w1 ⟨rfl, b, cur, hgb, hne, hx, hu, hs, hv, hb⟩; clear HX HC HB; have HU := Aside0.mk hu; have HV := Aside0.mk hv; have HB := Aside0.mk hb; have hx3 : w1.cell? ⟨g, 3, none⟩ = some (.iface 101 (.pointer (some ⟨b, 0, none⟩))) := (blk_cell hx 3).trans rfl; clear hgb hne hx hu hs hv hb) | (go_at_call 108; (with_reducible refine (rep_calls b s _ _ HZ.out HU.out HV.out).mono ?_); rintro e w2 ⟨rfl, hb⟩; have HB2 := Aside0.mk (below_step HB.out hb); clear hb))
 go_ret
 exact ⟨rfl, HB2.out⟩
def impl_DualOf.f (a0 : ByteArray) : Option (ByteArray) := if a0.size ≤ 9223372036854775806 then (impl_FormulaOk.f a0).bind fun t => if t = true then some (dualS a0) else some (⟨#[]⟩ : ByteArray) else none
set_option maxHeartbeats 4000000 in
set_option maxRecDepth 100000 in
theorem impl_DualOf.calls (a0 : ByteArray) (r : ByteArray) (w : World) (h : impl_DualOf.f a0 = some r) :
 Calls Tryz.prog 5 #[.string a0] w fun e w'=>e= .returned (.string r)∧Below w.heap.size w w':=by
 unfold impl_DualOf.f at h
 by_cases hz:a0.size≤9223372036854775806
 ·rw [if_pos hz] at h
  have HZ:=zqm (show a0.size≤9223372036854775807 - 1 by omega)
  obtain⟨t,ht,h⟩:=Option.bind_eq_some_iff.1 h
  have HT:=zqm ht
  clear ht hz
  cases t with
  |false=>
   obtain rfl:(⟨#[]⟩:ByteArray)=r:=by simpa using h
   clear h
   go_enter Tryz.func5,Tryz.ntmps5
   go_wp2_with (go_at_call 7;(with_reducible refine(impl_FormulaOk.calls a0 false _ HT.out).mono ?_);rintro e w1 ⟨rfl,hb⟩;have HB:=zqm hb;clear hb)
   go_ret
   exact⟨rfl,HB.out⟩
  |true=>
   obtain rfl:dualS a0=r:=by simpa using h
   clear h
   go_enter Tryz.func5,Tryz.ntmps5
   go_wp2_with (first|(go_at_call 7;(with_reducible refine(impl_FormulaOk.calls a0 true _ HT.out).mono ?_);rintro e w1 ⟨rfl,hb⟩;have HB:=zqm hb;clear hb)|((with_reducible refine gate_dst (N:=6) rfl ?_);refine slice_event ?hg (N:=6) ?hd (cs:= #[.string ⟨#[38]⟩,.string ⟨#[124]⟩,.string ⟨#[124]⟩,.string ⟨#[38]⟩,.string ⟨#[48]⟩,.string ⟨#[49]⟩,.string ⟨#[49]⟩,.string ⟨#[48]⟩]) (t:=9) (n:=8) ?hr ?_;(case hd=>rfl);(case hg=>rfl);(case hr=>first|(go_simp;done)|(go_simp;rfl));intro q hg_ wb hbox hb;have HC:=zqm (dual_lit hbox);have n0_:=zqm (below_step HB.out hb);clear HB;have HB:=n0_;clear n0_ hbox hb hg_)|(go_at_call 14;(with_reducible refine(new_calls q 8 _ HC.out).mono ?_);rintro e w2 ⟨g,hq,c1,rfl,hg,hne,hx,hc,hb⟩;have HG:=zqm (show w.heap.size≤g from Nat.le_trans HB.out.size hg);have HN:=zqm hne;have HX:=zqm hx;have HC2:=zqm hc;have n0_:=zqm (below_step HB.out hb);clear HB HC;have HB:=n0_;clear n0_ hg hne hx hc hb)|(go_at_call 15;(with_reducible refine(replace_calls a0 g hq c1 w _ HZ.out HX.out HC2.out HB.out HG.out HN.out).mono ?_);rintro e w3 ⟨rfl,hb⟩;have HB3:=zqm hb;clear hb))
   go_ret
   exact⟨rfl,HB3.out⟩
 ·rw [if_neg hz] at h
  cases h
end Go.Proofs.YtbomiegcbimgoaaGreat.Print
end
section
namespace Go.Proofs.YtbomiegcbimgoaaGreat.Print
open Go.RowKit Go.Proofs.YtbomiegcbimgoaaGreatW.PrintWords Go.Proofs.YtbomiegcbimgoaaGreatW.PrintLast Go.Proofs.YtbomiegcbimgoaaGreatW.PrintMore
open Oml
def Fm.ok : Fm → Prop
 | .leaf c => isLeaf c
 | .neg f => Fm.ok f
 | .bin c f g => (c = 38 ∨ c = 124) ∧ Fm.ok f ∧ Fm.ok g
theorem rdF_ok : ∀ (k : Nat) (s : ByteArray) (f : Fm) (r : ByteArray), rdF k s = some (f, r) → f.ok
 |0,_,_,_,h=>by simp [rdF] at h
 |k+1,s,f,r,h=>by
  have ih:=rdF_ok k
  simp only [rdF] at h
  split at h
  ·cases h
  ·split at h
   ·rename_i hl
    cases h;exact hl
   ·split at h
    ·split at h
     ·cases h
     ·rename_i f1 r1 h1
      cases h
      exact(show f1.ok from ih _ _ _ h1)
    ·split at h
     ·split at h
      ·cases h
      ·rename_i f1 r1 h1
       split at h
       ·cases h
       ·split at h
        ·rename_i ho
         split at h
         ·cases h
         ·rename_i g q h3
          split at h
          ·cases h
          ·split at h
           ·cases h;exact⟨ho,ih _ _ _ h1,ih _ _ _ h3⟩
           ·cases h
        ·cases h
     ·cases h
theorem fmOf_ok {s : ByteArray} {f : Fm} (h : fmOf s = some f) : f.ok := by
 unfold fmOf at h
 split at h
 ·cases h
 ·split at h
  ·cases h
  ·rename_i g r h1
   split at h
   ·cases h;exact rdF_ok _ _ _ _ h1
   ·cases h
def valF (U : List (List Int)) (N : List Int) (a b c : Int) : Fm → Int
 | .leaf x=>if x=97 then a else if x=98 then b else if x=99 then c else if x=48 then noI U else yesI U N
 | .neg f=>notI N (valF U N a b c f)
 | .bin x f g=>if x=38 then andI U (valF U N a b c f) (valF U N a b c g) else orI U (valF U N a b c f) (valF U N a b c g)
theorem in_val {U : List (List Int)} {N : List Int} (L : Logic U N) {a b c : Int} (ia : In U a) (ib : In U b) (ic : In U c) : ∀ f : Fm, In U (valF U N a b c f)
 | .leaf x=>by
  unfold valF
  split
  ·exact ia
  split
  ·exact ib
  split
  ·exact ic
  split
  ·exact L.in_no
  ·exact L.in_yes
 | .neg f=>L.in_not (in_val L ia ib ic f)
 | .bin x f g=>by
  unfold valF
  split
  ·exact L.in_and (in_val L ia ib ic f) (in_val L ia ib ic g)
  ·exact L.in_or (in_val L ia ib ic f) (in_val L ia ib ic g)
def alg_value.T10 : Bool × List (List Nat × List Nat) := (true, [([], []), ([], []), ([1], [1]), ([2], [2]), ([3], [3]), ([4], [4]), ([5], [5]), ([], []), ([0, 6, 7], [0, 6, 7]), ([8, 8, 0, 1, 2, 3, 4, 5, 6, 7, 8], [8])])
def alg_value.B10 : List Nat := [0, 0, 2, 6, 14, 30, 62, 0, 255, 511]
theorem alg_value.tab10 : rtab .any (opsOf Tryz.f22 10) = alg_value.T10 := by kernel_rfl
theorem alg_value.bits10 : waitsOk alg_value.T10.2 alg_value.B10 = true := by kernel_rfl
def alg_value.T13 : Bool × List (List Nat × List Nat) := (true, [([], []), ([], []), ([1], [1]), ([2], [2]), ([3], [3]), ([4], [4]), ([5], [5]), ([], []), ([0, 6, 7], [0, 6, 7]), ([8, 8, 0, 1, 2, 3, 4, 5, 6, 7, 8], [8])])
def alg_value.B13 : List Nat := [0, 0, 2, 6, 14, 30, 62, 0, 255, 511]
theorem alg_value.tab13 : rtab .any (opsOf Tryz.f22 13) = alg_value.T13 := by kernel_rfl
theorem alg_value.bits13 : waitsOk alg_value.T13.2 alg_value.B13 = true := by kernel_rfl
set_option maxHeartbeats 4000000 in
set_option maxRecDepth 100000 in
theorem value_leaf (g : Nat) (U : List (List Int)) (N : List Int) (v : Adr) (L : Logic U N) (a b c : Int) (x : Int) (hx : isLeaf x) (pf : Nat) (w : World) (hV : View w g U N v) (hP : w.heap[pf]? = some (.cells #[.int .u8 x, .slice none 0 0] 87 (0, 0))) :
 Calls Tryz.prog 22 #[.pointer (some ⟨g,0,none⟩),.pointer (some ⟨pf,0,none⟩),.agg #[.int .i64 a,.int .i64 b,.int .i64 c]] w fun e w'=>e= .returned (.int .i64 (valF U N a b c (.leaf x)))∧Below w.heap.size w w':=by
 have hu70:=Tryz.underlying52
 have hu87:=Tryz.underlying50
 have huf:=Tryz.underlying87
 have HV:=zqm hV
 have HP:=zqm hP
 clear hV hP L
 unfold isLeaf at hx
 rcases hx with rfl|rfl|rfl|rfl|rfl
 ·go_enter Tryz.func22,Tryz.ntmps22
  go_wp2_with ((with_reducible refine gate_dst (N:=5) rfl ?_);refine box_event ?hg (N:=5) ?hd (cs:= #[.int .i64 a,.int .i64 b,.int .i64 c]) (t:=50) ?hr ?_;(case hd=>rfl);(case hg=>rfl);(case hr=> exact zq16);intro gb hg_ w1 hbox hb;have HX1:=zqm hbox;have HB1:=zqm hb;have HV1:=zqm (View.below HV.out hb);have HP1:=zqm (blk_below HP.out hb);have s1_:w1.cell? ⟨pf,0,none⟩=some (.int .u8 97):=(blk_cell HP1.out 0).trans rfl;have x_:w1.cell? ⟨gb,0,none⟩=some (.int .i64 a):=(blk_cell hbox 0).trans rfl;clear hbox hb hg_)
  go_ret
  exact⟨rfl,HB1.out⟩
 ·go_enter Tryz.func22,Tryz.ntmps22
  go_wp2_with ((with_reducible refine gate_dst (N:=5) rfl ?_);refine box_event ?hg (N:=5) ?hd (cs:= #[.int .i64 a,.int .i64 b,.int .i64 c]) (t:=50) ?hr ?_;(case hd=>rfl);(case hg=>rfl);(case hr=> exact zq16);intro gb hg_ w1 hbox hb;have HX1:=zqm hbox;have HB1:=zqm hb;have HV1:=zqm (View.below HV.out hb);have HP1:=zqm (blk_below HP.out hb);have s1_:w1.cell? ⟨pf,0,none⟩=some (.int .u8 98):=(blk_cell HP1.out 0).trans rfl;have x_:w1.cell? ⟨gb,1,none⟩=some (.int .i64 b):=(blk_cell hbox 1).trans rfl;clear hbox hb hg_)
  go_ret
  exact⟨rfl,HB1.out⟩
 ·go_enter Tryz.func22,Tryz.ntmps22
  go_wp2_with ((with_reducible refine gate_dst (N:=5) rfl ?_);refine box_event ?hg (N:=5) ?hd (cs:= #[.int .i64 a,.int .i64 b,.int .i64 c]) (t:=50) ?hr ?_;(case hd=>rfl);(case hg=>rfl);(case hr=> exact zq16);intro gb hg_ w1 hbox hb;have HX1:=zqm hbox;have HB1:=zqm hb;have HV1:=zqm (View.below HV.out hb);have HP1:=zqm (blk_below HP.out hb);have s1_:w1.cell? ⟨pf,0,none⟩=some (.int .u8 99):=(blk_cell HP1.out 0).trans rfl;have x_:w1.cell? ⟨gb,2,none⟩=some (.int .i64 c):=(blk_cell hbox 2).trans rfl;clear hbox hb hg_)
  go_ret
  exact⟨rfl,HB1.out⟩
 ·go_enter Tryz.func22,Tryz.ntmps22
  go_wp2_with ((with_reducible refine gate_dst (N:=5) rfl ?_);refine box_event ?hg (N:=5) ?hd (cs:= #[.int .i64 a,.int .i64 b,.int .i64 c]) (t:=50) ?hr ?_;(case hd=>rfl);(case hg=>rfl);(case hr=> exact zq16);intro gb hg_ w1 hbox hb;have HX1:=zqm hbox;have HB1:=zqm hb;have HV1:=zqm (View.below HV.out hb);have HP1:=zqm (blk_below HP.out hb);have s1_:w1.cell? ⟨pf,0,none⟩=some (.int .u8 48):=(blk_cell HP1.out 0).trans rfl;have x_:=HV1.out.f4;clear hbox hb hg_)
  go_ret
  exact⟨rfl,HB1.out⟩
 ·go_enter Tryz.func22,Tryz.ntmps22
  go_wp2_with ((with_reducible refine gate_dst (N:=5) rfl ?_);refine box_event ?hg (N:=5) ?hd (cs:= #[.int .i64 a,.int .i64 b,.int .i64 c]) (t:=50) ?hr ?_;(case hd=>rfl);(case hg=>rfl);(case hr=> exact zq16);intro gb hg_ w1 hbox hb;have HX1:=zqm hbox;have HB1:=zqm hb;have HV1:=zqm (View.below HV.out hb);have HP1:=zqm (blk_below HP.out hb);have s1_:w1.cell? ⟨pf,0,none⟩=some (.int .u8 49):=(blk_cell HP1.out 0).trans rfl;have x_:=HV1.out.f5;clear hbox hb hg_)
  go_ret
  exact⟨rfl,HB1.out⟩
set_option maxHeartbeats 4000000 in
set_option maxRecDepth 100000 in
theorem value_neg (g : Nat) (U : List (List Int)) (N : List Int) (v : Adr) (L : Logic U N) (a b c : Int) (f : Fm) (x : Int) (hx : valF U N a b c f = x) (ix : In U x) (ih : ∀ (pf : Nat) (w : World), View w g U N v → FAt w pf f → f.ok → Calls Tryz.prog 22 #[.pointer (some ⟨g, 0, none⟩), .pointer (some ⟨pf, 0, none⟩), .agg #[.int .i64 a, .int .i64 b, .int .i64 c]] w fun e w' => e = .returned (.int .i64 x) ∧ Below w.heap.size w w') (hok : f.ok) (pf : Nat) (w : World) (hV : View w g U N v) (hF : FAt w pf (.neg f)) :
 Calls Tryz.prog 22 #[.pointer (some ⟨g,0,none⟩),.pointer (some ⟨pf,0,none⟩),.agg #[.int .i64 a,.int .i64 b,.int .i64 c]] w fun e w'=>e= .returned (.int .i64 (valF U N a b c (.neg f)))∧Below w.heap.size w w':=by
 have hu70:=Tryz.underlying52
 have hu87:=Tryz.underlying50
 have huf:=Tryz.underlying87
 obtain⟨q,ad,cp,hP,hC0,hFq⟩:=hF
 rw [show valF U N a b c (.neg f)=notI N x by rw [← hx];rfl]
 have HV:=zqm hV
 have HP:=zqm hP
 have HC0:=zqm hC0
 have HFq:=zqm hFq
 have HLg:=zqm L
 have Ix:=zqm ix
 have IH:=zqm ih
 have HOK:=zqm hok
 clear hV hP hC0 hFq L ix ih hok hx
 go_enter Tryz.func22,Tryz.ntmps22
 go_wp2_with ((with_reducible refine gate_dst (N:=5) rfl ?_);refine box_event ?hg (N:=5) ?hd (cs:= #[.int .i64 a,.int .i64 b,.int .i64 c]) (t:=50) ?hr ?_;(case hd=>rfl);(case hg=>rfl);(case hr=> exact zq16);intro gb hg_ w1 hbox hb;have HX1:=zqm hbox;have HB1:=zqm hb;have HV1:=zqm (View.below HV.out hb);have HP1:=zqm (blk_below HP.out hb);have s1_:w1.cell? ⟨pf,0,none⟩=some (.int .u8 33):=(blk_cell HP1.out 0).trans rfl;have HC1_0:=zqm (cell_up HC0.out hb rfl);have HF1q:=zqm (FAt.below hb _ _ HFq.out);clear hbox hb hg_)
 have HV2:=zqm (View.below HV1.out (below_drew1 (Below.refl w1.heap.size w1)))
 have HP2:=zqm (blk_below HP1.out (below_drew1 (Below.refl w1.heap.size w1)))
 have HX2:=zqm (blk_below HX1.out (below_drew1 (Below.refl w1.heap.size w1)))
 have HC2_0:=zqm (cell_up HC1_0.out (below_drew1 (Below.refl w1.heap.size w1)) rfl)
 have HF2q:=zqm (FAt.below (below_drew1 (Below.refl w1.heap.size w1)) _ _ HF1q.out)
 have HB2:=zqm (below_drew1 HB1.out)
 refine start_ (n:=10) (S:=(fun w'=>w'.cell? ⟨pf,1,none⟩=some (.slice (some ⟨ad,0,none⟩) 1 cp)∧w'.cell? ⟨ad,0,none⟩=some (.pointer (some ⟨q,0,none⟩))∧w'.cell? ⟨gb,0,none⟩=some (.int .i64 a)∧w'.cell? ⟨gb,1,none⟩=some (.int .i64 b)∧w'.cell? ⟨gb,2,none⟩=some (.int .i64 c))) (ds:= []) (zqb 10 0) zqk rfl rfl ⟨(blk_cell HP2.out 1).trans rfl,HC2_0.out,(blk_cell HX2.out 0).trans rfl,(blk_cell HX2.out 1).trans rfl,(blk_cell HX2.out 2).trans rfl⟩ (fun hHeld=>?_)
 refine with_tabW alg_value.tab10 alg_value.bits10 (fun HT_ HW_=>?_)
 generalize w1.drew=w2 at hHeld HV2 HP2 HX2 HB2 HC2_0 HF2q ⊢
 refine zqp 0 36 (zqb 10 1) HT_ ?_
 refine zqp 1 37 (zqb 10 3) HT_ ?_
 refine zqp 2 38 (zqb 10 7) HT_ ?_
 refine zqp 3 39 (zqb 10 15) HT_ ?_
 refine zqw 4 40 (zqb 10 31) HT_ HW_ hHeld ?_
 refine zqp 5 41 (zqb 10 63) HT_ ?_
 refine zqw 6 42 (zqb 10 127) HT_ HW_ hHeld ?_
 refine zqw 7 43 (zqb 10 255) HT_ HW_ hHeld ?_
 refine one_ (i:=8) (N:=some 44) (zqb 10 511) rfl rfl (one_of HT_.out zqk) (by decide) (fun K hK=>?_)
 refine goes_ Tryz.func22 zqk rfl #[.pointer (some ⟨g,0,none⟩),.pointer (some ⟨q,0,none⟩),.agg #[.int .i64 a,.int .i64 b,.int .i64 c]] (by rfl) rfl rfl zq68 ?_
 refine(IH.out q w2 HV2.out HF2q.out HOK.out).mono ?_
 rintro e w3 ⟨rfl,hb⟩
 refine⟨_,rfl,?_⟩
 have HB3:=zqm (below_step HB2.out hb)
 have HV3:=zqm (View.below HV2.out hb)
 have HP3:=zqm (blk_below HP2.out hb)
 have HX3:=zqm (blk_below HX2.out hb)
 have HC3_0:=zqm (cell_up HC2_0.out hb rfl)
 have HF3q:=zqm (FAt.below hb _ _ HF2q.out)
 refine hK.out _ _ ⟨(blk_cell HP3.out 1).trans rfl,HC3_0.out,(blk_cell HX3.out 0).trans rfl,(blk_cell HX3.out 1).trans rfl,(blk_cell HX3.out 2).trans rfl⟩ (fun hHeld3=>?_)
 clear hK K hb
 refine norm_ (a':=?_) ?_ ?_
 rotate_left
 ·show Act.put _ (some 44) _=_
  simp only [Act.put,List.setIfInBounds_toArray,List.set_cons_zero,List.set_cons_succ,i64_w,i32_w]
  rfl
 refine zqp 9 7 (zqb 10 1023) HT_ ?_
 refine done_ (done_of HT_.out zqk) ?_
 clear hHeld hHeld3 s1_
 have s3_:w3.cell? ⟨pf,0,none⟩=some (.int .u8 33):=(blk_cell HP3.out 0).trans rfl
 have b0_:=eq_true Ix.out.1;have c0_:=eq_true Ix.out.2
 have hf3_:=HV3.out.f3
 have n2_:=HV3.out.n x Ix.out
 go_wp2
 go_ret
 exact⟨rfl,HB3.out⟩
set_option maxHeartbeats 4000000 in
set_option maxRecDepth 100000 in
theorem value_bin (g : Nat) (U : List (List Int)) (N : List Int) (v : Adr) (L : Logic U N) (a b c : Int) (z : Int) (hz : z = 38 ∨ z = 124) (f f' : Fm) (x y : Int) (hx : valF U N a b c f = x) (hy : valF U N a b c f' = y) (ix : In U x) (iy : In U y) (ih : ∀ (pf : Nat) (w : World), View w g U N v → FAt w pf f → f.ok → Calls Tryz.prog 22 #[.pointer (some ⟨g, 0, none⟩), .pointer (some ⟨pf, 0, none⟩), .agg #[.int .i64 a, .int .i64 b, .int .i64 c]] w fun e w' => e = .returned (.int .i64 x) ∧ Below w.heap.size w w') (ih' : ∀ (pf : Nat) (w : World), View w g U N v → FAt w pf f' → f'.ok → Calls Tryz.prog 22 #[.pointer (some ⟨g, 0, none⟩), .pointer (some ⟨pf, 0, none⟩), .agg #[.int .i64 a, .int .i64 b, .int .i64 c]] w fun e w' => e = .returned (.int .i64 y) ∧ Below w.heap.size w w') (hok : f.ok) (hok' : f'.ok) (pf : Nat) (w : World) (hV : View w g U N v) (hF : FAt w pf (.bin z f f')) :
 Calls Tryz.prog 22 #[.pointer (some ⟨g,0,none⟩),.pointer (some ⟨pf,0,none⟩),.agg #[.int .i64 a,.int .i64 b,.int .i64 c]] w fun e w'=>e= .returned (.int .i64 (valF U N a b c (.bin z f f')))∧Below w.heap.size w w':=by
 have hu70:=Tryz.underlying52
 have hu87:=Tryz.underlying50
 have huf:=Tryz.underlying87
 obtain⟨q,r,ad,cp,hP,hC0,hC1,hFq,hFr⟩:=hF
 have hv:valF U N a b c (.bin z f f')=if z=38 then andI U x y else orI U x y:=by rw [← hx,← hy];rfl
 rw [hv]
 have HV:=zqm hV
 have HC0:=zqm hC0
 have HC1:=zqm hC1
 have HFq:=zqm hFq
 have HFr:=zqm hFr
 have HLg:=zqm L
 have Ix:=zqm ix
 have Iy:=zqm iy
 have IH:=zqm ih
 have IH':=zqm ih'
 have HOK:=zqm hok
 have HOK':=zqm hok'
 clear hV hC0 hC1 hFq hFr L ix iy ih ih' hok hok' hx hy hv
 rcases hz with rfl|rfl
 ·have HP:=zqm hP
  clear hP
  rw [if_pos rfl]
  go_enter Tryz.func22,Tryz.ntmps22
  go_wp2_with ((with_reducible refine gate_dst (N:=5) rfl ?_);refine box_event ?hg (N:=5) ?hd (cs:= #[.int .i64 a,.int .i64 b,.int .i64 c]) (t:=50) ?hr ?_;(case hd=>rfl);(case hg=>rfl);(case hr=> exact zq16);intro gb hg_ w1 hbox hb;have HX1:=zqm hbox;have HB1:=zqm hb;have HV1:=zqm (View.below HV.out hb);have HP1:=zqm (blk_below HP.out hb);have s1_:w1.cell? ⟨pf,0,none⟩=some (.int .u8 38):=(blk_cell HP1.out 0).trans rfl;have HC1_0:=zqm (cell_up HC0.out hb rfl);have HC1_1:=zqm (cell_up HC1.out hb rfl);have HF1q:=zqm (FAt.below hb _ _ HFq.out);have HF1r:=zqm (FAt.below hb _ _ HFr.out);clear hbox hb hg_)
  have HV2:=zqm (View.below HV1.out (below_drew1 (Below.refl w1.heap.size w1)))
  have HP2:=zqm (blk_below HP1.out (below_drew1 (Below.refl w1.heap.size w1)))
  have HX2:=zqm (blk_below HX1.out (below_drew1 (Below.refl w1.heap.size w1)))
  have HC2_0:=zqm (cell_up HC1_0.out (below_drew1 (Below.refl w1.heap.size w1)) rfl)
  have HC2_1:=zqm (cell_up HC1_1.out (below_drew1 (Below.refl w1.heap.size w1)) rfl)
  have HF2q:=zqm (FAt.below (below_drew1 (Below.refl w1.heap.size w1)) _ _ HF1q.out)
  have HF2r:=zqm (FAt.below (below_drew1 (Below.refl w1.heap.size w1)) _ _ HF1r.out)
  have HB2:=zqm (below_drew1 HB1.out)
  refine start_ (n:=10) (S:=(fun w'=>w'.cell? ⟨pf,1,none⟩=some (.slice (some ⟨ad,0,none⟩) 2 cp)∧w'.cell? ⟨ad,0,none⟩=some (.pointer (some ⟨q,0,none⟩))∧w'.cell? ⟨gb,0,none⟩=some (.int .i64 a)∧w'.cell? ⟨gb,1,none⟩=some (.int .i64 b)∧w'.cell? ⟨gb,2,none⟩=some (.int .i64 c))) (ds:= []) (zqb 10 0) zqk rfl rfl ⟨(blk_cell HP2.out 1).trans rfl,HC2_0.out,(blk_cell HX2.out 0).trans rfl,(blk_cell HX2.out 1).trans rfl,(blk_cell HX2.out 2).trans rfl⟩ (fun hHeld=>?_)
  refine with_tabW alg_value.tab10 alg_value.bits10 (fun HT_ HW_=>?_)
  generalize w1.drew=w2 at hHeld HV2 HP2 HX2 HB2 HC2_0 HC2_1 HF2q HF2r ⊢
  refine zqp 0 36 (zqb 10 1) HT_ ?_
  refine zqp 1 37 (zqb 10 3) HT_ ?_
  refine zqp 2 38 (zqb 10 7) HT_ ?_
  refine zqp 3 39 (zqb 10 15) HT_ ?_
  refine zqw 4 40 (zqb 10 31) HT_ HW_ hHeld ?_
  refine zqp 5 41 (zqb 10 63) HT_ ?_
  refine zqw 6 42 (zqb 10 127) HT_ HW_ hHeld ?_
  refine zqw 7 43 (zqb 10 255) HT_ HW_ hHeld ?_
  refine one_ (i:=8) (N:=some 44) (zqb 10 511) rfl rfl (one_of HT_.out zqk) (by decide) (fun K hK=>?_)
  refine goes_ Tryz.func22 zqk rfl #[.pointer (some ⟨g,0,none⟩),.pointer (some ⟨q,0,none⟩),.agg #[.int .i64 a,.int .i64 b,.int .i64 c]] (by rfl) rfl rfl zq68 ?_
  refine(IH.out q w2 HV2.out HF2q.out HOK.out).mono ?_
  rintro e w3 ⟨rfl,hb⟩
  refine⟨_,rfl,?_⟩
  have HB3:=zqm (below_step HB2.out hb)
  have HV3:=zqm (View.below HV2.out hb)
  have HP3:=zqm (blk_below HP2.out hb)
  have HX3:=zqm (blk_below HX2.out hb)
  have HC3_0:=zqm (cell_up HC2_0.out hb rfl)
  have HC3_1:=zqm (cell_up HC2_1.out hb rfl)
  have HF3q:=zqm (FAt.below hb _ _ HF2q.out)
  have HF3r:=zqm (FAt.below hb _ _ HF2r.out)
  refine hK.out _ _ ⟨(blk_cell HP3.out 1).trans rfl,HC3_0.out,(blk_cell HX3.out 0).trans rfl,(blk_cell HX3.out 1).trans rfl,(blk_cell HX3.out 2).trans rfl⟩ (fun hHeld3=>?_)
  clear hK K hb
  refine norm_ (a':=?_) ?_ ?_
  rotate_left
  ·show Act.put _ (some 44) _=_
   simp only [Act.put,List.setIfInBounds_toArray,List.set_cons_zero,List.set_cons_succ,i64_w,i32_w]
   rfl
  refine zqp 9 7 (zqb 10 1023) HT_ ?_
  refine done_ (done_of HT_.out zqk) ?_
  clear hHeld hHeld3 s1_
  have s3_:w3.cell? ⟨pf,0,none⟩=some (.int .u8 38):=(blk_cell HP3.out 0).trans rfl
  go_wp2
  have HV4:=zqm (View.below HV3.out (below_drew1 (Below.refl w3.heap.size w3)))
  have HP4:=zqm (blk_below HP3.out (below_drew1 (Below.refl w3.heap.size w3)))
  have HX4:=zqm (blk_below HX3.out (below_drew1 (Below.refl w3.heap.size w3)))
  have HC4_0:=zqm (cell_up HC3_0.out (below_drew1 (Below.refl w3.heap.size w3)) rfl)
  have HC4_1:=zqm (cell_up HC3_1.out (below_drew1 (Below.refl w3.heap.size w3)) rfl)
  have HF4q:=zqm (FAt.below (below_drew1 (Below.refl w3.heap.size w3)) _ _ HF3q.out)
  have HF4r:=zqm (FAt.below (below_drew1 (Below.refl w3.heap.size w3)) _ _ HF3r.out)
  have HB4:=zqm (below_drew1 HB3.out)
  refine start_ (n:=10) (S:=(fun w'=>w'.cell? ⟨pf,1,none⟩=some (.slice (some ⟨ad,0,none⟩) 2 cp)∧w'.cell? ⟨ad,1,none⟩=some (.pointer (some ⟨r,0,none⟩))∧w'.cell? ⟨gb,0,none⟩=some (.int .i64 a)∧w'.cell? ⟨gb,1,none⟩=some (.int .i64 b)∧w'.cell? ⟨gb,2,none⟩=some (.int .i64 c))) (ds:= []) (zqb 10 0) zqk rfl rfl ⟨(blk_cell HP4.out 1).trans rfl,HC4_1.out,(blk_cell HX4.out 0).trans rfl,(blk_cell HX4.out 1).trans rfl,(blk_cell HX4.out 2).trans rfl⟩ (fun hHeld=>?_)
  refine with_tabW alg_value.tab13 alg_value.bits13 (fun HT_ HW_=>?_)
  generalize w3.drew=w4 at hHeld HV4 HP4 HX4 HB4 HC4_0 HC4_1 HF4q HF4r ⊢
  refine zqp 0 57 (zqb 10 1) HT_ ?_
  refine zqp 1 58 (zqb 10 3) HT_ ?_
  refine zqp 2 59 (zqb 10 7) HT_ ?_
  refine zqp 3 60 (zqb 10 15) HT_ ?_
  refine zqw 4 61 (zqb 10 31) HT_ HW_ hHeld ?_
  refine zqp 5 62 (zqb 10 63) HT_ ?_
  refine zqw 6 63 (zqb 10 127) HT_ HW_ hHeld ?_
  refine zqw 7 64 (zqb 10 255) HT_ HW_ hHeld ?_
  refine one_ (i:=8) (N:=some 65) (zqb 10 511) rfl rfl (one_of HT_.out zqk) (by decide) (fun K hK=>?_)
  refine goes_ Tryz.func22 zqk rfl #[.pointer (some ⟨g,0,none⟩),.pointer (some ⟨r,0,none⟩),.agg #[.int .i64 a,.int .i64 b,.int .i64 c]] (by rfl) rfl rfl zq68 ?_
  refine(IH'.out r w4 HV4.out HF4r.out HOK'.out).mono ?_
  rintro e w5 ⟨rfl,hb⟩
  refine⟨_,rfl,?_⟩
  have HB5:=zqm (below_step HB4.out hb)
  have HV5:=zqm (View.below HV4.out hb)
  have HP5:=zqm (blk_below HP4.out hb)
  have HX5:=zqm (blk_below HX4.out hb)
  have HC5_0:=zqm (cell_up HC4_0.out hb rfl)
  have HC5_1:=zqm (cell_up HC4_1.out hb rfl)
  have HF5q:=zqm (FAt.below hb _ _ HF4q.out)
  have HF5r:=zqm (FAt.below hb _ _ HF4r.out)
  refine hK.out _ _ ⟨(blk_cell HP5.out 1).trans rfl,HC5_1.out,(blk_cell HX5.out 0).trans rfl,(blk_cell HX5.out 1).trans rfl,(blk_cell HX5.out 2).trans rfl⟩ (fun hHeld5=>?_)
  clear hK K hb
  refine norm_ (a':=?_) ?_ ?_
  rotate_left
  ·show Act.put _ (some 65) _=_
   simp only [Act.put,List.setIfInBounds_toArray,List.set_cons_zero,List.set_cons_succ,i64_w,i32_w]
   rfl
  refine zqp 9 8 (zqb 10 1023) HT_ ?_
  refine done_ (done_of HT_.out zqk) ?_
  clear hHeld hHeld5 s3_
  have s5_:w5.cell? ⟨pf,0,none⟩=some (.int .u8 38):=(blk_cell HP5.out 0).trans rfl
  have b0_:=eq_true Ix.out.1;have c0_:=eq_true Ix.out.2
  have b1_:=eq_true Iy.out.1;have c1_:=eq_true Iy.out.2
  have hf1_:=HV5.out.f1
  have r3_:=HV5.out.m x Ix.out
  have s4_:=HV5.out.m2 x y Ix.out Iy.out
  go_wp2
  go_ret
  exact⟨rfl,HB5.out⟩
 ·have HP:=zqm hP
  clear hP
  rw [if_neg (by decide)]
  go_enter Tryz.func22,Tryz.ntmps22
  go_wp2_with ((with_reducible refine gate_dst (N:=5) rfl ?_);refine box_event ?hg (N:=5) ?hd (cs:= #[.int .i64 a,.int .i64 b,.int .i64 c]) (t:=50) ?hr ?_;(case hd=>rfl);(case hg=>rfl);(case hr=> exact zq16);intro gb hg_ w1 hbox hb;have HX1:=zqm hbox;have HB1:=zqm hb;have HV1:=zqm (View.below HV.out hb);have HP1:=zqm (blk_below HP.out hb);have s1_:w1.cell? ⟨pf,0,none⟩=some (.int .u8 124):=(blk_cell HP1.out 0).trans rfl;have HC1_0:=zqm (cell_up HC0.out hb rfl);have HC1_1:=zqm (cell_up HC1.out hb rfl);have HF1q:=zqm (FAt.below hb _ _ HFq.out);have HF1r:=zqm (FAt.below hb _ _ HFr.out);clear hbox hb hg_)
  have HV2:=zqm (View.below HV1.out (below_drew1 (Below.refl w1.heap.size w1)))
  have HP2:=zqm (blk_below HP1.out (below_drew1 (Below.refl w1.heap.size w1)))
  have HX2:=zqm (blk_below HX1.out (below_drew1 (Below.refl w1.heap.size w1)))
  have HC2_0:=zqm (cell_up HC1_0.out (below_drew1 (Below.refl w1.heap.size w1)) rfl)
  have HC2_1:=zqm (cell_up HC1_1.out (below_drew1 (Below.refl w1.heap.size w1)) rfl)
  have HF2q:=zqm (FAt.below (below_drew1 (Below.refl w1.heap.size w1)) _ _ HF1q.out)
  have HF2r:=zqm (FAt.below (below_drew1 (Below.refl w1.heap.size w1)) _ _ HF1r.out)
  have HB2:=zqm (below_drew1 HB1.out)
  refine start_ (n:=10) (S:=(fun w'=>w'.cell? ⟨pf,1,none⟩=some (.slice (some ⟨ad,0,none⟩) 2 cp)∧w'.cell? ⟨ad,0,none⟩=some (.pointer (some ⟨q,0,none⟩))∧w'.cell? ⟨gb,0,none⟩=some (.int .i64 a)∧w'.cell? ⟨gb,1,none⟩=some (.int .i64 b)∧w'.cell? ⟨gb,2,none⟩=some (.int .i64 c))) (ds:= []) (zqb 10 0) zqk rfl rfl ⟨(blk_cell HP2.out 1).trans rfl,HC2_0.out,(blk_cell HX2.out 0).trans rfl,(blk_cell HX2.out 1).trans rfl,(blk_cell HX2.out 2).trans rfl⟩ (fun hHeld=>?_)
  refine with_tabW alg_value.tab10 alg_value.bits10 (fun HT_ HW_=>?_)
  generalize w1.drew=w2 at hHeld HV2 HP2 HX2 HB2 HC2_0 HC2_1 HF2q HF2r ⊢
  refine zqp 0 36 (zqb 10 1) HT_ ?_
  refine zqp 1 37 (zqb 10 3) HT_ ?_
  refine zqp 2 38 (zqb 10 7) HT_ ?_
  refine zqp 3 39 (zqb 10 15) HT_ ?_
  refine zqw 4 40 (zqb 10 31) HT_ HW_ hHeld ?_
  refine zqp 5 41 (zqb 10 63) HT_ ?_
  refine zqw 6 42 (zqb 10 127) HT_ HW_ hHeld ?_
  refine zqw 7 43 (zqb 10 255) HT_ HW_ hHeld ?_
  refine one_ (i:=8) (N:=some 44) (zqb 10 511) rfl rfl (one_of HT_.out zqk) (by decide) (fun K hK=>?_)
  refine goes_ Tryz.func22 zqk rfl #[.pointer (some ⟨g,0,none⟩),.pointer (some ⟨q,0,none⟩),.agg #[.int .i64 a,.int .i64 b,.int .i64 c]] (by rfl) rfl rfl zq68 ?_
  refine(IH.out q w2 HV2.out HF2q.out HOK.out).mono ?_
  rintro e w3 ⟨rfl,hb⟩
  refine⟨_,rfl,?_⟩
  have HB3:=zqm (below_step HB2.out hb)
  have HV3:=zqm (View.below HV2.out hb)
  have HP3:=zqm (blk_below HP2.out hb)
  have HX3:=zqm (blk_below HX2.out hb)
  have HC3_0:=zqm (cell_up HC2_0.out hb rfl)
  have HC3_1:=zqm (cell_up HC2_1.out hb rfl)
  have HF3q:=zqm (FAt.below hb _ _ HF2q.out)
  have HF3r:=zqm (FAt.below hb _ _ HF2r.out)
  refine hK.out _ _ ⟨(blk_cell HP3.out 1).trans rfl,HC3_0.out,(blk_cell HX3.out 0).trans rfl,(blk_cell HX3.out 1).trans rfl,(blk_cell HX3.out 2).trans rfl⟩ (fun hHeld3=>?_)
  clear hK K hb
  refine norm_ (a':=?_) ?_ ?_
  rotate_left
  ·show Act.put _ (some 44) _=_
   simp only [Act.put,List.setIfInBounds_toArray,List.set_cons_zero,List.set_cons_succ,i64_w,i32_w]
   rfl
  refine zqp 9 7 (zqb 10 1023) HT_ ?_
  refine done_ (done_of HT_.out zqk) ?_
  clear hHeld hHeld3 s1_
  have s3_:w3.cell? ⟨pf,0,none⟩=some (.int .u8 124):=(blk_cell HP3.out 0).trans rfl
  go_wp2
  have HV4:=zqm (View.below HV3.out (below_drew1 (Below.refl w3.heap.size w3)))
  have HP4:=zqm (blk_below HP3.out (below_drew1 (Below.refl w3.heap.size w3)))
  have HX4:=zqm (blk_below HX3.out (below_drew1 (Below.refl w3.heap.size w3)))
  have HC4_0:=zqm (cell_up HC3_0.out (below_drew1 (Below.refl w3.heap.size w3)) rfl)
  have HC4_1:=zqm (cell_up HC3_1.out (below_drew1 (Below.refl w3.heap.size w3)) rfl)
  have HF4q:=zqm (FAt.below (below_drew1 (Below.refl w3.heap.size w3)) _ _ HF3q.out)
  have HF4r:=zqm (FAt.below (below_drew1 (Below.refl w3.heap.size w3)) _ _ HF3r.out)
  have HB4:=zqm (below_drew1 HB3.out)
  refine start_ (n:=10) (S:=(fun w'=>w'.cell? ⟨pf,1,none⟩=some (.slice (some ⟨ad,0,none⟩) 2 cp)∧w'.cell? ⟨ad,1,none⟩=some (.pointer (some ⟨r,0,none⟩))∧w'.cell? ⟨gb,0,none⟩=some (.int .i64 a)∧w'.cell? ⟨gb,1,none⟩=some (.int .i64 b)∧w'.cell? ⟨gb,2,none⟩=some (.int .i64 c))) (ds:= []) (zqb 10 0) zqk rfl rfl ⟨(blk_cell HP4.out 1).trans rfl,HC4_1.out,(blk_cell HX4.out 0).trans rfl,(blk_cell HX4.out 1).trans rfl,(blk_cell HX4.out 2).trans rfl⟩ (fun hHeld=>?_)
  refine with_tabW alg_value.tab13 alg_value.bits13 (fun HT_ HW_=>?_)
  generalize w3.drew=w4 at hHeld HV4 HP4 HX4 HB4 HC4_0 HC4_1 HF4q HF4r ⊢
  refine zqp 0 57 (zqb 10 1) HT_ ?_
  refine zqp 1 58 (zqb 10 3) HT_ ?_
  refine zqp 2 59 (zqb 10 7) HT_ ?_
  refine zqp 3 60 (zqb 10 15) HT_ ?_
  refine zqw 4 61 (zqb 10 31) HT_ HW_ hHeld ?_
  refine zqp 5 62 (zqb 10 63) HT_ ?_
  refine zqw 6 63 (zqb 10 127) HT_ HW_ hHeld ?_
  refine zqw 7 64 (zqb 10 255) HT_ HW_ hHeld ?_
  refine one_ (i:=8) (N:=some 65) (zqb 10 511) rfl rfl (one_of HT_.out zqk) (by decide) (fun K hK=>?_)
  refine goes_ Tryz.func22 zqk rfl #[.pointer (some ⟨g,0,none⟩),.pointer (some ⟨r,0,none⟩),.agg #[.int .i64 a,.int .i64 b,.int .i64 c]] (by rfl) rfl rfl zq68 ?_
  refine(IH'.out r w4 HV4.out HF4r.out HOK'.out).mono ?_
  rintro e w5 ⟨rfl,hb⟩
  refine⟨_,rfl,?_⟩
  have HB5:=zqm (below_step HB4.out hb)
  have HV5:=zqm (View.below HV4.out hb)
  have HP5:=zqm (blk_below HP4.out hb)
  have HX5:=zqm (blk_below HX4.out hb)
  have HC5_0:=zqm (cell_up HC4_0.out hb rfl)
  have HC5_1:=zqm (cell_up HC4_1.out hb rfl)
  have HF5q:=zqm (FAt.below hb _ _ HF4q.out)
  have HF5r:=zqm (FAt.below hb _ _ HF4r.out)
  refine hK.out _ _ ⟨(blk_cell HP5.out 1).trans rfl,HC5_1.out,(blk_cell HX5.out 0).trans rfl,(blk_cell HX5.out 1).trans rfl,(blk_cell HX5.out 2).trans rfl⟩ (fun hHeld5=>?_)
  clear hK K hb
  refine norm_ (a':=?_) ?_ ?_
  rotate_left
  ·show Act.put _ (some 65) _=_
   simp only [Act.put,List.setIfInBounds_toArray,List.set_cons_zero,List.set_cons_succ,i64_w,i32_w]
   rfl
  refine zqp 9 8 (zqb 10 1023) HT_ ?_
  refine done_ (done_of HT_.out zqk) ?_
  clear hHeld hHeld5 s3_
  have s5_:w5.cell? ⟨pf,0,none⟩=some (.int .u8 124):=(blk_cell HP5.out 0).trans rfl
  have b0_:=eq_true Ix.out.1;have c0_:=eq_true Ix.out.2
  have b1_:=eq_true Iy.out.1;have c1_:=eq_true Iy.out.2
  have hf2_:=HV5.out.f2
  have r3_:=HV5.out.j x Ix.out
  have s4_:=HV5.out.j2 x y Ix.out Iy.out
  go_wp2
  go_ret
  exact⟨rfl,HB5.out⟩
theorem value_calls (g : Nat) (U : List (List Int)) (N : List Int) (v : Adr) (L : Logic U N) (a b c : Int) (ia : In U a) (ib : In U b) (ic : In U c) : ∀ (f : Fm) (pf : Nat) (w : World), View w g U N v → FAt w pf f → f.ok →
 Calls Tryz.prog 22 #[.pointer (some ⟨g,0,none⟩),.pointer (some ⟨pf,0,none⟩),.agg #[.int .i64 a,.int .i64 b,.int .i64 c]] w fun e w'=>e= .returned (.int .i64 (valF U N a b c f))∧Below w.heap.size w w'
 | .leaf x,pf,w,hV,hF,hok=>value_leaf g U N v L a b c x hok pf w hV hF
 | .neg f,pf,w,hV,hF,hok=>value_neg g U N v L a b c f _ rfl (in_val L ia ib ic f) (value_calls g U N v L a b c ia ib ic f) hok pf w hV hF
 | .bin z f f',pf,w,hV,hF,hok=>value_bin g U N v L a b c z hok.1 f f' _ _ rfl rfl (in_val L ia ib ic f) (in_val L ia ib ic f') (value_calls g U N v L a b c ia ib ic f) (value_calls g U N v L a b c ia ib ic f') hok.2.1 hok.2.2 pf w hV hF
def impl_ValueOf.f (l0_0 : List (List Int)) (l0_1 : List Int) (a1 : ByteArray) (a2 : Int) (a3 : Int) (a4 : Int) : Option (Int) := some (match fmOf a1 with
 |none=> -1
 |some f=>if logicB l0_0 l0_1=true then(if [a2,a3,a4].all (inR l0_0.length)=true then valF l0_0 l0_1 a2 a3 a4 f else -1) else -1)
set_option maxHeartbeats 4000000 in
theorem impl_ValueOf.calls (A0_0 : Option Addr) (c0_0 : Nat) (l0_0 : List (List Int)) (A0_1 : Option Addr) (c0_1 : Nat) (l0_1 : List Int) (a1 : ByteArray) (a2 : Int) (a3 : Int) (a4 : Int) (r : Int) (w : World) (hr0_0 : Kd.C (Kd.slice 3 (Kd.int .i64)) w A0_0 l0_0.length l0_0) (hc0_0 : l0_0.length ≤ c0_0) (hr0_1 : Kd.C (Kd.int .i64) w A0_1 l0_1.length l0_1) (hc0_1 : l0_1.length ≤ c0_1) (h : impl_ValueOf.f l0_0 l0_1 a1 a2 a3 a4 = some r) :
 Calls Tryz.prog 10 #[.agg #[.slice A0_0 l0_0.length c0_0,.slice A0_1 l0_1.length c0_1],.string a1,.int .i64 a2,.int .i64 a3,.int .i64 a4] w fun e w'=>e= .returned (.int .i64 r)∧Below w.heap.size w w':=by
 obtain⟨k,hF⟩:=told_facts l0_0
 have hu30:=Tryz.underlying30
 have hu70:=Tryz.underlying52
 have HF:=zqm hF
 have HR0:=zqm hr0_0
 have HC0:=zqm hc0_0
 have HR1:=zqm hr0_1
 have HC1:=zqm hc0_1
 simp only [impl_ValueOf.f,Option.some.injEq] at h
 clear hr0_0 hc0_0 hr0_1 hc0_1 hF
 have hu87:=Tryz.underlying50
 cases hfm:fmOf a1 with
 |none=>
  rw [hfm] at h
  have hr_:(-1)=r:=by simpa using h
  subst hr_
  have HFM:=zqm hfm
  cases hL:logicB l0_0 l0_1 with
  |false=>
   have HLB:=zqm hL
   clear h hL hfm
   go_enter Tryz.func10,Tryz.ntmps10
   go_wp2_with (first|((with_reducible refine gate_dst (N:=5) rfl ?_);refine box_event ?hg (N:=5) ?hd (cs:= #[.slice A0_0 l0_0.length c0_0,.slice A0_1 l0_1.length c0_1]) (t:=30) ?hr ?_;(case hd=>rfl);(case hg=>rfl);(case hr=> exact zq16);intro gb hg_ w1 hbox hb;have HB:=zqm hb;have hx0:w1.cell? ⟨gb,0,none⟩=some (.slice A0_0 l0_0.length c0_0):=(blk_cell hbox 0).trans rfl;have hx1:w1.cell? ⟨gb,1,none⟩=some (.slice A0_1 l0_1.length c0_1):=(blk_cell hbox 1).trans rfl;have HX:=zqm hbox;clear hbox hb hg_)|(go_at_call 20;(with_reducible refine(told_n k _ _ l0_0 _ _ l0_1 _ ?s1 ?s2 ?s3 ?s4 HF.out HLB.out).mono ?_);(case s1=> exact zq97);(case s2=>exact HC0.out);(case s3=> exact zq105);(case s4=>exact HC1.out);rintro e w2 ⟨rfl,hb⟩;have HB2:=zqm (below_step HB.out hb);clear hb hx0 hx1 HX HB)|(go_at_call 17;(with_reducible refine(formulaOf_calls a1 _).mono ?_);rintro e w3 ⟨hb,hm⟩;rw [HFM.out] at hm;obtain rfl:=hm;have HB3:=zqm (below_step HB2.out hb);clear hb))
   go_ret
   exact⟨rfl,HB3.out⟩
  |true=>
   have HLB:=zqm hL
   clear h hL hfm
   go_enter Tryz.func10,Tryz.ntmps10
   go_wp2_with (first|((with_reducible refine gate_dst (N:=5) rfl ?_);refine box_event ?hg (N:=5) ?hd (cs:= #[.slice A0_0 l0_0.length c0_0,.slice A0_1 l0_1.length c0_1]) (t:=30) ?hr ?_;(case hd=>rfl);(case hg=>rfl);(case hr=> exact zq16);intro gb hg_ w1 hbox hb;have HB:=zqm hb;have hx0:w1.cell? ⟨gb,0,none⟩=some (.slice A0_0 l0_0.length c0_0):=(blk_cell hbox 0).trans rfl;have hx1:w1.cell? ⟨gb,1,none⟩=some (.slice A0_1 l0_1.length c0_1):=(blk_cell hbox 1).trans rfl;have HX:=zqm hbox;clear hbox hb hg_)|(go_at_call 20;(with_reducible refine(told_y k _ _ l0_0 _ _ l0_1 _ ?s1 ?s2 ?s3 ?s4 HF.out HLB.out).mono ?_);(case s1=> exact zq97);(case s2=>exact HC0.out);(case s3=> exact zq105);(case s4=>exact HC1.out);rintro e w2 ⟨g,v,rfl,hv,hge,hb⟩;have HB2:=zqm (below_step HB.out hb);have HV:=zqm hv;clear hv hge hb hx0 hx1 HX HB)|(go_at_call 17;(with_reducible refine(formulaOf_calls a1 _).mono ?_);rintro e w3 ⟨hb,hm⟩;rw [HFM.out] at hm;obtain rfl:=hm;have HB3:=zqm (below_step HB2.out hb);clear hb))
   go_ret
   exact⟨rfl,HB3.out⟩
 |some f=>
  have HOK:=zqm (fmOf_ok hfm)
  rw [hfm] at h
  have HFM:=zqm hfm
  cases hL:logicB l0_0 l0_1 with
  |false=>
   rw [hL] at h
   have hr_:(-1)=r:=by simpa using h
   subst hr_
   have HLB:=zqm hL
   clear h hL hfm
   go_enter Tryz.func10,Tryz.ntmps10
   go_wp2_with (first|((with_reducible refine gate_dst (N:=5) rfl ?_);refine box_event ?hg (N:=5) ?hd (cs:= #[.slice A0_0 l0_0.length c0_0,.slice A0_1 l0_1.length c0_1]) (t:=30) ?hr ?_;(case hd=>rfl);(case hg=>rfl);(case hr=> exact zq16);intro gb hg_ w1 hbox hb;have HB:=zqm hb;have hx0:w1.cell? ⟨gb,0,none⟩=some (.slice A0_0 l0_0.length c0_0):=(blk_cell hbox 0).trans rfl;have hx1:w1.cell? ⟨gb,1,none⟩=some (.slice A0_1 l0_1.length c0_1):=(blk_cell hbox 1).trans rfl;have HX:=zqm hbox;clear hbox hb hg_)|(go_at_call 20;(with_reducible refine(told_n k _ _ l0_0 _ _ l0_1 _ ?s1 ?s2 ?s3 ?s4 HF.out HLB.out).mono ?_);(case s1=> exact zq97);(case s2=>exact HC0.out);(case s3=> exact zq105);(case s4=>exact HC1.out);rintro e w2 ⟨rfl,hb⟩;have HB2:=zqm (below_step HB.out hb);clear hb hx0 hx1 HX HB)|(go_at_call 17;(with_reducible refine(formulaOf_calls a1 _).mono ?_);rintro e w3 ⟨hb,hm⟩;rw [HFM.out] at hm;obtain⟨pf,rfl,hf⟩:=hm;have HB3:=zqm (below_step HB2.out hb);have HF3:=zqm hf;clear hb hf)|(go_at_call 21;(with_reducible refine(knows_nil _ _ _ _).mono ?_);rintro e w4 ⟨rfl,hb⟩;have HB4:=zqm (below_step (by repeat(first|exact HB3.out|apply below_alloc|apply pw_below_drewN|apply below_drew1)) hb);clear hb))
   go_ret
   exact⟨rfl,HB4.out⟩
  |true=>
   have HLB:=zqm hL
   have HLg:=zqm (logicB_iff.1 hL)
   cases hin: [a2,a3,a4].all (inR l0_0.length) with
   |false=>
    rw [hL] at h
    simp only [hin] at h
    have hr_:(-1)=r:=by simpa using h
    subst hr_
    have HIN:=zqm hin
    clear h hL hin hfm
    go_enter Tryz.func10,Tryz.ntmps10
    go_wp2_with (first|((with_reducible refine gate_dst (N:=5) rfl ?_);refine box_event ?hg (N:=5) ?hd (cs:= #[.slice A0_0 l0_0.length c0_0,.slice A0_1 l0_1.length c0_1]) (t:=30) ?hr ?_;(case hd=>rfl);(case hg=>rfl);(case hr=> exact zq16);intro gb hg_ w1 hbox hb;have HB:=zqm hb;have hx0:w1.cell? ⟨gb,0,none⟩=some (.slice A0_0 l0_0.length c0_0):=(blk_cell hbox 0).trans rfl;have hx1:w1.cell? ⟨gb,1,none⟩=some (.slice A0_1 l0_1.length c0_1):=(blk_cell hbox 1).trans rfl;have HX:=zqm hbox;clear hbox hb hg_)|(go_at_call 20;(with_reducible refine(told_y k _ _ l0_0 _ _ l0_1 _ ?s1 ?s2 ?s3 ?s4 HF.out HLB.out).mono ?_);(case s1=> exact zq97);(case s2=>exact HC0.out);(case s3=> exact zq105);(case s4=>exact HC1.out);rintro e w2 ⟨g,v,rfl,hv,hge,hb⟩;have HB2:=zqm (below_step HB.out hb);have HV:=zqm hv;clear hv hge hb hx0 hx1 HX HB)|(go_at_call 17;(with_reducible refine(formulaOf_calls a1 _).mono ?_);rintro e w3 ⟨hb,hm⟩;rw [HFM.out] at hm;obtain⟨pf,rfl,hf⟩:=hm;have HB3:=zqm (below_step HB2.out hb);have HF3:=zqm hf;have HV3:=zqm (View.below HV.out hb);clear hb hf)|(go_at_call 21;(with_reducible refine(knows_calls g l0_0 l0_1 v _ HLg.out ?s1 _ _ [a2,a3,a4] 3 rfl ?s2 (by omega) false HIN.out).mono ?_);(case s1=>exact View.alloc HV3.out _);(case s2=>exact lit_C _ _ [a2,a3,a4] (by simp));rintro e w4 ⟨rfl,hb⟩;have HB4:=zqm (below_step (below_alloc HB3.out _) hb);have HV4:=zqm (View.below (View.alloc HV3.out _) hb);have HF4:=zqm (FAt.below hb _ _ (FAt.below (below_alloc (Below.refl _ _) _) _ _ HF3.out));clear hb))
    go_ret
    exact⟨rfl,HB4.out⟩
   |true=>
    rw [hL] at h
    simp only [hin] at h
    have hr_:valF l0_0 l0_1 a2 a3 a4 f=r:=by simpa using h
    subst hr_
    have HIN:=zqm hin
    have hin2:=hin
    simp only [List.all_cons,List.all_nil,Bool.and_true,Bool.and_eq_true,inR_iff] at hin2
    have Ia2:=zqm hin2.1
    have Ia3:=zqm hin2.2.1
    have Ia4:=zqm hin2.2.2
    clear h hL hin hin2 hfm
    go_enter Tryz.func10,Tryz.ntmps10
    go_wp2_with (first|((with_reducible refine gate_dst (N:=5) rfl ?_);refine box_event ?hg (N:=5) ?hd (cs:= #[.slice A0_0 l0_0.length c0_0,.slice A0_1 l0_1.length c0_1]) (t:=30) ?hr ?_;(case hd=>rfl);(case hg=>rfl);(case hr=> exact zq16);intro gb hg_ w1 hbox hb;have HB:=zqm hb;have hx0:w1.cell? ⟨gb,0,none⟩=some (.slice A0_0 l0_0.length c0_0):=(blk_cell hbox 0).trans rfl;have hx1:w1.cell? ⟨gb,1,none⟩=some (.slice A0_1 l0_1.length c0_1):=(blk_cell hbox 1).trans rfl;have HX:=zqm hbox;clear hbox hb hg_)|(go_at_call 20;(with_reducible refine(told_y k _ _ l0_0 _ _ l0_1 _ ?s1 ?s2 ?s3 ?s4 HF.out HLB.out).mono ?_);(case s1=> exact zq97);(case s2=>exact HC0.out);(case s3=> exact zq105);(case s4=>exact HC1.out);rintro e w2 ⟨g,v,rfl,hv,hge,hb⟩;have HB2:=zqm (below_step HB.out hb);have HV:=zqm hv;clear hv hge hb hx0 hx1 HX HB)|(go_at_call 17;(with_reducible refine(formulaOf_calls a1 _).mono ?_);rintro e w3 ⟨hb,hm⟩;rw [HFM.out] at hm;obtain⟨pf,rfl,hf⟩:=hm;have HB3:=zqm (below_step HB2.out hb);have HF3:=zqm hf;have HV3:=zqm (View.below HV.out hb);clear hb hf)|(go_at_call 21;(with_reducible refine(knows_calls g l0_0 l0_1 v _ HLg.out ?s1 _ _ [a2,a3,a4] 3 rfl ?s2 (by omega) true HIN.out).mono ?_);(case s1=>exact View.alloc HV3.out _);(case s2=>exact lit_C _ _ [a2,a3,a4] (by simp));rintro e w4 ⟨rfl,hb⟩;have HB4:=zqm (below_step (below_alloc HB3.out _) hb);have HV4:=zqm (View.below (View.alloc HV3.out _) hb);have HF4:=zqm (FAt.below hb _ _ (FAt.below (below_alloc (Below.refl _ _) _) _ _ HF3.out));clear hb)|(go_at_call 22;(with_reducible refine(value_calls g l0_0 l0_1 v HLg.out a2 a3 a4 Ia2.out Ia3.out Ia4.out f pf _ HV4.out HF4.out HOK.out).mono ?_);rintro e w5 ⟨rfl,hb⟩;have HB5:=zqm (below_step HB4.out hb);clear hb))
    go_ret
    exact⟨rfl,HB5.out⟩
end Go.Proofs.YtbomiegcbimgoaaGreat.Print
end
section
namespace Go.Proofs.YtbomiegcbimgoaaGreat.Print
open Go.RowKit Go.Proofs.YtbomiegcbimgoaaGreatW.PrintWords Go.Proofs.YtbomiegcbimgoaaGreatW.PrintLast Go.Proofs.YtbomiegcbimgoaaGreatW.PrintMore
section
attribute [local go_sem] max2_int min2_int max_two min_two max_three min_three max_four min_four
mutual
def laws_FnDualOf.j0 : Nat → List Int → List Int → Bool → Option (Bool)
 | 0, _, _, _ => none
 | k + 1, x0, x1, x20 => if x20 = true then (some true) else ((spec_DrawDualOf.f k x0).bind fun t540 => ((impl_DualOf.f t540).bind fun t541 => ((spec_DualOf.f k t540).bind fun t542 => (if t541.toList = t542.toList then (if t541.toList = ([] : List UInt8) then ((impl_FormulaOk.f t540).bind fun t543 => (if t543 = true then (some false) else ((laws_alive.f k).bind fun t544 => (some t544)))) else ((spec_DrawValueOf.f k x1).bind fun bt545 => ((impl_ValueOf.f bt545.1 bt545.2.1 t540 bt545.2.2.2.1 bt545.2.2.2.2.1 bt545.2.2.2.2.2).bind fun t556 => (if t556 ≥ 0 then ((impl_NotOf.f bt545.1 bt545.2.1 bt545.2.2.2.1).bind fun t557 => ((impl_NotOf.f bt545.1 bt545.2.1 bt545.2.2.2.2.1).bind fun t558 => ((impl_NotOf.f bt545.1 bt545.2.1 bt545.2.2.2.2.2).bind fun t559 => ((impl_ValueOf.f bt545.1 bt545.2.1 t541 t557 t558 t559).bind fun t560 => ((impl_NotOf.f bt545.1 bt545.2.1 t556).bind fun t561 => (laws_FnDualOf.j1 k t540 t541 (t560 != t561))))))) else (laws_FnDualOf.j1 k t540 t541 false))))) else (some false)))))
def laws_FnDualOf.j1 : Nat → ByteArray → ByteArray → Bool → Option (Bool)
 | 0, _, _, _ => none
 | k + 1, x5, x6, x70 => if x70 = true then (some false) else ((impl_DualOf.f x6).bind fun t562 => (if t562.toList = x5.toList then ((impl_FormulaOk.f x6).bind fun t563 => (if t563 = true then ((laws_alive.f k).bind fun t564 => (some t564)) else (some false))) else (some false)))
end
def laws_FnDualOf.f (k : Nat) (l0 : List Int) (l1 : List Int) : Option (Bool) := if (l0.length : Int) > 1048576 then (laws_FnDualOf.j0 k l0 l1 true) else (laws_FnDualOf.j0 k l0 l1 (decide ((l1.length : Int) > 1048576)))
def laws_FnDualOf.T11 : Bool × List (List Nat × List Nat) := (true, [([], []), ([0], [0]), ([1], [1]), ([2], [2]), ([2], [2]), ([2], [2]), ([2], [2]), ([5, 6, 2, 2], [2, 5, 6]), ([2], [2]), ([2], [2]), ([8, 9, 7, 2], [2, 8, 9]), ([2], [2]), ([2], [2]), ([11, 12, 10, 2], [2, 11, 12]), ([3, 4, 7, 10, 13, 13, 2], [2, 3, 4, 7, 10, 13]), ([2], [2]), ([2], [2]), ([15, 16, 14, 2], [2, 15, 16]), ([14, 17, 2], [2, 14, 17]), ([2, 18], [2, 18])])
def laws_FnDualOf.B11 : List Nat := [0, 1, 3, 7, 7, 7, 7, 103, 7, 7, 999, 7, 7, 8167, 16383, 7, 7, 131071, 262143, 524287]
theorem laws_FnDualOf.tab11 : rtab .any (opsOf Tryz.f3 11) = laws_FnDualOf.T11 := by kernel_rfl
theorem laws_FnDualOf.bits11 : waitsOk laws_FnDualOf.T11.2 laws_FnDualOf.B11 = true := by kernel_rfl
set_option maxHeartbeats 8000000 in
set_option maxRecDepth 100000 in
theorem laws_FnDualOf.calls (k : Nat) (A0 : Option Addr) (c0 : Nat) (l0 : List Int) (A1 : Option Addr) (c1 : Nat) (l1 : List Int) (r : Bool) (hrt : r = true) (w : World) (hr0 : Kd.C (Kd.int .u8) w A0 l0.length l0) (hc0 : l0.length ≤ c0) (hr1 : Kd.C (Kd.int .u8) w A1 l1.length l1) (hc1 : l1.length ≤ c1) (h : laws_FnDualOf.f k l0 l1 = some r) :
  Calls Tryz.prog 3 #[.slice A0 l0.length c0, .slice A1 l1.length c1] w fun e w' => e = .returned (.bool r) ∧ Below w.heap.size w w' := by
 have hu30:=Tryz.underlying30;have h4:=zqm hr0;have h2:=zqm hc0;clear hr0 hc0;have k4:=zqm hr1;have k3:=zqm hc1;clear hr1 hc1;have HB:=zqm (Below.refl w.heap.size w);have H:(if(l0.length:Int)>1048576 then(laws_FnDualOf.j0 k l0 l1 true) else(laws_FnDualOf.j0 k l0 l1 (decide ((l1.length:Int)>1048576))))=some r:=h;clear h;have g2:=zqm H;clear H
 go_enter Tryz.func3,Tryz.ntmps3
 go_upto_region 1 with (fail)
 go_cut [20] (fun k5 wc=> ∃(kq:Nat) (c2:Bool),k5= .bool c2∧Aside0 (laws_FnDualOf.j0 kq l0 l1 c2=some r)∧Aside0 (kq≤k)∧Aside0 (Below w.heap.size w wc))
 case first=>
  have H:=g2.out;clear g2
  by_cases c4:(l0.length:Int)>1048576
  ·rw [if_pos c4] at H;have b4:decide (1048576<(l0.length:Int))=true:=decide_eq_true c4;have d7:decide (1048576<l0.length)=true:=decide_eq_true (by omega);clear c4;(first|rw [b4]|(simp only [i64_w,i32_w];rw [b4])|skip);have H':=zqm H;clear H
   go_wp2
   go_meet
   case rel=>exact⟨_,(true),zq8,H',⟨zq52⟩,⟨zq5⟩⟩
  ·rw [if_neg c4] at H;have b4:decide (1048576<(l0.length:Int))=false:=decide_eq_false c4;have d7:decide (1048576<l0.length)=false:=decide_eq_false (by omega);clear c4;(first|rw [b4]|(simp only [i64_w,i32_w];rw [b4])|skip);have H':=zqm H;clear H
   go_wp2
   go_meet
   case rel=>exact⟨_,(decide ((l1.length:Int)>1048576)),zq8,H',⟨zq52⟩,⟨zq5⟩⟩
 case rest=>
  clear g2;(try clear c1);(try clear p2);(try clear c3);(try clear c4);(try clear b4);(try clear d7);obtain⟨kq,c2,rfl,HA,h3,HB⟩:=hcut
  cases kq with
  |zero=>exact absurd HA.out (by simp [laws_FnDualOf.j0])
  |succ d1=>
   have H:=HA.out;clear HA;simp only [laws_FnDualOf.j0] at H
   by_cases c5:c2=true
   ·subst c5;rw [if_pos rfl] at H;obtain rfl:=Option.some.inj H
    go_wp2
    go_ret
    exact⟨zq18,zq5⟩
   ·replace c5:=Bool.eq_false_iff.mpr c5;subst c5;rw [if_neg (show¬(false=true) by decide)] at H;replace H:=Option.bind_eq_some_iff.mp H;obtain⟨b0,g9,H⟩:=H;(try dsimp only at H);have A6:=zqm g9;clear g9;replace H:=Option.bind_eq_some_iff.mp H;obtain⟨b1,h0,H⟩:=H;(try dsimp only at H);have A7:=zqm h0;clear h0;replace H:=Option.bind_eq_some_iff.mp H;obtain⟨b5,h1,H⟩:=H;(try dsimp only at H);have A8:=zqm h1;clear h1
    by_cases c9:b1.toList=b5.toList
    ·rw [if_pos c9] at H;have g3:(b1.toList==b5.toList)=true:=beq_iff_eq.mpr c9;have g4:(b1.toList !=b5.toList)=false:=bne_eq_false_iff_eq.mpr c9;clear c9
     by_cases b9:b1.toList=([]:List UInt8)
     ·rw [if_pos b9] at H;have e1:(b1.toList==([]:List UInt8))=true:=beq_iff_eq.mpr b9;have e2:(b1.toList !=([]:List UInt8))=false:=bne_eq_false_iff_eq.mpr b9;clear b9;replace H:=Option.bind_eq_some_iff.mp H;obtain⟨i4,f0,H⟩:=H;(try dsimp only at H);have i9:=zqm f0;clear f0
      by_cases d5:i4=true
      ·subst d5;rw [if_pos rfl] at H;exact absurd ((Option.some.inj H).trans hrt) (by decide)
      ·replace d5:=Bool.eq_false_iff.mpr d5;subst d5;rw [if_neg (show¬(false=true) by decide)] at H;replace H:=Option.bind_eq_some_iff.mp H;obtain⟨i5,f1,H⟩:=H;(try dsimp only at H);have j2:=zqm f1;clear f1;obtain rfl:=Option.some.inj H
       go_wp2_with (first|((with_reducible refine gate_callee (f:=4) rfl ?_);refine goesL_ (some 22) rfl rfl Tryz.func4 zqk rfl #[.slice A0 l0.length c0] rfl zq3 ?_;(with_reducible refine(spec_DrawDualOf.calls d1 _ _ l0 b0 _ ?side1 ?side2 A6.out).mono ?_);(case side1=> exact zq92);(case side2=>exact h2.out);rintro e l4 ⟨rfl,hb⟩;refine⟨_,rfl,?_⟩;replace HB:=zqm (below_step zq5 hb);clear hb)|((with_reducible refine gate_callee (f:=5) rfl ?_);refine goesL_ (some 24) rfl rfl Tryz.func5 zqk rfl #[.string b0] rfl zq3 ?_;(with_reducible refine(impl_DualOf.calls b0 b1 _ A7.out).mono ?_);rintro e l5 ⟨rfl,hb⟩;refine⟨_,rfl,?_⟩;replace HB:=zqm (below_step zq5 hb);clear hb)|((with_reducible refine gate_callee (f:=6) rfl ?_);refine goesL_ (some 27) rfl rfl Tryz.func6 zqk rfl #[.string b0] rfl zq3 ?_;(with_reducible refine(spec_DualOf.calls d1 b0 b5 _ A8.out).mono ?_);rintro e w' ⟨rfl,⟨nd,rfl⟩⟩;refine⟨_,rfl,?_⟩)|((with_reducible refine gate_callee (f:=7) rfl ?_);refine goesL_ (some 32) rfl rfl Tryz.func7 zqk rfl #[.string b0] rfl zq3 ?_;(with_reducible refine(impl_FormulaOk.calls b0 false _ i9.out).mono ?_);rintro e l6 ⟨rfl,hb⟩;refine⟨_,rfl,?_⟩;replace HB:=zqm (below_step zq5 hb);clear hb)|(go_at_call 8;(with_reducible refine(laws_alive.calls d1 i5 _ j2.out).mono ?_);rintro e l7 ⟨rfl,hb⟩;replace HB:=zqm (below_step zq5 hb);clear hb))
       go_ret
       exact⟨zq18,zq5⟩
     ·rw [if_neg b9] at H;have e1:(b1.toList==([]:List UInt8))=false:=beq_eq_false_iff_ne.mpr b9;have e2:(b1.toList !=([]:List UInt8))=true:=bne_iff_ne.mpr b9;replace H:=Option.bind_eq_some_iff.mp H;obtain⟨⟨a4,a3,i6,d2,d3,d4⟩,f2,H⟩:=H;(try dsimp only at H);have j3:=zqm f2;clear f2;replace H:=Option.bind_eq_some_iff.mp H;obtain⟨b7,f3,H⟩:=H;(try dsimp only at H);have j4:=zqm f3;clear f3;have d6:=zqm H;clear H
      go_upto_region 11 with (first|((with_reducible refine gate_callee (f:=4) rfl ?_);refine goesL_ (some 22) rfl rfl Tryz.func4 zqk rfl #[.slice A0 l0.length c0] rfl zq3 ?_;(with_reducible refine(spec_DrawDualOf.calls d1 _ _ l0 b0 _ ?side1 ?side2 A6.out).mono ?_);(case side1=> exact zq92);(case side2=>exact h2.out);rintro e l8 ⟨rfl,hb⟩;refine⟨_,rfl,?_⟩;replace HB:=zqm (below_step zq5 hb);clear hb)|((with_reducible refine gate_callee (f:=5) rfl ?_);refine goesL_ (some 24) rfl rfl Tryz.func5 zqk rfl #[.string b0] rfl zq3 ?_;(with_reducible refine(impl_DualOf.calls b0 b1 _ A7.out).mono ?_);rintro e e5 ⟨rfl,hb⟩;refine⟨_,rfl,?_⟩;replace HB:=zqm (below_step zq5 hb);clear hb)|((with_reducible refine gate_callee (f:=6) rfl ?_);refine goesL_ (some 27) rfl rfl Tryz.func6 zqk rfl #[.string b0] rfl zq3 ?_;(with_reducible refine(spec_DualOf.calls d1 b0 b5 _ A8.out).mono ?_);rintro e w' ⟨rfl,⟨nd,rfl⟩⟩;refine⟨_,rfl,?_⟩;(try(rw [drewN_self e5];generalize hq_:World.drewN e5 _=e5;have h7:Aside0 (Below w.heap.size w e5):=⟨by rw [← hq_];exact zq5⟩;clear HB hq_;have HB:=h7;clear h7)))|((with_reducible refine gate_callee (f:=9) rfl ?_);refine goesL_ (some 39) rfl rfl Tryz.func9 zqk rfl #[.slice A1 l1.length c1] rfl zq3 ?_;(with_reducible refine(spec_DrawValueOf.calls d1 _ _ l1 a4 a3 i6 d2 d3 d4 _ ?side1 ?side2 j3.out).mono ?_);(case side1=>repeat(first|exact(Kd.C_below k4.out HB.out)|(with_reducible refine Kd.C_alloc ?_ _)|(with_reducible refine Kd.C_drewN ?_ _)|(with_reducible refine Kd.C_drew ?_)));(case side2=>exact k3.out);rintro e l9 ⟨k9,l2,rfl,h5,h6,hb⟩;refine⟨_,rfl,?_⟩;have a1:=zqm (Kd.S_lower h5 (below_size zq5));have a2:=zqm (Kd.Q_lower h6 (below_size zq5));replace HB:=zqm (below_step zq5 hb);clear hb h5 h6)|((with_reducible refine gate_dst (N:=7) rfl ?_);(try(refine gate_guard (by rfl) ?_;dsimp only));refine box_event ?hg (N:=7) ?hd (cs:= #[.slice none 0 0,.slice none 0 0]) (t:=30) ?hr ?_;(case hd=>rfl);(case hg=>rfl);(case hr=> exact zq16);intro a5 hg h9 hbox hb;replace a1:=zqm (Kd.S_below (zqfS a1.out) hb);replace a2:=zqm (Kd.Q_below (zqfQ a2.out) hb);have h8:=zqm (below_step zq5 hb);have a0:=zqm (hbox);have k7:=zqm ((by rw [hg];exact(below_size zq5):w.heap.size≤a5));have b2:=zqm ((by rw [hg];exact(below_size zq5):w.heap.size≤a5));clear HB;have HB:=h8;clear h8 hb hbox hg;obtain⟨a9,a8,i1⟩:=Kd.S_slice a1.out;subst i1;have e6:h9.cell? ⟨a5,0,none⟩=some (.slice none 0 0):=(blk_cell a0.out 0).trans rfl;have e7:h9.cell? ⟨a5,1,none⟩=some (.slice none 0 0):=(blk_cell a0.out 1).trans rfl;have e8:=blk_frozen a0.out 0;have e9:=blk_frozen a0.out 1;obtain⟨a7,a6,i2,_⟩:=Kd.Q_slice a2.out;subst i2)|((with_reducible refine gate_callee (f:=10) rfl ?_);refine goesL_ (some 50) rfl rfl Tryz.func10 zqk rfl #[.agg #[.slice a9 a4.length a8,.slice a7 a3.length a6],.string b0,.int .i64 d2,.int .i64 d3,.int .i64 d4] rfl zq3 ?_;(with_reducible refine(impl_ValueOf.calls _ _ a4 _ _ a3 b0 d2 d3 d4 b7 _ ?side1 ?side2 ?side3 ?side4 j4.out).mono ?_);(case side1=>refine(Kd.S_reads' (e:=28) (base:=w.heap.size) (ok:=fun k_=>some k_≠(.slice a7 a3.length a6:Value).ownBlock) (n:=a4.length) (c:=a8) ?_).2.2;exact zq70);(case side2=> exact zq127);(case side3=>refine(Kd.Q_reads' (e:=3) (base:=w.heap.size) (ok:=fun k_=>True) (n:=a3.length) (c:=a6) ?_).2.2;exact zq69);(case side4=> exact zq126);rintro e i0 ⟨rfl,hb⟩;refine⟨_,rfl,?_⟩;replace a1:=zqm (Kd.S_below zq70 hb);replace a2:=zqm (Kd.Q_below zq69 hb);replace a0:=zqm (blk_below (g:=a5) (o:= .cells #[.slice a9 a4.length a8,.slice a7 a3.length a6] 30 (0,0)) (by refine zqe ?_;refine blk_put (cs:= #[.slice a9 a4.length a8,.slice none 0 0]) ?_ 1 _ rfl;refine zqe ?_;refine blk_put (cs:= #[.slice none 0 0,.slice none 0 0]) ?_ 0 _ rfl;refine zqe ?_;exact a0.out) hb);replace HB:=zqm (below_step zq23 hb);clear hb))
      (try simp only [Act.put,List.setIfInBounds_toArray,List.set_cons_zero,List.set_cons_succ])
      go_cut [70] (fun k6 wc=> ∃(kq:Nat) (b6:Bool),k6= .bool b6∧Aside0 (laws_FnDualOf.j1 kq b0 b1 b6=some r)∧Aside0 (kq≤d1)∧Aside0 (Kd.S (Kd.slice 3 (Kd.int .i64)) 28 wc w.heap.size (fun k_=>some k_≠((.slice a7 a3.length a6):Value).ownBlock) (.slice a9 a4.length a8) a4)∧Aside0 (Kd.Q (Kd.int .i64) 3 wc w.heap.size (fun _=>True) (.slice a7 a3.length a6) a3)∧Aside0 (wc.heap[a5]? =some (.cells #[(.slice a9 a4.length a8),(.slice a7 a3.length a6)] 30 (0,0)))∧Aside0 (Below w.heap.size w wc))
      case first=>
       have H:=d6.out;clear d6
       by_cases c8:b7≥0
       ·rw [if_pos c8] at H;have b3:decide (0≤b7)=true:=decide_eq_true c8;clear c8;(first|rw [b3]|(simp only [i64_w,i32_w];rw [b3])|skip);replace H:=Option.bind_eq_some_iff.mp H;obtain⟨d8,f4,H⟩:=H;(try dsimp only at H);have j5:=zqm f4;clear f4;replace H:=Option.bind_eq_some_iff.mp H;obtain⟨d9,f5,H⟩:=H;(try dsimp only at H);have j6:=zqm f5;clear f5;replace H:=Option.bind_eq_some_iff.mp H;obtain⟨e0,f6,H⟩:=H;(try dsimp only at H);have j7:=zqm f6;clear f6;replace H:=Option.bind_eq_some_iff.mp H;obtain⟨g5,f7,H⟩:=H;(try dsimp only at H);have j8:=zqm f7;clear f7;replace H:=Option.bind_eq_some_iff.mp H;obtain⟨g6,f8,H⟩:=H;(try dsimp only at H);have j9:=zqm f8;clear f8;have H':=zqm H;clear H;(try go_wp2);replace a1:=zqm (Kd.S_drew a1.out);replace a2:=zqm (Kd.Q_drew a2.out);replace a0:=zqm (blk_drew a0.out);replace HB:=zqm (below_drew1 HB.out);refine start_ (n:=20) (S:=fun w'=>w'.cell? ⟨a5,0,none⟩=some (.slice a9 a4.length a8)∧w'.cell? ⟨a5,1,none⟩=some (.slice a7 a3.length a6)) (ds:= []) (zqb 20 0) zqk rfl rfl ⟨(blk_cell a0.out 0).trans rfl,(blk_cell a0.out 1).trans rfl⟩ (fun hHeld=>?_);refine with_tabW laws_FnDualOf.tab11 laws_FnDualOf.bits11 (fun HT_ HW_=>?_);generalize i0.drew=m0 at a1 a2 a0 HB hHeld ⊢;refine zqp 0 51 (zqb 20 1) HT_ ?_;refine zqp 1 52 (zqb 20 3) HT_ ?_;refine zqp 2 53 (zqb 20 7) HT_ ?_;refine zqp 4 55 (zqb 20 23) HT_ ?_;refine zqp 6 57 (zqb 20 87) HT_ ?_;refine zqp 9 60 (zqb 20 599) HT_ ?_;refine zqp 12 63 (zqb 20 4695) HT_ ?_;refine zqp 16 67 (zqb 20 70231) HT_ ?_;refine zqw 3 54 (zqb 20 70239) HT_ HW_ hHeld ?_;refine zqw 5 56 (zqb 20 70271) HT_ HW_ hHeld ?_;refine zqw 8 59 (zqb 20 70527) HT_ HW_ hHeld ?_;refine zqw 11 62 (zqb 20 72575) HT_ HW_ hHeld ?_;refine zqw 15 66 (zqb 20 105343) HT_ HW_ hHeld ?_;refine one_ (i:=7) (N:=some 58) (zqb 20 105471) rfl rfl (one_of HT_.out zqk) (by decide) (fun K hK=>?_);refine goes_ Tryz.func11 zqk rfl #[.agg #[.slice a9 a4.length a8,.slice a7 a3.length a6],.int .i64 d2] (by rfl) rfl rfl zq3 ?_;(with_reducible refine(impl_NotOf.calls _ _ a4 _ _ a3 d2 d8 _ ?side1 ?side2 ?side3 ?side4 j5.out).mono ?_);(case side1=> exact zq38);(case side2=> exact zq127);(case side3=> exact zq37);(case side4=> exact zq126);rintro e m1 ⟨rfl,hb⟩;refine⟨_,rfl,?_⟩;replace a1:=zqm (Kd.S_below (zqfS a1.out) hb);replace a2:=zqm (Kd.Q_below (zqfQ a2.out) hb);replace a0:=zqm (blk_below (g:=a5) (o:= .cells #[.slice a9 a4.length a8,.slice a7 a3.length a6] 30 (0,0)) (zqe a0.out) hb);replace HB:=zqm (below_step zq23 hb);clear hb;refine hK.out _ _ ⟨(blk_cell a0.out 0).trans rfl,(blk_cell a0.out 1).trans rfl⟩ (fun hHeld=>?_);clear hK K;refine norm_ (a':=?_) ?_ ?_;rotate_left
        ·show Act.put _ (some 58) _=_;exact zqs
        refine one_ (i:=10) (N:=some 61) (zqb 20 106495) rfl rfl (one_of HT_.out zqk) (by decide) (fun K hK=>?_);refine goes_ Tryz.func11 zqk rfl #[.agg #[.slice a9 a4.length a8,.slice a7 a3.length a6],.int .i64 d3] (by rfl) rfl rfl zq3 ?_;(with_reducible refine(impl_NotOf.calls _ _ a4 _ _ a3 d3 d9 _ ?side1 ?side2 ?side3 ?side4 j6.out).mono ?_);(case side1=> exact zq38);(case side2=> exact zq127);(case side3=> exact zq37);(case side4=> exact zq126);rintro e m2 ⟨rfl,hb⟩;refine⟨_,rfl,?_⟩;replace a1:=zqm (Kd.S_below (zqfS a1.out) hb);replace a2:=zqm (Kd.Q_below (zqfQ a2.out) hb);replace a0:=zqm (blk_below (g:=a5) (o:= .cells #[.slice a9 a4.length a8,.slice a7 a3.length a6] 30 (0,0)) (zqe a0.out) hb);replace HB:=zqm (below_step zq23 hb);clear hb;refine hK.out _ _ ⟨(blk_cell a0.out 0).trans rfl,(blk_cell a0.out 1).trans rfl⟩ (fun hHeld=>?_);clear hK K;refine norm_ (a':=?_) ?_ ?_;rotate_left
        ·show Act.put _ (some 61) _=_;exact zqs
        refine one_ (i:=13) (N:=some 64) (zqb 20 114687) rfl rfl (one_of HT_.out zqk) (by decide) (fun K hK=>?_);refine goes_ Tryz.func11 zqk rfl #[.agg #[.slice a9 a4.length a8,.slice a7 a3.length a6],.int .i64 d4] (by rfl) rfl rfl zq3 ?_;(with_reducible refine(impl_NotOf.calls _ _ a4 _ _ a3 d4 e0 _ ?side1 ?side2 ?side3 ?side4 j7.out).mono ?_);(case side1=> exact zq38);(case side2=> exact zq127);(case side3=> exact zq37);(case side4=> exact zq126);rintro e m3 ⟨rfl,hb⟩;refine⟨_,rfl,?_⟩;replace a1:=zqm (Kd.S_below (zqfS a1.out) hb);replace a2:=zqm (Kd.Q_below (zqfQ a2.out) hb);replace a0:=zqm (blk_below (g:=a5) (o:= .cells #[.slice a9 a4.length a8,.slice a7 a3.length a6] 30 (0,0)) (zqe a0.out) hb);replace HB:=zqm (below_step zq23 hb);clear hb;refine hK.out _ _ ⟨(blk_cell a0.out 0).trans rfl,(blk_cell a0.out 1).trans rfl⟩ (fun hHeld=>?_);clear hK K;refine norm_ (a':=?_) ?_ ?_;rotate_left
        ·show Act.put _ (some 64) _=_;exact zqs
        refine one_ (i:=14) (N:=some 65) (zqb 20 131071) rfl rfl (one_of HT_.out zqk) (by decide) (fun K hK=>?_);refine goes_ Tryz.func10 zqk rfl #[.agg #[.slice a9 a4.length a8,.slice a7 a3.length a6],.string b1,.int .i64 d8,.int .i64 d9,.int .i64 e0] (by rfl) rfl rfl zq3 ?_;(with_reducible refine(impl_ValueOf.calls _ _ a4 _ _ a3 b1 d8 d9 e0 g5 _ ?side1 ?side2 ?side3 ?side4 j8.out).mono ?_);(case side1=> exact zq38);(case side2=> exact zq127);(case side3=> exact zq37);(case side4=> exact zq126);rintro e m4 ⟨rfl,hb⟩;refine⟨_,rfl,?_⟩;replace a1:=zqm (Kd.S_below (zqfS a1.out) hb);replace a2:=zqm (Kd.Q_below (zqfQ a2.out) hb);replace a0:=zqm (blk_below (g:=a5) (o:= .cells #[.slice a9 a4.length a8,.slice a7 a3.length a6] 30 (0,0)) (zqe a0.out) hb);replace HB:=zqm (below_step zq23 hb);clear hb;refine hK.out _ _ ⟨(blk_cell a0.out 0).trans rfl,(blk_cell a0.out 1).trans rfl⟩ (fun hHeld=>?_);clear hK K;refine norm_ (a':=?_) ?_ ?_;rotate_left
        ·show Act.put _ (some 65) _=_;exact zqs
        refine one_ (i:=17) (N:=some 68) (zqb 20 262143) rfl rfl (one_of HT_.out zqk) (by decide) (fun K hK=>?_);refine goes_ Tryz.func11 zqk rfl #[.agg #[.slice a9 a4.length a8,.slice a7 a3.length a6],.int .i64 b7] (by rfl) rfl rfl zq3 ?_;(with_reducible refine(impl_NotOf.calls _ _ a4 _ _ a3 b7 g6 _ ?side1 ?side2 ?side3 ?side4 j9.out).mono ?_);(case side1=> exact zq38);(case side2=> exact zq127);(case side3=> exact zq37);(case side4=> exact zq126);rintro e m5 ⟨rfl,hb⟩;refine⟨_,rfl,?_⟩;replace a1:=zqm (Kd.S_below (zqfS a1.out) hb);replace a2:=zqm (Kd.Q_below (zqfQ a2.out) hb);replace a0:=zqm (blk_below (g:=a5) (o:= .cells #[.slice a9 a4.length a8,.slice a7 a3.length a6] 30 (0,0)) (zqe a0.out) hb);replace HB:=zqm (below_step zq23 hb);clear hb;refine hK.out _ _ ⟨(blk_cell a0.out 0).trans rfl,(blk_cell a0.out 1).trans rfl⟩ (fun hHeld=>?_);clear hK K;refine norm_ (a':=?_) ?_ ?_;rotate_left
        ·show Act.put _ (some 68) _=_;exact zqs
        refine zqp 18 69 (zqb 20 524287) HT_ ?_;refine zqp 19 70 (zqb 20 1048575) HT_ ?_;refine done_ (done_of HT_.out zqk) ?_;try go_wp2
        go_meet
        case rel=>exact⟨_,((g5 !=g6)),zq8,H',⟨by have:=h3.out;first|omega|exact Nat.le_refl _⟩,⟨zqfS a1.out⟩,⟨zqfQ a2.out⟩,⟨zqe a0.out⟩,⟨zq23⟩⟩
       ·rw [if_neg c8] at H;have b3:decide (0≤b7)=false:=decide_eq_false c8;clear c8;(first|rw [b3]|(simp only [i64_w,i32_w];rw [b3])|skip);have H':=zqm H;clear H;(try go_wp2);replace a1:=zqm (Kd.S_drew a1.out);replace a2:=zqm (Kd.Q_drew a2.out);replace a0:=zqm (blk_drew a0.out);replace HB:=zqm (below_drew1 HB.out);refine start_ (n:=20) (S:=fun w'=>True) (ds:= []) (zqb 20 0) zqk rfl rfl trivial (fun hHeld=>?_);refine with_tabW laws_FnDualOf.tab11 laws_FnDualOf.bits11 (fun HT_ HW_=>?_);generalize i0.drew=m6 at a1 a2 a0 HB hHeld ⊢;refine zqp 0 51 (zqb 20 1) HT_ ?_;refine zqp 1 52 (zqb 20 3) HT_ ?_;refine zqp 2 53 (zqb 20 7) HT_ ?_;refine zqu 3 54 (zqb 20 15) HT_ ?_;refine zqu 4 55 (zqb 20 31) HT_ ?_;refine zqu 5 56 (zqb 20 63) HT_ ?_;refine zqu 6 57 (zqb 20 127) HT_ ?_;refine zqu 7 58 (zqb 20 255) HT_ ?_;refine zqu 8 59 (zqb 20 511) HT_ ?_;refine zqu 9 60 (zqb 20 1023) HT_ ?_;refine zqu 10 61 (zqb 20 2047) HT_ ?_;refine zqu 11 62 (zqb 20 4095) HT_ ?_;refine zqu 12 63 (zqb 20 8191) HT_ ?_;refine zqu 13 64 (zqb 20 16383) HT_ ?_;refine zqu 14 65 (zqb 20 32767) HT_ ?_;refine zqu 15 66 (zqb 20 65535) HT_ ?_;refine zqu 16 67 (zqb 20 131071) HT_ ?_;refine zqu 17 68 (zqb 20 262143) HT_ ?_;refine zqu 18 69 (zqb 20 524287) HT_ ?_;refine zqp 19 70 (zqb 20 1048575) HT_ ?_;refine done_ (done_of HT_.out zqk) ?_;try go_wp2
        go_meet
        case rel=>exact⟨_,(false),zq8,H',⟨by have:=h3.out;first|omega|exact Nat.le_refl _⟩,⟨zqfS a1.out⟩,⟨zqfQ a2.out⟩,⟨zqe a0.out⟩,⟨zq23⟩⟩
      case rest=>
       clear d6;(try clear c1);(try clear p2);(try clear c3);(try clear c4);(try clear b4);(try clear d7);(try clear c5);(try clear c6);(try clear c7);(try clear c9);(try clear g3);(try clear g4);(try clear b9);(try clear e1);(try clear e2);(try clear l3);(try clear d5);(try clear c8);(try clear b3);(try clear e6);(try clear e7);(try clear e8);(try clear e9);(try clear p2);obtain⟨kq,b6,rfl,HA,k8,HO_556000,HO_556001,a0,HB⟩:=hcut
       cases kq with
       |zero=>exact absurd HA.out (by simp [laws_FnDualOf.j1])
       |succ i3=>
        have H:=HA.out;clear HA;simp only [laws_FnDualOf.j1] at H
        by_cases e3:b6=true
        ·subst e3;rw [if_pos rfl] at H;exact absurd ((Option.some.inj H).trans hrt) (by decide)
        ·replace e3:=Bool.eq_false_iff.mpr e3;subst e3;rw [if_neg (show¬(false=true) by decide)] at H;replace H:=Option.bind_eq_some_iff.mp H;obtain⟨b8,f9,H⟩:=H;(try dsimp only at H);have k0:=zqm f9;clear f9
         by_cases d0:b8.toList=b0.toList
         ·rw [if_pos d0] at H;have g7:(b8.toList==b0.toList)=true:=beq_iff_eq.mpr d0;have g8:(b8.toList !=b0.toList)=false:=bne_eq_false_iff_eq.mpr d0;clear d0;replace H:=Option.bind_eq_some_iff.mp H;obtain⟨i7,g0,H⟩:=H;(try dsimp only at H);have k1:=zqm g0;clear g0
          by_cases e4:i7=true
          ·subst e4;rw [if_pos rfl] at H;replace H:=Option.bind_eq_some_iff.mp H;obtain⟨i8,g1,H⟩:=H;(try dsimp only at H);have k2:=zqm g1;clear g1;obtain rfl:=Option.some.inj H
           go_wp2_with (first|((with_reducible refine gate_callee (f:=5) rfl ?_);refine goesL_ (some 72) rfl rfl Tryz.func5 zqk rfl #[.string b1] rfl zq3 ?_;(with_reducible refine(impl_DualOf.calls b1 b8 _ k0.out).mono ?_);rintro e m7 ⟨rfl,hb⟩;refine⟨_,rfl,?_⟩;replace HO_556000:=zqm (Kd.S_below (zqfS HO_556000.out) hb);replace HO_556001:=zqm (Kd.Q_below (zqfQ HO_556001.out) hb);replace a0:=zqm (blk_below (g:=a5) (o:= .cells #[.slice a9 a4.length a8,.slice a7 a3.length a6] 30 (0,0)) (zqe a0.out) hb);replace HB:=zqm (below_step zq23 hb);clear hb)|(go_at_call 7;(with_reducible refine(impl_FormulaOk.calls b1 true _ k1.out).mono ?_);rintro e m8 ⟨rfl,hb⟩;replace HO_556000:=zqm (Kd.S_below (zqfS HO_556000.out) hb);replace HO_556001:=zqm (Kd.Q_below (zqfQ HO_556001.out) hb);replace a0:=zqm (blk_below (g:=a5) (o:= .cells #[.slice a9 a4.length a8,.slice a7 a3.length a6] 30 (0,0)) (zqe a0.out) hb);replace HB:=zqm (below_step zq23 hb);clear hb)|(go_at_call 8;(with_reducible refine(laws_alive.calls i3 i8 _ k2.out).mono ?_);rintro e m9 ⟨rfl,hb⟩;replace HO_556000:=zqm (Kd.S_below (zqfS HO_556000.out) hb);replace HO_556001:=zqm (Kd.Q_below (zqfQ HO_556001.out) hb);replace a0:=zqm (blk_below (g:=a5) (o:= .cells #[.slice a9 a4.length a8,.slice a7 a3.length a6] 30 (0,0)) (zqe a0.out) hb);replace HB:=zqm (below_step zq23 hb);clear hb))
           go_ret
           exact⟨zq18,zq23⟩
          ·replace e4:=Bool.eq_false_iff.mpr e4;subst e4;rw [if_neg (show¬(false=true) by decide)] at H;exact absurd ((Option.some.inj H).trans hrt) (by decide)
         ·rw [if_neg d0] at H;have g7:(b8.toList==b0.toList)=false:=beq_eq_false_iff_ne.mpr d0;have g8:(b8.toList !=b0.toList)=true:=bne_iff_ne.mpr d0;exact absurd ((Option.some.inj H).trans hrt) (by decide)
    ·rw [if_neg c9] at H;have g3:(b1.toList==b5.toList)=false:=beq_eq_false_iff_ne.mpr c9;have g4:(b1.toList !=b5.toList)=true:=bne_iff_ne.mpr c9;exact absurd ((Option.some.inj H).trans hrt) (by decide)
def laws_FnDualOf.Pure : Prop := ∀ (l0 : List Int) (l1 : List Int), l0.length ≤ maxLen → l0.length * 1 ≤ 140737488351232 → (∀ x ∈ l0, (Lit.int .u8 x).wf = true) → l1.length ≤ maxLen → l1.length * 1 ≤ 140737488351232 → (∀ x ∈ l1, (Lit.int .u8 x).wf = true) → ∃ k, laws_FnDualOf.f k l0 l1 = some true
theorem laws_FnDualOf.walk (P : laws_FnDualOf.Pure) (a0 : Option Addr) (len0 cap0 : Nat) (z0 : List Int) (a1 : Option Addr) (len1 cap1 : Nat) (z1 : List Int) (w : World) (w0 : (a0 = none ∧ len0 = 0 ∧ cap0 = 0 ∧ z0 = []) ∨ ∃ x, a0 = some x ∧ len0 ≤ cap0 ∧ cap0 ≤ maxLen ∧ z0.length = cap0 ∧ (∀ i, i < z0.length → w.cell? (x.add i) = some (.int .u8 (z0.getD i 0))) ∧ ∀ n ∈ z0, (Lit.int .u8 n).wf = true) (y0 : len0 * 1 ≤ 140737488351232) (w1 : (a1 = none ∧ len1 = 0 ∧ cap1 = 0 ∧ z1 = []) ∨ ∃ x, a1 = some x ∧ len1 ≤ cap1 ∧ cap1 ≤ maxLen ∧ z1.length = cap1 ∧ (∀ i, i < z1.length → w.cell? (x.add i) = some (.int .u8 (z1.getD i 0))) ∧ ∀ n ∈ z1, (Lit.int .u8 n).wf = true) (y1 : len1 * 1 ≤ 140737488351232) :
  Calls Tryz.prog 3 #[.slice a0 len0 cap0, .slice a1 len1 cap1] w fun e w' => e = .returned (.bool true) ∧ Below w.heap.size w w' := by
 obtain ⟨l0, rfl, hr0, hm0, hw0, hc0⟩ := ReadsInt.ofRowC w0
 obtain ⟨l1, rfl, hr1, hm1, hw1, hc1⟩ := ReadsInt.ofRowC w1
 obtain ⟨k, h⟩ := P l0 l1 hm0 y0 hw0 hm1 y1 hw1
 refine (laws_FnDualOf.calls k _ _ l0 _ _ l1 true rfl w (Kd.C_of_reads (d := (0 : Int)) (h1 := fun _ => rfl) hr0) hc0 (Kd.C_of_reads (d := (0 : Int)) (h1 := fun _ => rfl) hr1) hc1 h).mono ?_
 rintro e w' ⟨rfl, hd⟩
 exact ⟨rfl, hd⟩
end
end Go.Proofs.YtbomiegcbimgoaaGreat.Print
end
section
namespace Go.Proofs.YtbomiegcbimgoaaGreat.Print
open Go.RowKit Go.Proofs.YtbomiegcbimgoaaGreatW.PrintWords Go.Proofs.YtbomiegcbimgoaaGreatW.PrintLast Go.Proofs.YtbomiegcbimgoaaGreatW.PrintMore
open Oml
def sfx (s : ByteArray) (i : Nat) : ByteArray := s.extract i s.size
theorem sfx_size (s : ByteArray) (i : Nat) : (sfx s i).size = s.size - i := by unfold sfx; rw [ByteArray.size_extract]; omega
theorem sfx_zero (s : ByteArray) : sfx s 0 = s := by unfold sfx; exact ByteArray.extract_zero_size
theorem sfx_next (s : ByteArray) {i : Nat} (h : i < s.size) : (sfx s i).extract 1 (sfx s i).size = sfx s (i + 1) := by
 rw [sfx_size]
 unfold sfx
 rw [ByteArray.extract_extract]
 congr 1
 omega
theorem sfx_bt (s : ByteArray) {i : Nat} (h : i < s.size) : bt (sfx s i) 0 = bt s (i : Int) := by
 have h1:0<(sfx s i).size:=by rw [sfx_size];omega
 have e1:=bt_at (sfx s i) 0 h1
 have e2:=bt_at s (i:Int) (by rw [Int.toNat_natCast];exact h)
 rw [← e1,← e2]
 have e3:(sfx s i)[0]'h1=s[i]:=by
  have h3:0<(s.extract i s.size).size:=h1
  have h4:(s.extract i s.size)[0]'h3=s[i+0]:=ByteArray.getElem_extract h3
  exact h4
 have e4:(s[((i:Nat):Int).toNat]'(by rw [Int.toNat_natCast];exact h))=s[i]:=by congr 1
 rw [e4,← e3]
 rfl
theorem rdF_sfx (s : ByteArray) : ∀ (k i : Nat) (f : Fm) (r : ByteArray), i ≤ s.size → rdF k (sfx s i) = some (f, r) → ∃ j, i < j ∧ j ≤ s.size ∧ r = sfx s j
 |0,_,_,_,_,h=>by simp [rdF] at h
 |k+1,i,f,r,hi,h=>by
  have ih:=rdF_sfx s k
  simp only [rdF] at h
  split at h
  ·cases h
  ·rename_i h0
   rw [sfx_size] at h0
   have hlt:i<s.size:=by omega
   rw [sfx_next s hlt] at h
   split at h
   ·cases h;exact⟨i+1,by omega,by omega,rfl⟩
   ·split at h
    ·split at h
     ·cases h
     ·rename_i f1 r1 h1
      cases h
      obtain⟨j,a,b,c⟩:=ih (i+1) _ _ (by omega) h1
      exact⟨j,by omega,b,c⟩
    ·split at h
     ·split at h
      ·cases h
      ·rename_i f1 r1 h1
       obtain⟨j,a,b,rfl⟩:=ih (i+1) _ _ (by omega) h1
       split at h
       ·cases h
       ·rename_i h2
        rw [sfx_size] at h2
        rw [sfx_next s (by omega)] at h
        split at h
        ·split at h
         ·cases h
         ·rename_i g q h3
          obtain⟨m,a2,b2,rfl⟩:=ih (j+1) _ _ (by omega) h3
          split at h
          ·cases h
          ·rename_i h4
           rw [sfx_size] at h4
           rw [sfx_next s (by omega)] at h
           split at h
           ·cases h;exact⟨m+1,by omega,by omega,rfl⟩
           ·cases h
        ·cases h
     ·cases h
def endV (s : ByteArray) (o : Option (Fm × ByteArray)) : Int := match o with | none => -1 | some (_, r) => ((s.size - r.size : Nat) : Int)
theorem rdF_leaf {k : Nat} {s : ByteArray} {i : Nat} (h : i < s.size) (hl : isLeaf (bt s i)) : rdF (k + 1) (sfx s i) = some (.leaf (bt s i), sfx s (i + 1)) := by
 simp only [rdF]
 rw [if_neg (by rw [sfx_size];omega),sfx_bt s h,if_pos hl,sfx_next s h]
theorem rdF_neg {k : Nat} {s : ByteArray} {i : Nat} (h : i < s.size) (hc : bt s i = 33) : rdF (k + 1) (sfx s i) = (rdF k (sfx s (i + 1))).map fun fr => (.neg fr.1, fr.2) := by
 simp only [rdF]
 rw [if_neg (by rw [sfx_size];omega),sfx_bt s h,if_neg (by rw [hc];unfold isLeaf;omega),if_pos hc,sfx_next s h]
 cases rdF k (sfx s (i+1)) <;> rfl
theorem rdF_par {k : Nat} {s : ByteArray} {i : Nat} (h : i < s.size) (hc : bt s i = 40) : rdF (k + 1) (sfx s i) = (rdF k (sfx s (i + 1))).bind fun fr => if fr.2.size = 0 then none else if bt fr.2 0 = 38 ∨ bt fr.2 0 = 124 then (rdF k (fr.2.extract 1 fr.2.size)).bind fun gq => if gq.2.size = 0 then none else if bt gq.2 0 = 41 then some (.bin (bt fr.2 0) fr.1 gq.1, gq.2.extract 1 gq.2.size) else none else none := by
 simp only [rdF]
 rw [if_neg (by rw [sfx_size];omega),sfx_bt s h,if_neg (by rw [hc];unfold isLeaf;omega),if_neg (by rw [hc];omega),if_pos hc,sfx_next s h]
 rcases rdF k (sfx s (i+1)) with _|⟨f,r⟩
 ·rfl
 simp only [Option.bind_some]
 split
 ·rfl
 split
 ·rcases rdF k (r.extract 1 r.size) with _|⟨g,q⟩ <;> rfl
 ·rfl
theorem rdF_other {k : Nat} {s : ByteArray} {i : Nat} (h : i < s.size) (hl : ¬ isLeaf (bt s i)) (h1 : ¬ bt s i = 33) (h2 : ¬ bt s i = 40) : rdF (k + 1) (sfx s i) = none := by
 simp only [rdF]
 rw [if_neg (by rw [sfx_size];omega),sfx_bt s h,if_neg hl,if_neg h1,if_neg h2]
theorem rdF_end {k : Nat} {s : ByteArray} {i : Nat} (h : s.size ≤ i) : rdF k (sfx s i) = none := by
 cases k with
 | zero => rfl
 | succ k => simp only [rdF]; rw [if_pos (by rw [sfx_size]; omega)]
theorem l10End_j1 (s : ByteArray) (hs : s.size ≤ 1000000) (j : Nat) (V : Int) (hj : j < s.size) (hev : Ev (fun m => spec_l10End.f m s ((j + 1 : Nat) : Int)) V) (hV : V = -1 ∨ ∃ m : Nat, V = (m : Int)) :
 Ev (fun m=>spec_l10End.j1 m s (j:Int) false) (if 0≤V∧V<(s.size:Int)∧bt s V=41 then V+1 else -1):=by
 refine Ev.succ ?_
 simp only [spec_l10End.j1,wrap_nat (show j<4611686018427387904 by omega)]
 repeat(with_reducible first|refine Ev.ip ?_|refine Ev.iq ?_)
 refine Ev.bind hev ?_
 rcases hV with rfl|⟨m,rfl⟩
 ·repeat(with_reducible first|refine Ev.ip ?_|refine Ev.iq ?_)
  exact Ev.now _
 ·by_cases h1:m<s.size
  ·by_cases h2:bt s (m:Int)=41
   ·repeat(with_reducible first|refine Ev.ip ?_|refine Ev.iq ?_)
    rw [if_pos ⟨by omega,by omega,h2⟩,wrap_nat (show m<4611686018427387904 by omega)]
    exact Ev.now _
   ·repeat(with_reducible first|refine Ev.ip ?_|refine Ev.iq ?_)
    rw [if_neg (fun h=>h2 h.2.2)]
    exact Ev.now _
  ·repeat(with_reducible first|refine Ev.ip ?_|refine Ev.iq ?_)
   rw [if_neg (fun h=>h1 (by omega))]
   exact Ev.now _
theorem l10End_ev (s : ByteArray) (hs : s.size ≤ 1000000) : ∀ k i, i ≤ s.size → s.size - i ≤ k → Ev (fun m => spec_l10End.f m s (i : Int)) (endV s (rdF k (sfx s i))) := by
 intro k
 induction k with
 |zero=>
  intro i hi hk
  rw [rdF_end (by omega)]
  refine Ev.succ ?_
  simp only [spec_l10End.f]
  repeat(with_reducible first|refine Ev.ip ?_|refine Ev.iq ?_)
  exact Ev.now _
 |succ k ih=>
  intro i hi hk
  by_cases hlt:i<s.size
  ·have hw:wrap64 ((i:Int)+1)=((i+1:Nat):Int):=wrap_nat (by omega)
   by_cases hl:isLeaf (bt s i)
   ·rw [rdF_leaf hlt hl]
    have hv:endV s (some (Fm.leaf (bt s i),sfx s (i+1)))=((i+1:Nat):Int):=by
     show ((s.size - (sfx s (i+1)).size:Nat):Int)=_
     rw [sfx_size];omega
    rw [hv]
    have J: ∀c,Ev (fun m=>spec_l10End.j0 m s (i:Int) c true) ((i+1:Nat):Int):=by
     intro c
     refine Ev.succ ?_
     simp only [spec_l10End.j0,hw]
     repeat(with_reducible first|refine Ev.ip ?_|refine Ev.iq ?_)
     exact Ev.now _
    refine Ev.succ ?_
    simp only [spec_l10End.f]
    repeat(with_reducible first|refine Ev.ip ?_|refine Ev.iq ?_)
    unfold isLeaf at hl
    by_cases h97:bt s (i:Int)=97
    ·repeat(with_reducible first|refine Ev.ip ?_|refine Ev.iq ?_)
     rw [show (bt s (i:Int)==97)=true by rw [h97];rfl];exact J _
    by_cases h98:bt s (i:Int)=98
    ·repeat(with_reducible first|refine Ev.ip ?_|refine Ev.iq ?_)
     rw [show (bt s (i:Int)==98)=true by rw [h98];rfl];exact J _
    by_cases h99:bt s (i:Int)=99
    ·repeat(with_reducible first|refine Ev.ip ?_|refine Ev.iq ?_)
     rw [show (bt s (i:Int)==99)=true by rw [h99];rfl];exact J _
    by_cases h48:bt s (i:Int)=48
    ·repeat(with_reducible first|refine Ev.ip ?_|refine Ev.iq ?_)
     rw [show (bt s (i:Int)==48)=true by rw [h48];rfl];exact J _
    have h49:bt s (i:Int)=49:=by omega
    repeat(with_reducible first|refine Ev.ip ?_|refine Ev.iq ?_)
    rw [show (bt s (i:Int)==49)=true by rw [h49];rfl];exact J _
   ·have go: ∀V,Ev (fun m=>spec_l10End.j0 m s (i:Int) (bt s (i:Int)) false) V→Ev (fun m=>spec_l10End.f m s (i:Int)) V:=by
     intro V hV
     refine Ev.succ ?_
     simp only [spec_l10End.f]
     unfold isLeaf at hl
     have h97: ¬bt s (i:Int)=97:=fun e=>hl (by omega)
     have h98: ¬bt s (i:Int)=98:=fun e=>hl (by omega)
     have h99: ¬bt s (i:Int)=99:=fun e=>hl (by omega)
     have h48: ¬bt s (i:Int)=48:=fun e=>hl (by omega)
     have h49:(bt s (i:Int)==49)=false:=beq_eq_false_iff_ne.2 fun e=>hl (by omega)
     repeat(with_reducible first|refine Ev.ip ?_|refine Ev.iq ?_)
     rw [h49]
     exact hV
    refine go _ (Ev.succ ?_)
    simp only [spec_l10End.j0,hw]
    have hI:=ih (i+1) (by omega) (by omega)
    by_cases h33:bt s (i:Int)=33
    ·rw [rdF_neg hlt h33]
     repeat(with_reducible first|refine Ev.ip ?_|refine Ev.iq ?_)
     refine Ev.bind hI ?_
     refine Ev.eq (Ev.now _) ?_
     cases rdF k (sfx s (i+1)) <;> rfl
    ·by_cases h40:bt s (i:Int)=40
     ·rw [rdF_par hlt h40]
      repeat(with_reducible first|refine Ev.ip ?_|refine Ev.iq ?_)
      refine Ev.bind hI ?_
      have hsx:=rdF_sfx s k (i+1)
      rcases hrd:rdF k (sfx s (i+1)) with _|⟨f,r⟩
      ·have e1:endV s none<0:=by show (-1:Int)<0;omega
       repeat(with_reducible first|refine Ev.ip ?_|refine Ev.iq ?_)
       refine Ev.succ ?_
       simp only [spec_l10End.j1]
       repeat(with_reducible first|refine Ev.ip ?_|refine Ev.iq ?_)
       exact Ev.now _
      ·obtain⟨j,ha,hb,rfl⟩:=hsx f r (by omega) hrd
       have e1:endV s (some (f,sfx s j))=(j:Int):=by
        show ((s.size - (sfx s j).size:Nat):Int)=_
        rw [sfx_size];omega
       rw [e1]
       simp only [Option.bind_some]
       by_cases hj:j<s.size
       ·rw [if_neg (by rw [sfx_size];omega),sfx_bt s hj,sfx_next s hj]
        repeat(with_reducible first|refine Ev.ip ?_|refine Ev.iq ?_)
        have hJ:=ih (j+1) (by omega) (by omega)
        have hsx2:=rdF_sfx s k (j+1)
        have hval:(∀ob:Option (Fm × ByteArray),rdF k (sfx s (j+1))=ob→Ev (fun m=>spec_l10End.j1 m s (j:Int) false) (endV s (ob.bind fun gq=>if gq.2.size=0 then none else if bt gq.2 0=41 then some (Fm.bin (bt s j) f gq.1,gq.2.extract 1 gq.2.size) else none))):=by
         intro ob hob
         rw [hob] at hJ hsx2
         cases ob with
         |none=>
          refine Ev.eq (l10End_j1 s hs j (endV s none) hj hJ (.inl rfl)) ?_
          rw [if_neg (fun h=>by have:(0:Int)≤ -1:=h.1;omega)];rfl
         |some gq=>
          obtain⟨g,q⟩:=gq
          obtain⟨m,hc,hd,rfl⟩:=hsx2 g q (by omega) rfl
          have e2:endV s (some (g,sfx s m))=(m:Int):=by
           show ((s.size - (sfx s m).size:Nat):Int)=_
           rw [sfx_size];omega
          rw [e2] at hJ
          refine Ev.eq (l10End_j1 s hs j (m:Int) hj hJ (.inr ⟨m,rfl⟩)) ?_
          simp only [Option.bind_some]
          by_cases hm:m<s.size
          ·rw [if_neg (show¬(sfx s m).size=0 by rw [sfx_size];omega),sfx_bt s hm,sfx_next s hm]
           by_cases h41:bt s (m:Int)=41
           ·rw [if_pos ⟨by omega,by omega,h41⟩,if_pos h41]
            show (m:Int)+1=((s.size - (sfx s (m+1)).size:Nat):Int)
            rw [sfx_size];omega
           ·rw [if_neg (fun h=>h41 h.2.2),if_neg h41];rfl
          ·rw [if_neg (fun h=>hm (by omega)),if_pos (by rw [sfx_size];omega)];rfl
        by_cases h38:bt s (j:Int)=38
        ·rw [if_pos (.inl h38)]
         repeat(with_reducible first|refine Ev.ip ?_|refine Ev.iq ?_)
         exact hval _ rfl
        ·by_cases h124:bt s (j:Int)=124
         ·rw [if_pos (.inr h124)]
          repeat(with_reducible first|refine Ev.ip ?_|refine Ev.iq ?_)
          rw [show (bt s (j:Int) !=124)=false by rw [h124];rfl]
          exact hval _ rfl
         ·rw [if_neg (fun h=>h.elim h38 h124)]
          repeat(with_reducible first|refine Ev.ip ?_|refine Ev.iq ?_)
          rw [show (bt s (j:Int) !=124)=true from bne_iff_ne.2 h124]
          refine Ev.succ ?_
          simp only [spec_l10End.j1]
          repeat(with_reducible first|refine Ev.ip ?_|refine Ev.iq ?_)
          exact Ev.now _
       ·rw [if_pos (by rw [sfx_size];omega)]
        repeat(with_reducible first|refine Ev.ip ?_|refine Ev.iq ?_)
        refine Ev.succ ?_
        simp only [spec_l10End.j1]
        repeat(with_reducible first|refine Ev.ip ?_|refine Ev.iq ?_)
        exact Ev.now _
     ·rw [rdF_other hlt hl h33 h40]
      repeat(with_reducible first|refine Ev.ip ?_|refine Ev.iq ?_)
      exact Ev.now _
  ·rw [rdF_end (by omega)]
   refine Ev.succ ?_
   simp only [spec_l10End.f]
   repeat(with_reducible first|refine Ev.ip ?_|refine Ev.iq ?_)
   exact Ev.now _
theorem spec_FormulaOk.ev (s : ByteArray) : Ev (fun k => spec_FormulaOk.f k s) (fmOf s).isSome := by
 unfold spec_FormulaOk.f fmOf
 by_cases h:60<s.size
 ·rw [if_pos h]
  repeat(with_reducible first|refine Ev.ip ?_|refine Ev.iq ?_)
  exact Ev.now _
 ·rw [if_neg h]
  by_cases h0:s.size=0
  ·have hr:rdF s.size s=none:=by rw [h0];rfl
   rw [hr]
   repeat(with_reducible first|refine Ev.ip ?_|refine Ev.iq ?_)
   exact Ev.now _
  ·repeat(with_reducible first|refine Ev.ip ?_|refine Ev.iq ?_)
   have hE:=l10End_ev s (by omega) s.size 0 (by omega) (by omega)
   have hsx:=rdF_sfx s s.size 0
   rw [sfx_zero] at hE hsx
   refine Ev.bind hE ?_
   rcases hrd:rdF s.size s with _|⟨f,r⟩
   ·refine Ev.eq (Ev.now _) ?_
    show ((-1:Int)==(s.size:Int))=false
    rw [beq_eq_false_iff_ne];omega
   ·obtain⟨j,ha,hb,rfl⟩:=hsx f r (by omega) hrd
    refine Ev.eq (Ev.now _) ?_
    show (((s.size - (sfx s j).size:Nat):Int)==(s.size:Int))=(if(sfx s j).size=0 then some f else none).isSome
    rw [sfx_size]
    by_cases hj:j=s.size
    ·rw [if_pos (by omega)]
     show _=true
     rw [beq_iff_eq];omega
    ·rw [if_neg (by omega)]
     show _=false
     rw [beq_eq_false_iff_ne];omega
end Go.Proofs.YtbomiegcbimgoaaGreat.Print
end
section
namespace Go.Proofs.YtbomiegcbimgoaaGreat.Print
open Go.RowKit Go.Proofs.YtbomiegcbimgoaaGreatW.PrintWords Go.Proofs.YtbomiegcbimgoaaGreatW.PrintLast Go.Proofs.YtbomiegcbimgoaaGreatW.PrintMore
def dpre (s : ByteArray) (i : Nat) : ByteArray := strOfNums (((bytesOf s).map dI).take i)
theorem dpre_size {s : ByteArray} {i : Nat} (h : i ≤ s.size) : (dpre s i).size = i := by
 unfold dpre
 rw [strOfNums_size, List.length_take, List.length_map, bytesOf_length]
 omega
theorem dpre_succ {s : ByteArray} {i : Nat} (h : i < s.size) : dpre s (i + 1) = dpre s i ++ ⟨#[UInt8.ofNat (dI (bt s i)).toNat]⟩ := by
 apply ByteArray.ext
 apply Array.ext'
 have hl:i<((bytesOf s).map dI).length:=by rw [List.length_map,bytesOf_length];exact h
 have e1:(dpre s (i+1)).data.toList=(((bytesOf s).map dI).take (i+1)).map fun n=>UInt8.ofNat n.toNat:=strOfNums_data _
 have e2:(dpre s i).data.toList=(((bytesOf s).map dI).take i).map fun n=>UInt8.ofNat n.toNat:=strOfNums_data _
 rw [e1,ByteArray.data_append,Array.toList_append,e2,List.take_succ_eq_append_getElem hl,List.map_append,List.getElem_map,← bytes_get h]
 rfl
theorem byte_at {s : ByteArray} {i : Nat} (h : i < s.size) : s.extract i (i + 1) = ⟨#[UInt8.ofNat (bt s i).toNat]⟩ := by
 apply ByteArray.ext
 apply Array.ext'
 rw [ByteArray.data_extract,Array.toList_extract]
 have hl:i<s.data.toList.length:=by rw [data_length];exact h
 have e:bt s i=((s.data.toList[i]).toNat:Int):=by
  rw [bytes_get h (h:=by rw [bytesOf_length];exact h)]
  simp [bytesOf]
 rw [e]
 simp [List.drop_eq_getElem_cons hl]
theorem spec_DualOf.ev (s : ByteArray) : Ev (fun k => spec_DualOf.f k s) (if (fmOf s).isSome = true then dualS s else ⟨#[]⟩) := by
 unfold spec_DualOf.f
 refine Ev.bind (spec_FormulaOk.ev s) ?_
 cases hf:(fmOf s).isSome with
 |false=>exact Ev.ite_neg (by simp) (by rw [if_neg (by simp)];exact Ev.now _)
 |true=>
  have hs:s.size≤60:=by
   unfold fmOf at hf
   split at hf
   ·cases hf
   ·omega
  rw [if_pos rfl]
  refine Ev.ite_pos rfl ?_
  refine Ev.loop (g:=fun k st i=>spec_DualOf.l0 k s st i) s.size (fun i st=>st=dpre s i) (by omega) (fun st h=>?_) (fun i st hi h=>?_) ⟨#[]⟩ (by simp [dpre,strOfNums])
  ·subst h
   refine Ev.succ ?_
   simp only [spec_DualOf.l0]
   refine Ev.ite_neg (by omega) (Ev.eq (Ev.now _) ?_)
   unfold dpre dualS
   rw [List.take_of_length_le (by rw [List.length_map,bytesOf_length];omega)]
  ·subst h
   refine⟨_,(dpre_succ hi).symm,fun K=>Ev.succ ?_⟩
   have hz:=dpre_size (s:=s) (i:=i) (by omega)
   have hw:wrap64 ((i:Int)+1)=((i+1:Nat):Int):=by unfold wrap64;omega
   simp only [spec_DualOf.l0,hz]
   refine Ev.ite_pos (by omega) (Ev.ite_pos (by omega) ?_)
   by_cases c1:bt s i=38
   ·refine Ev.ite_pos c1 (Ev.ite_pos (by omega) ?_)
    rw [c1] at K
    exact K
   refine Ev.ite_neg c1 ?_
   by_cases c2:bt s i=124
   ·refine Ev.ite_pos c2 (Ev.ite_pos (by omega) ?_)
    rw [c2] at K
    exact K
   refine Ev.ite_neg c2 ?_
   by_cases c3:bt s i=48
   ·refine Ev.ite_pos c3 (Ev.ite_pos (by omega) ?_)
    rw [c3] at K
    exact K
   refine Ev.ite_neg c3 ?_
   by_cases c4:bt s i=49
   ·refine Ev.ite_pos c4 (Ev.ite_pos (by omega) ?_)
    rw [c4] at K
    exact K
   refine Ev.ite_neg c4 ?_
   have e:dI (bt s i)=bt s i:=by unfold dI;rw [if_neg c1,if_neg c2,if_neg c3,if_neg c4]
   rw [e,← byte_at hi] at K
   rw [hw] at K ⊢
   simp only [Int.toNat_natCast]
   exact Ev.ite_pos (by omega) (Ev.ite_pos (by omega) (Ev.ite_pos (by rw [ByteArray.size_extract];omega) K))
def gDu (b : UInt8) : UInt8 := UInt8.ofNat (dI (b.toNat : Int)).toNat
theorem dI_range {x : Int} (h0 : 0 ≤ x) (h1 : x ≤ 255) : 0 ≤ dI x ∧ dI x ≤ 255 := by unfold dI; (repeat' split) <;> omega
theorem dI_dI (x : Int) : dI (dI x) = x := by unfold dI; (repeat' split) <;> omega
theorem gDu_nat (b : UInt8) : ((gDu b).toNat : Int) = dI (b.toNat : Int) := by
 have h:=dI_range (x:=(b.toNat:Int)) (by omega) (by have:=b.toNat_lt;omega)
 have e:(gDu b).toNat=(dI (b.toNat:Int)).toNat % 256:=by
  unfold gDu
  rw [UInt8.toNat_ofNat']
 rw [e]
 omega
theorem gDu_gDu (b : UInt8) : gDu (gDu b) = b := by
 apply UInt8.toNat_inj.1
 have h := gDu_nat (gDu b)
 rw [gDu_nat b, dI_dI] at h
 omega
theorem dualS_list (s : ByteArray) : (dualS s).data.toList = s.data.toList.map gDu := by
 have e:(dualS s).data.toList=((bytesOf s).map dI).map fun n=>UInt8.ofNat n.toNat:=strOfNums_data _
 rw [e,bytesOf,List.map_map,List.map_map]
 rfl
theorem ba_eq {s t : ByteArray} (h : s.data.toList = t.data.toList) : s = t := ByteArray.ext (Array.ext' h)
theorem dualS_size (s : ByteArray) : (dualS s).size = s.size := by
 rw [← data_length, dualS_list, List.length_map, data_length]
theorem dualS_dualS (s : ByteArray) : dualS (dualS s) = s := by
 apply ba_eq
 rw [dualS_list, dualS_list, List.map_map]
 have : gDu ∘ gDu = id := funext gDu_gDu
 rw [this, List.map_id]
theorem dualS_bt {s : ByteArray} {i : Nat} (h : i < s.size) : bt (dualS s) i = dI (bt s i) := by
 rw [bytes_get (s:=dualS s) (by rw [dualS_size];exact h) (h:=by rw [bytesOf_length,dualS_size];exact h),bytes_get h (h:=by rw [bytesOf_length];exact h)]
 have hl:i<s.data.toList.length:=by rw [data_length];exact h
 have e:bytesOf (dualS s)=(bytesOf s).map dI:=by
  unfold bytesOf
  rw [dualS_list,List.map_map,List.map_map]
  exact List.map_congr_left fun b _=>gDu_nat b
 have hb:i<(bytesOf s).length:=by rw [bytesOf_length];exact h
 have e2:(bytesOf (dualS s))[i]? =some (dI (bytesOf s)[i]):=by
  rw [e,List.getElem?_map,List.getElem?_eq_getElem hb]
  rfl
 exact Option.some.inj ((List.getElem?_eq_getElem _).symm.trans e2)
theorem dualS_ext (s : ByteArray) (a b : Nat) : dualS (s.extract a b) = (dualS s).extract a b := by
 apply ba_eq
 rw [dualS_list,ByteArray.data_extract,ByteArray.data_extract,Array.toList_extract,Array.toList_extract,dualS_list]
 simp [List.extract,List.map_take,List.map_drop]
def dualF : Fm → Fm
 | .leaf c => .leaf (dI c)
 | .neg f => .neg (dualF f)
 | .bin o f g => .bin (dI o) (dualF f) (dualF g)
def WF : Fm → Prop
 | .leaf c => isLeaf c
 | .neg f => WF f
 | .bin o f g => (o = 38 ∨ o = 124) ∧ WF f ∧ WF g
theorem leaf_dI (c : Int) : isLeaf (dI c) ↔ isLeaf c := by
 unfold isLeaf dI
 (repeat' split) <;> omega
def opt2 : Option (Fm × ByteArray) → Option (Fm × ByteArray) := fun o => o.map fun p => (dualF p.1, dualS p.2)
theorem rdF_dual : ∀ (k : Nat) (s : ByteArray), rdF k (dualS s) = opt2 (rdF k s)
 |0,s=>by simp [rdF,opt2]
 |k+1,s=>by
  have ih:=rdF_dual k
  have hx: ∀t:ByteArray,(dualS t).extract 1 t.size=dualS (t.extract 1 t.size):=fun t=>by rw [dualS_ext]
  have hz: ∀t:ByteArray,¬t.size=0→bt (dualS t) 0=dI (bt t 0):=fun t h=>dualS_bt (i:=0) (by omega)
  simp only [rdF]
  rw [dualS_size,hx]
  by_cases h0:s.size=0
  ·rw [if_pos h0,if_pos h0];rfl
  rw [if_neg h0,if_neg h0,hz s h0]
  have d33:dI (bt s 0)=33↔bt s 0=33:=by unfold dI;(repeat' split) <;> omega
  have d40:dI (bt s 0)=40↔bt s 0=40:=by unfold dI;(repeat' split) <;> omega
  by_cases h1:isLeaf (bt s 0)
  ·rw [if_pos h1,if_pos ((leaf_dI _).2 h1)];rfl
  rw [if_neg h1,if_neg (fun h=>h1 ((leaf_dI _).1 h))]
  by_cases h2:bt s 0=33
  ·rw [if_pos h2,if_pos (d33.2 h2),ih]
   cases rdF k (s.extract 1 s.size) <;> rfl
  rw [if_neg h2,if_neg (fun h=>h2 (d33.1 h))]
  by_cases h3:bt s 0=40
  ·rw [if_pos h3,if_pos (d40.2 h3),ih]
   cases rdF k (s.extract 1 s.size) with
   |none=>rfl
   |some p=>
    obtain⟨f,r⟩:=p
    show (if(dualS r).size=0 then none else _)=opt2 (if r.size=0 then none else _)
    rw [dualS_size]
    by_cases h4:r.size=0
    ·rw [if_pos h4,if_pos h4];rfl
    rw [if_neg h4,if_neg h4]
    dsimp only
    rw [hz r h4]
    have dop:(dI (bt r 0)=38∨dI (bt r 0)=124)↔(bt r 0=38∨bt r 0=124):=by unfold dI;(repeat' split) <;> omega
    by_cases h5:bt r 0=38∨bt r 0=124
    ·rw [if_pos h5,if_pos (dop.2 h5)]
     have e5:=ih (r.extract 1 r.size)
     rw [hx r,e5]
     cases rdF k (r.extract 1 r.size) with
     |none=>rfl
     |some p=>
      obtain⟨g,q⟩:=p
      show (if(dualS q).size=0 then none else _)=opt2 (if q.size=0 then none else _)
      rw [dualS_size]
      by_cases h6:q.size=0
      ·rw [if_pos h6,if_pos h6];rfl
      rw [if_neg h6,if_neg h6]
      dsimp only
      rw [hz q h6]
      have d41:dI (bt q 0)=41↔bt q 0=41:=by unfold dI;(repeat' split) <;> omega
      by_cases h7:bt q 0=41
      ·rw [if_pos h7,if_pos (d41.2 h7)]
       rw [hx q]
       rfl
      ·rw [if_neg h7,if_neg (fun h=>h7 (d41.1 h))];rfl
    ·rw [if_neg h5,if_neg (fun h=>h5 (dop.1 h))];rfl
  ·rw [if_neg h3,if_neg (fun h=>h3 (d40.1 h))];rfl
theorem rdF_wf : ∀ (k : Nat) (s : ByteArray) (f : Fm) (r : ByteArray), rdF k s = some (f, r) → WF f
 |0,_,_,_,h=>by simp [rdF] at h
 |k+1,s,f,r,h=>by
  have ih:=rdF_wf k
  simp only [rdF] at h
  split at h
  ·cases h
  ·split at h
   ·rename_i hl
    cases h
    exact hl
   ·split at h
    ·split at h
     ·cases h
     ·rename_i f1 r1 h1
      cases h
      show WF f1
      exact ih _ _ _ h1
    ·split at h
     ·split at h
      ·cases h
      ·rename_i f1 r1 h1
       split at h
       ·cases h
       ·split at h
        ·rename_i ho
         split at h
         ·cases h
         ·rename_i g q h3
          split at h
          ·cases h
          ·split at h
           ·cases h
            exact⟨ho,ih _ _ _ h1,ih _ _ _ h3⟩
           ·cases h
        ·cases h
     ·cases h
theorem fm_dual (s : ByteArray) : fmOf (dualS s) = (fmOf s).map dualF := by
 unfold fmOf
 rw [dualS_size,rdF_dual]
 by_cases h:60<s.size
 ·rw [if_pos h,if_pos h];rfl
 rw [if_neg h,if_neg h]
 cases rdF s.size s with
 |none=>rfl
 |some p=>
  obtain⟨f,r⟩:=p
  show (if(dualS r).size=0 then some (dualF f) else none)=(if r.size=0 then some f else none).map dualF
  rw [dualS_size]
  split <;> rfl
theorem fm_wf {s : ByteArray} {f : Fm} (h : fmOf s = some f) : WF f := by
 unfold fmOf at h
 split at h
 ·cases h
 ·split at h
  ·cases h
  ·rename_i f1 r h1
   split at h
   ·cases h
    exact rdF_wf _ _ _ _ h1
   ·cases h
end Go.Proofs.YtbomiegcbimgoaaGreat.Print
end
section
namespace Go.Proofs.YtbomiegcbimgoaaGreat.Print
open Go.RowKit Go.Proofs.YtbomiegcbimgoaaGreatW.PrintWords Go.Proofs.YtbomiegcbimgoaaGreatW.PrintLast Go.Proofs.YtbomiegcbimgoaaGreatW.PrintMore
open Oml
section
section
variable {U : List (List Int)} {N : List Int} (L : Logic U N)
theorem fin_of {a : Int} (ia : In U a) : ∃ x : Fin U.length, a = ((x.1 : Nat) : Int) := ⟨⟨a.toNat, by have := ia.1; have := ia.2; omega⟩, by have := ia.1; show a = ((a.toNat : Nat) : Int); omega⟩
theorem in_fin (x : Fin U.length) : In U ((x.1 : Nat) : Int) := ⟨by omega, by have := x.2; omega⟩
theorem and_fin (x y : Fin U.length) : andI U x.1 y.1 = (((L.ol.meet x y).1 : Nat) : Int) := by
 show mI U ((x.1:Nat):Int).toNat ((y.1:Nat):Int).toNat=_
 unfold mI;rw [Int.toNat_natCast,Int.toNat_natCast,L.mt_eq];rfl
theorem or_fin (x y : Fin U.length) : orI U x.1 y.1 = (((L.ol.join x y).1 : Nat) : Int) := by
 show jI U ((x.1:Nat):Int).toNat ((y.1:Nat):Int).toNat=_
 unfold jI;rw [Int.toNat_natCast,Int.toNat_natCast,L.jn_eq];rfl
theorem not_fin (x : Fin U.length) : notI N x.1 = (((L.ol.neg x).1 : Nat) : Int) := by
 show at1 N ((x.1 : Nat) : Int).toNat = _
 rw [Int.toNat_natCast, L.ng_eq]; rfl
theorem no_fin : noI U = (((L.ol.bot).1 : Nat) : Int) := by
 unfold noI; rw [L.no_eq]; rfl
theorem yes_fin : yesI U N = (((L.ol.top).1 : Nat) : Int) := by
 unfold yesI; rw [no_fin L, not_fin L]; rfl
end
end
section
section
variable {U : List (List Int)} {N : List Int} (L : Logic U N)
def valO (x y z : Fin U.length) : Fm → Fin U.length
 | .leaf c=>if c=97 then x else if c=98 then y else if c=99 then z else if c=48 then L.ol.bot else L.ol.top
 | .neg f=>L.ol.neg (valO x y z f)
 | .bin c f g=>if c=38 then L.ol.meet (valO x y z f) (valO x y z g) else L.ol.join (valO x y z f) (valO x y z g)
include L
theorem val_fin (x y z : Fin U.length) : ∀ f : Fm, valF U N x.1 y.1 z.1 f = (((valO L x y z f).1 : Nat) : Int)
 | .leaf c=>by
  unfold valF valO
  split
  ·rfl
  split
  ·rfl
  split
  ·rfl
  split
  ·exact no_fin L
  ·exact yes_fin L
 | .neg f=>by
  show notI N (valF U N x.1 y.1 z.1 f)=_
  rw [val_fin x y z f,not_fin L];rfl
 | .bin c f g=>by
  unfold valF valO
  rw [val_fin x y z f,val_fin x y z g]
  split
  ·exact and_fin L _ _
  ·exact or_fin L _ _
end
end
def Bytes (b : List Int) : Prop := ∀ x ∈ b, 0 ≤ x ∧ x ≤ 255
theorem bytes_rd {b : List Int} (h : Bytes b) (i : Int) : 0 ≤ rd b i ∧ rd b i ≤ 255 := by
 by_cases hi:i.toNat<b.length
 ·have e:rd b i=b[i.toNat]:=by
   show b.getD i.toNat 0=_
   rw [List.getD_eq_getElem?_getD,List.getElem?_eq_getElem hi];rfl
  rw [e]
  exact h _ (List.getElem_mem hi)
 ·have e:rd b i=0:=by
   show b.getD i.toNat 0=_
   rw [List.getD_eq_getElem?_getD,List.getElem?_eq_none (by omega)];rfl
  rw [e];omega
theorem ofInt_nat' (a : Nat) (ha : a < 18446744073709551616) : (BitVec.ofInt 64 (a : Int)).toNat = a := by
 rw [BitVec.ofInt_natCast, BitVec.toNat_ofNat]; exact Nat.mod_eq_of_lt (by omega)
theorem bxor_nat (a b : Nat) (ha : a < 4611686018427387904) (hb : b < 4611686018427387904) : Go.bits .xor .i64 (a : Int) (b : Int) = ((a ^^^ b : Nat) : Int) := by
 have hx:a ^^^ b<2 ^ 62:=Nat.xor_lt_two_pow (by omega) (by omega)
 show IntKind.i64.wrap ((BitVec.ofInt 64 (a:Int) ^^^ BitVec.ofInt 64 (b:Int)).toNat:Int)=_
 rw [BitVec.toNat_xor,ofInt_nat' a (by omega),ofInt_nat' b (by omega),i64_w]
 unfold wrap64;omega
theorem pick_mod {x n : Int} (hx : 0 ≤ x) (hn : 1 ≤ n) : 0 ≤ Int.tmod x n ∧ Int.tmod x n < n := by
 rw [Int.tmod_eq_emod_of_nonneg hx]
 exact⟨Int.emod_nonneg _ (by omega),Int.emod_lt_of_pos _ (by omega)⟩
theorem wrap_pos {x : Int} (h : 0 ≤ x) (h2 : x ≤ 4611686018427387904) : wrap64 x = x := by unfold wrap64; omega
theorem pick_ev {b : List Int} (hb : Bytes b) (hl : b.length ≤ 2000) {p : Int} (h0 : 0 ≤ p) (h1 : p ≤ 1000000000) (n : Int) : ∃ v, Ev (fun k => spec_l20Rd_pick.f k b p n) (v, p + 1) ∧ 0 ≤ v ∧ (1 ≤ n → v < n) := by
 have w1:wrap64 (p+1)=p+1:=wrap_pos (by omega) (by omega)
 have w2:wrap64 (p+1 - 1)=p:=by rw [Int.add_sub_cancel];exact wrap_pos (by omega) (by omega)
 have hz:Ev (fun k=>spec_l20Rd_pick.j0 k n true b (p+1)) (0,p+1):=by
  refine Ev.succ ?_
  simp only [spec_l20Rd_pick.j0]
  repeat(with_reducible first|refine Ev.ip ?_|refine Ev.iq ?_)
  exact Ev.now _
 unfold spec_l20Rd_pick.f
 rw [w1]
 by_cases hn:n<1
 ·exact⟨0,Ev.ite_pos hn hz,by omega,fun h=>by omega⟩
 by_cases hlen:b.length=0
 ·refine⟨0,Ev.ite_neg hn ?_,by omega,fun h=>by omega⟩
  rw [show ((b.length:Int)==0)=true by rw [hlen];rfl]
  exact hz
 have hbf:((b.length:Int)==0)=false:=by rw [beq_eq_false_iff_ne];omega
 by_cases hp:p<(b.length:Int)
 ·obtain⟨r0,r1⟩:=bytes_rd hb p
  have hm:=pick_mod (x:=rd b p) (n:=n) r0 (by omega)
  refine⟨Int.tmod (rd b p) n,Ev.ite_neg hn ?_,hm.1,fun _=>hm.2⟩
  rw [hbf]
  refine Ev.succ ?_
  simp only [spec_l20Rd_pick.j0,w2]
  rw [wrap_pos (x:=rd b p) r0 (by omega)]
  refine Ev.ite_neg (by simp) (Ev.ite_pos hp (Ev.ite_pos h0 (Ev.ite_neg (by omega) (Ev.now _))))
 ·have m1:=pick_mod (x:=p) (n:=(b.length:Int)) h0 (by omega)
  have w3:wrap64 (wrap64 (p*7)+3)=p*7+3:=by
   rw [wrap_pos (x:=p*7) (by omega) (by omega)]
   exact wrap_pos (by omega) (by omega)
  have m2:=pick_mod (x:=p*7+3) (n:=(b.length:Int)) (by omega) (by omega)
  obtain⟨a0,a1⟩:=bytes_rd hb (Int.tmod p b.length)
  obtain⟨c0,c1⟩:=bytes_rd hb (Int.tmod (p*7+3) b.length)
  have hd:0≤Int.tdiv p b.length∧Int.tdiv p b.length≤p:=by
   rw [Int.tdiv_eq_ediv_of_nonneg h0]
   exact⟨Int.ediv_nonneg h0 (by omega),Int.ediv_le_self _ h0⟩
  generalize hA:rd b (Int.tmod p b.length)=A at a0 a1
  generalize hC:rd b (Int.tmod (p*7+3) b.length)=C at c0 c1
  generalize hD:Int.tdiv p b.length=D at hd
  obtain⟨x,hx⟩: ∃x:Nat,A*131+C*1117+p*29+D*53=(x:Int):=⟨(A*131+C*1117+p*29+D*53).toNat,by omega⟩
  have hx2:x≤1000000000000:=by omega
  obtain⟨y,hy⟩: ∃y:Nat,Int.tdiv (x:Int) 64=(y:Int):=⟨x / 64,by rw [Int.tdiv_eq_ediv_of_nonneg (by omega)];omega⟩
  have hy2:y≤1000000000000:=by
   have:Int.tdiv (x:Int) 64≤x:=by rw [Int.tdiv_eq_ediv_of_nonneg (by omega)];omega
   omega
  have hm:=pick_mod (x:=((x ^^^ y:Nat):Int)) (n:=n) (by omega) (by omega)
  refine⟨Int.tmod ((x ^^^ y:Nat):Int) n,Ev.ite_neg hn ?_,hm.1,fun _=>hm.2⟩
  rw [hbf]
  refine Ev.succ ?_
  simp only [spec_l20Rd_pick.j0,w2,w3,hA,hC,hD]
  rw [wrap_pos (x:=A) a0 (by omega),wrap_pos (x:=C) c0 (by omega),wrap_pos (x:=A*131) (by omega) (by omega),wrap_pos (x:=C*1117) (by omega) (by omega),wrap_pos (x:=A*131+C*1117) (by omega) (by omega),wrap_pos (x:=p*29) (by omega) (by omega),wrap_pos (x:=A*131+C*1117+p*29) (by omega) (by omega),wrap_pos (x:=D) hd.1 (by omega),wrap_pos (x:=D*53) (by omega) (by omega),wrap_pos (x:=A*131+C*1117+p*29+D*53) (by omega) (by omega),hx,hy,wrap_pos (x:=(y:Int)) (by omega) (by omega),bxor_nat x y (by omega) (by omega)]
  exact Ev.ite_neg (by simp) (Ev.ite_neg hp (Ev.ite_neg (by omega) (Ev.ite_pos m1.1 (Ev.ite_pos m1.2 (Ev.ite_pos m2.1 (Ev.ite_pos m2.2 (Ev.ite_neg (by omega) (Ev.now _))))))))
theorem odd_ev {b : List Int} (hb : Bytes b) (hl : b.length ≤ 2000) {p : Int} (h0 : 0 ≤ p) (h1 : p ≤ 1000000000) (n : Int) : ∃ v q, Ev (fun k => spec_l20Rd_odd.f k b p n) (v, q) ∧ p ≤ q ∧ q ≤ p + 1 := by
 unfold spec_l20Rd_odd.f
 by_cases hn:n>0
 ·obtain⟨v,hv,_,_⟩:=pick_ev hb hl h0 h1 n
  exact⟨_,_,Ev.ite_pos hn (Ev.bind hv (Ev.now _)),by omega,by omega⟩
 ·exact⟨_,_,Ev.ite_neg hn (Ev.now _),by omega,by omega⟩
theorem open_ev {l : List Int} (h : Bytes l) : ∃ b, Bytes b ∧ b.length ≤ 2000 ∧ spec_l20Open.f l = some (b, 0) := by
 unfold spec_l20Open.f
 by_cases hl:(l.length:Int)>2000
 ·rw [if_pos hl,if_pos (by omega)]
  exact⟨l.take 2000,fun x hx=>h x (List.mem_of_mem_take hx),by rw [List.length_take];omega,rfl⟩
 ·rw [if_neg hl]
  exact⟨l,h,by omega,rfl⟩
def costF : Nat → Nat
 | 0 => 10
 | d + 1 => 2 * costF d + 10
theorem rdOf_size {xs : List ByteArray} {lo hi : Nat} (h : ∀ x ∈ xs, lo ≤ x.size ∧ x.size ≤ hi) {i : Int} (h0 : 0 ≤ i) (h1 : i < (xs.length : Int)) : lo ≤ (rdOf ByteArray.empty xs i).size ∧ (rdOf ByteArray.empty xs i).size ≤ hi := by
 have hi':i.toNat<xs.length:=by omega
 have e:rdOf ByteArray.empty xs i=xs[i.toNat]:=by
  unfold rdOf
  rw [List.getD_eq_getElem?_getD,List.getElem?_eq_getElem hi'];rfl
 rw [e]
 exact h _ (List.getElem_mem hi')
theorem wrap_pred (d : Nat) (h : d ≤ 10) : wrap64 (((d + 1 : Nat) : Int) - 1) = (d : Int) := by
 rw [show ((d + 1 : Nat) : Int) - 1 = (d : Int) by omega]
 exact wrap_pos (by omega) (by omega)
theorem formula_ev {b : List Int} (hb : Bytes b) (hl : b.length ≤ 2000) : ∀ (d : Nat), d ≤ 3 → ∀ p : Int, 0 ≤ p → p + ((1000 * d : Nat) : Int) ≤ 900000000 → ∃ s q, Ev (fun k => spec_l20Formula.f k b p (d : Int)) (s, q) ∧ p ≤ q ∧ q ≤ p + (costF d : Nat) ∧ 1 ≤ s.size ∧ s.size ≤ costF d := by
 have leaf: ∀(d:Int) (p:Int),0≤p→p≤999999990→ ∃s q,Ev (fun k=>spec_l20Formula.j0 k d true b p) (s,q)∧p≤q∧q≤p+1∧1≤s.size∧s.size≤1:=by
  intro d p h0 h1
  obtain⟨v,hv,v0,v1⟩:=pick_ev hb hl h0 (by omega) 7
  have v2:=v1 (by omega)
  have hs:=rdOf_size (xs:= [(⟨#[97]⟩:ByteArray),(⟨#[98]⟩:ByteArray),(⟨#[97]⟩:ByteArray),(⟨#[98]⟩:ByteArray),(⟨#[99]⟩:ByteArray),(⟨#[49]⟩:ByteArray),(⟨#[48]⟩:ByteArray)]) (lo:=1) (hi:=1) (i:=v) (by
   intro x hx
   simp only [List.mem_cons,List.not_mem_nil,or_false] at hx
   rcases hx with rfl|rfl|rfl|rfl|rfl|rfl|rfl <;> exact⟨Nat.le_refl 1,Nat.le_refl 1⟩) v0 (by show v<7;exact v2)
  refine⟨_,p+1,Ev.succ ?_,by omega,by omega,hs.1,hs.2⟩
  simp only [spec_l20Formula.j0]
  refine Ev.ite_pos (by simp) (Ev.pbind rfl (Ev.bind hv (Ev.ite_pos v0 (Ev.ite_pos ?_ (Ev.now _)))))
  show v<7
  exact v2
 intro d
 induction d with
 |zero=>
  intro _ p h0 h1
  obtain⟨s,q,hs,q0,q1,s0,s1⟩:=leaf 0 p h0 (by omega)
  refine⟨s,q,Ev.succ ?_,q0,by show q≤p+10;omega,s0,by show s.size≤10;omega⟩
  simp only [spec_l20Formula.f]
  exact Ev.ite_pos rfl hs
 |succ d ih=>
  intro hd p h0 h1
  have hc:costF (d+1)=2*costF d+10:=rfl
  have hc2:costF d≤70:=by
   rcases d with _|_|_|d
   ·decide
   ·decide
   ·decide
   ·omega
  obtain⟨v,hv,v0,v1⟩:=pick_ev hb hl h0 (by omega) 5
  have hne: ¬(((d+1:Nat):Int)=0):=by omega
  by_cases hv0:v=0
  ·obtain⟨s,q,hs,q0,q1,s0,s1⟩:=leaf ((d+1:Nat):Int) (p+1) (by omega) (by omega)
   refine⟨s,q,Ev.succ ?_,by omega,by omega,s0,by omega⟩
   simp only [spec_l20Formula.f]
   refine Ev.ite_neg hne (Ev.bind hv ?_)
   rw [show ((v,p+1).1==0)=true from (by rw [hv0];rfl:(v==0)=true)]
   exact hs
  ·have hvf:((v,p+1).1==0)=false:=(by rw [beq_eq_false_iff_ne];exact hv0:(v==0)=false)
   obtain⟨u,hu,u0,u1⟩:=pick_ev hb hl (p:=p+1) (by omega) (by omega) 3
   obtain⟨s,q,hs,q0,q1,s0,s1⟩:=ih (by omega) (p+1+1) (by omega) (by omega)
   have hw:=wrap_pred d (by omega)
   by_cases hu0:u=0
   ·have e33:((⟨#[33]⟩:ByteArray) ++ s).size=1+s.size:=by rw [ByteArray.size_append];rfl
    refine⟨(⟨#[33]⟩:ByteArray) ++ s,q,Ev.succ ?_,by omega,by omega,by omega,by omega⟩
    simp only [spec_l20Formula.f]
    refine Ev.ite_neg hne (Ev.bind hv ?_)
    rw [hvf]
    refine Ev.succ ?_
    simp only [spec_l20Formula.j0,hw]
    refine Ev.ite_neg (by simp) (Ev.bind hu (Ev.ite_pos hu0 (Ev.bind hs (Ev.ite_pos ?_ (Ev.now _)))))
    show 1+s.size≤_
    omega
   ·obtain⟨x,hx,x0,x1⟩:=pick_ev hb hl (p:=q) (by omega) (by omega) 2
    have x2:=x1 (by omega)
    obtain⟨t,r,ht,r0,r1,t0,t1⟩:=ih (by omega) (q+1) (by omega) (by omega)
    have hy:=rdOf_size (xs:= [(⟨#[38]⟩:ByteArray),(⟨#[124]⟩:ByteArray)]) (lo:=1) (hi:=1) (i:=x) (by
     intro z hz
     simp only [List.mem_cons,List.not_mem_nil,or_false] at hz
     rcases hz with rfl|rfl <;> exact⟨Nat.le_refl 1,Nat.le_refl 1⟩) x0 (by show x<2;exact x2)
    have e40:(⟨#[40]⟩:ByteArray).size=1:=rfl
    have e41:(⟨#[41]⟩:ByteArray).size=1:=rfl
    have hz:(((((⟨#[40]⟩:ByteArray) ++ s) ++ rdOf ByteArray.empty [(⟨#[38]⟩:ByteArray),(⟨#[124]⟩:ByteArray)] x) ++ t) ++ (⟨#[41]⟩:ByteArray)).size=1+s.size+(rdOf ByteArray.empty [(⟨#[38]⟩:ByteArray),(⟨#[124]⟩:ByteArray)] x).size+t.size+1:=by simp only [ByteArray.size_append,e40,e41]
    refine⟨((((⟨#[40]⟩:ByteArray) ++ s) ++ rdOf ByteArray.empty [(⟨#[38]⟩:ByteArray),(⟨#[124]⟩:ByteArray)] x) ++ t) ++ (⟨#[41]⟩:ByteArray),r,Ev.succ ?_,by omega,by omega,by omega,by omega⟩
    ·simp only [spec_l20Formula.f]
     refine Ev.ite_neg hne (Ev.bind hv ?_)
     rw [hvf]
     refine Ev.succ ?_
     simp only [spec_l20Formula.j0,hw]
     refine Ev.ite_neg (by simp) (Ev.bind hu (Ev.ite_neg hu0 (Ev.bind hs (Ev.ite_pos ?_ (Ev.pbind rfl (Ev.bind hx (Ev.ite_pos x0 (Ev.ite_pos ?_ (Ev.ite_pos ?_ (Ev.bind ht (Ev.ite_pos ?_ (Ev.ite_pos ?_ (Ev.now _)))))))))))))
     ·show 1+s.size≤_
      omega
     ·show x<2
      exact x2
     ·simp only [ByteArray.size_append,e40];omega
     ·simp only [ByteArray.size_append,e40];omega
     ·simp only [ByteArray.size_append,e40];omega
theorem formed_ev {b : List Int} (hb : Bytes b) (hl : b.length ≤ 2000) {p : Int} (h0 : 0 ≤ p) (h1 : p ≤ 800000000) (n : Int) : ∃ s q, Ev (fun k => spec_l20Formed.f k b p n) (s, q) ∧ p ≤ q ∧ q ≤ p + 200 ∧ s.size ≤ 200 := by
 have tail: ∀(t:ByteArray) (p:Int),1≤t.size→t.size≤150→0≤p→p≤900000000→ ∃s q,Ev (fun k=>spec_l20Formed.j0 k n t b p) (s,q)∧p≤q∧q≤p+3∧s.size≤200:=by
  intro t p t0 t1 h0 h1
  obtain⟨o,q,ho,q0,q1⟩:=odd_ev hb hl h0 (by omega) n
  cases o with
  |false=>
   refine⟨t,q,Ev.succ ?_,q0,by omega,by omega⟩
   simp only [spec_l20Formed.j0]
   exact Ev.bind ho (Ev.ite_neg (by simp) (Ev.now _))
  |true=>
   obtain⟨v,hv,v0,v1⟩:=pick_ev hb hl (p:=q) (by omega) (by omega) (t.size:Int)
   have v2:=v1 (by omega)
   obtain⟨u,hu,u0,u1⟩:=pick_ev hb hl (p:=q+1) (by omega) (by omega) 5
   have u2:=u1 (by omega)
   have hy:=rdOf_size (xs:= [(⟨#[]⟩:ByteArray),(⟨#[40]⟩:ByteArray),(⟨#[41]⟩:ByteArray),(⟨#[100]⟩:ByteArray),(⟨#[38]⟩:ByteArray)]) (lo:=0) (hi:=1) (i:=u) (by
    intro z hz
    simp only [List.mem_cons,List.not_mem_nil,or_false] at hz
    rcases hz with rfl|rfl|rfl|rfl|rfl
    ·exact⟨Nat.le_refl 0,Nat.zero_le 1⟩
    all_goals exact⟨Nat.zero_le 1,Nat.le_refl 1⟩) u0 (by show u<5;exact u2)
   have hw:wrap64 (v+1)=v+1:=wrap_pos (by omega) (by omega)
   have hz:(((t.extract 0 v.toNat) ++ rdOf ByteArray.empty [(⟨#[]⟩:ByteArray),(⟨#[40]⟩:ByteArray),(⟨#[41]⟩:ByteArray),(⟨#[100]⟩:ByteArray),(⟨#[38]⟩:ByteArray)] u) ++ t.extract (v+1).toNat t.size).size≤200:=by simp only [ByteArray.size_append,ByteArray.size_extract];omega
   refine⟨((t.extract 0 v.toNat) ++ rdOf ByteArray.empty [(⟨#[]⟩:ByteArray),(⟨#[40]⟩:ByteArray),(⟨#[41]⟩:ByteArray),(⟨#[100]⟩:ByteArray),(⟨#[38]⟩:ByteArray)] u) ++ t.extract (v+1).toNat t.size,q+1+1,Ev.succ ?_,by omega,by omega,hz⟩
   ·simp only [spec_l20Formed.j0,hw]
    refine Ev.bind ho (Ev.ite_pos rfl (Ev.bind hv (Ev.ite_pos v0 (Ev.ite_pos ?_ (Ev.pbind rfl (Ev.bind hu (Ev.ite_pos u0 (Ev.ite_pos ?_ (Ev.ite_pos ?_ (Ev.ite_pos ?_ (Ev.ite_pos ?_ (Ev.ite_pos ?_ (Ev.eq (Ev.now _) (by show (_ ++ t.extract (wrap64 (v+1)).toNat t.size,_)=_;rw [hw]))))))))))))))
    ·show v≤(t.size:Int)
     omega
    ·show u<5
     exact u2
    ·simp only [ByteArray.size_extract];omega
    ·show 0≤wrap64 (v+1)
     rw [hw];omega
    ·show wrap64 (v+1)≤(t.size:Int)
     rw [hw];omega
    ·simp only [ByteArray.size_append,ByteArray.size_extract];omega
 unfold spec_l20Formed.f
 obtain⟨s,q,hs,q0,q1,s0,s1⟩:=formula_ev hb hl 3 (by omega) p h0 (by omega)
 have c3:costF 3=150:=rfl
 obtain⟨v,hv,v0,v1⟩:=pick_ev hb hl (p:=q) (by omega) (by omega) 8
 by_cases e0:v=0
 ·obtain⟨t,r,ht,r0,r1,t1⟩:=tail ⟨#[40,33,97,124,40,97,38,40,33,97,124,98,41,41,41]⟩ (q+1) (by decide) (by decide) (by omega) (by omega)
  exact⟨t,r,Ev.bind hs (Ev.bind hv (Ev.ite_pos e0 ht)),by omega,by omega,t1⟩
 by_cases e1:v=1
 ·obtain⟨t,r,ht,r0,r1,t1⟩:=tail ⟨#[40,97,124,33,97,41]⟩ (q+1) (by decide) (by decide) (by omega) (by omega)
  exact⟨t,r,Ev.bind hs (Ev.bind hv (Ev.ite_neg e0 (Ev.ite_pos e1 ht))),by omega,by omega,t1⟩
 by_cases e2:v=2
 ·obtain⟨t,r,ht,r0,r1,t1⟩:=tail ⟨#[40,40,97,38,98,41,124,40,40,97,38,33,98,41,124,40,33,97,124,33,98,41,41,41]⟩ (q+1) (by decide) (by decide) (by omega) (by omega)
  exact⟨t,r,Ev.bind hs (Ev.bind hv (Ev.ite_neg e0 (Ev.ite_neg e1 (Ev.ite_pos e2 ht)))),by omega,by omega,t1⟩
 obtain⟨t,r,ht,r0,r1,t1⟩:=tail s (q+1) (by omega) (by omega) (by omega) (by omega)
 exact⟨t,r,Ev.bind hs (Ev.bind hv (Ev.ite_neg e0 (Ev.ite_neg e1 (Ev.ite_neg e2 ht)))),by omega,by omega,t1⟩
structure Sq (n : Nat) (U : List (List Int)) (N : List Int) : Prop where
 pos:1≤n
 small:n≤100
 len:U.length=n
 row: ∀r ∈ U,r.length=n
 lenN:N.length=n
 ran: ∀x ∈ N,0≤x∧x<(n:Int)
def sqB (r : List (List Int) × List Int) : Bool := decide (1 ≤ r.2.length) && (decide (r.2.length ≤ 100) && ((r.1.length == r.2.length) && (r.1.all (fun x => x.length == r.2.length) && r.2.all (fun x => decide (0 ≤ x) && decide (x < (r.2.length : Int))))))
theorem sq_of {r : List (List Int) × List Int} (h : sqB r = true) : Sq r.2.length r.1 r.2 := by
 unfold sqB at h
 simp only [Bool.and_eq_true,decide_eq_true_eq,beq_iff_eq,List.all_eq_true] at h
 obtain⟨h1,h2,h3,h4,h5⟩:=h
 exact⟨h1,h2,h3,h4,rfl,h5⟩
def gB (x : Int) : List (List Int) × List Int := (spec_l20Boole.f 150 x).getD ([], [])
set_option maxRecDepth 100000 in
theorem gB_ev {x : Int} (h0 : 0 ≤ x) (h1 : x < 4) : Ev (fun k => spec_l20Boole.f k x) ((gB x).1, (gB x).2) ∧ sqB (gB x) = true := by
 have hx:x=0∨x=1∨x=2∨x=3:=by omega
 rcases hx with rfl|rfl|rfl|rfl
 ·exact⟨Ev.of (spec_l20Boole.mono _) (k:=150) zqk,by kernel_rfl⟩
 ·exact⟨Ev.of (spec_l20Boole.mono _) (k:=150) zqk,by kernel_rfl⟩
 ·exact⟨Ev.of (spec_l20Boole.mono _) (k:=150) zqk,by kernel_rfl⟩
 ·exact⟨Ev.of (spec_l20Boole.mono _) (k:=150) zqk,by kernel_rfl⟩
def gG (a b : List (List Int) × List Int) : List (List Int) × List Int := (spec_l20Glued.f 900 a.1 a.2 b.1 b.2).getD ([], [])
def gS : List (List Int) × List Int := spec_l20Six.f.getD ([], [])
def gP : List (List Int) × List Int := (spec_l20Pasted.f 900).getD ([], [])
set_option maxRecDepth 100000 in
theorem g22 : Ev (fun k => spec_l20Glued.f k (gB 2).1 (gB 2).2 (gB 2).1 (gB 2).2) ((gG (gB 2) (gB 2)).1, (gG (gB 2) (gB 2)).2) ∧ sqB (gG (gB 2) (gB 2)) = true :=
 ⟨Ev.of (spec_l20Glued.mono _ _ _ _) (k:=900) zqk,by kernel_rfl⟩
set_option maxRecDepth 100000 in
theorem g23 : Ev (fun k => spec_l20Glued.f k (gB 2).1 (gB 2).2 (gB 3).1 (gB 3).2) ((gG (gB 2) (gB 3)).1, (gG (gB 2) (gB 3)).2) ∧ sqB (gG (gB 2) (gB 3)) = true :=
 ⟨Ev.of (spec_l20Glued.mono _ _ _ _) (k:=900) zqk,by kernel_rfl⟩
set_option maxRecDepth 100000 in
theorem g222 : Ev (fun k => spec_l20Glued.f k (gG (gB 2) (gB 2)).1 (gG (gB 2) (gB 2)).2 (gB 2).1 (gB 2).2) ((gG (gG (gB 2) (gB 2)) (gB 2)).1, (gG (gG (gB 2) (gB 2)) (gB 2)).2) ∧ sqB (gG (gG (gB 2) (gB 2)) (gB 2)) = true :=
 ⟨Ev.of (spec_l20Glued.mono _ _ _ _) (k:=900) zqk,by kernel_rfl⟩
set_option maxRecDepth 100000 in
theorem gS2 : Ev (fun k => spec_l20Glued.f k gS.1 gS.2 (gB 2).1 (gB 2).2) ((gG gS (gB 2)).1, (gG gS (gB 2)).2) ∧ sqB (gG gS (gB 2)) = true :=
 ⟨Ev.of (spec_l20Glued.mono _ _ _ _) (k:=900) zqk,by kernel_rfl⟩
theorem gS_ev : spec_l20Six.f = some (gS.1, gS.2) ∧ sqB gS = true := ⟨by kernel_rfl, by kernel_rfl⟩
set_option maxRecDepth 100000 in
theorem gP_ev : Ev (fun k => spec_l20Pasted.f k) (gP.1, gP.2) ∧ sqB gP = true := ⟨Ev.of spec_l20Pasted.mono (k := 900) (by kernel_rfl), by kernel_rfl⟩
theorem Ev.run {σ ρ : Type} {g : Nat → σ → Int → Option ρ} (n : Nat) (I : Nat → σ → Prop) (hn : n < 4611686018427387904)
 (hstep: ∀i s,i<n→I i s→ ∃s',I (i+1) s'∧ ∀R,Ev (fun k=>g k s' (wrap64 ((i:Int)+1))) R→Ev (fun k=>g k s (i:Int)) R): ∀s,I 0 s→ ∃s',I n s'∧ ∀R,Ev (fun k=>g k s' (n:Int)) R→Ev (fun k=>g k s 0) R:=by
 have key: ∀i,i≤n→ ∀s,I 0 s→ ∃s',I i s'∧ ∀R,Ev (fun k=>g k s' (i:Int)) R→Ev (fun k=>g k s 0) R:=by
  intro i
  induction i with
  |zero=>intro _ s hs;exact⟨s,hs,fun R h=>h⟩
  |succ i ih=>
   intro hi s hs
   obtain⟨s1,h1,k1⟩:=ih (by omega) s hs
   obtain⟨s2,h2,k2⟩:=hstep i s1 (by omega) h1
   refine⟨s2,h2,fun R h=>k1 R (k2 R ?_)⟩
   rw [wrap_nat (by omega)]
   exact h
 exact fun s hs=>key n (Nat.le_refl _) s hs
theorem rd_mem {xs : List Int} {i : Int} (h0 : 0 ≤ i) (h1 : i < (xs.length : Int)) : rd xs i ∈ xs := by
 have hi:i.toNat<xs.length:=by omega
 have e:rd xs i=xs[i.toNat]:=by
  show xs.getD i.toNat 0=_
  rw [List.getD_eq_getElem?_getD,List.getElem?_eq_getElem hi];rfl
 rw [e];exact List.getElem_mem hi
theorem rdL_mem {xs : List (List Int)} {i : Int} (h0 : 0 ≤ i) (h1 : i < (xs.length : Int)) : rd_L3 xs i ∈ xs := by
 obtain⟨m,rfl⟩: ∃m:Nat,i=(m:Int):=⟨i.toNat,by omega⟩
 have hi:m<xs.length:=by omega
 rw [rdL_nat,List.getD_eq_getElem?_getD,List.getElem?_eq_getElem hi]
 exact List.getElem_mem hi
structure Sh (n : Nat) (U : List (List Int)) (N : List Int) : Prop where
 len : U.length = n
 row : ∀ r ∈ U, r.length = n
 lenN : N.length = n
theorem Sq.sh {n : Nat} {U : List (List Int)} {N : List Int} (h : Sq n U N) : Sh n U N := ⟨h.len, h.row, h.lenN⟩
theorem rename_ev {n : Nat} {U : List (List Int)} {N : List Int} (S : Sq n U N) {o : List Int} (ho : o.length = n) (hr : ∀ x ∈ o, 0 ≤ x ∧ x < (n : Int)) : ∃ V M, Sh n V M ∧ Ev (fun k => spec_l20Rename.f k U N o) (V, M) := by
 have hn:=S.pos
 have hs:=S.small
 have hU:=S.len
 have hN:=S.lenN
 obtain⟨back,hb,kb⟩:=Ev.run (ρ:=List (List Int) × List Int) (g:=fun k (s:List Int) i=>spec_l20Rename.l0 k o s i U N) n (fun _ s=>s.length=n) (by omega) (fun i s hi hl=>by
  have r1:=hr _ (rd_mem (xs:=o) (i:=(i:Int)) (by omega) (by omega))
  have r2:=r1.1
  have r3:=r1.2
  refine⟨s.set (rd o (i:Int)).toNat (i:Int),by rw [List.length_set];exact hl,fun R h=>Ev.succ ?_⟩
  simp only [spec_l20Rename.l0]
  exact Ev.ite_pos (by omega) (Ev.ite_pos (by omega) (Ev.ite_pos r2 (Ev.ite_pos (by omega) h)))) (List.replicate ((o.length:Int)).toNat 0) (by simp [ho])
 have hrow: ∀(i:Nat) (V:List (List Int)) (M:List Int),i<n→ ∃row:List Int,row.length=n∧ ∀R,Ev (fun k=>spec_l20Rename.l2 k o back (i:Int) row (n:Int) U N V M) R→Ev (fun k=>spec_l20Rename.l2 k o back (i:Int) [] 0 U N V M) R:=by
  intro i V M hi
  have r1:=hr _ (rd_mem (xs:=o) (i:=(i:Int)) (by omega) (by omega))
  have r2:=r1.1
  have r3:=r1.2
  have rl:=S.row _ (rdL_mem (xs:=U) (i:=rd o (i:Int)) r2 (by omega))
  exact Ev.run (ρ:=List (List Int) × List Int) (g:=fun k (s:List Int) j=>spec_l20Rename.l2 k o back (i:Int) s j U N V M) n (fun j s=>s.length=j) (by omega) (fun j s hj hl=>by
   have q1:=hr _ (rd_mem (xs:=o) (i:=(j:Int)) (by omega) (by omega))
   have q2:=q1.1
   have q3:=q1.2
   refine⟨s ++ [rd (rd_L3 U (rd o (i:Int))) (rd o (j:Int))],by rw [List.length_append,hl];rfl,fun R h=>Ev.succ ?_⟩
   simp only [spec_l20Rename.l2]
   exact Ev.ite_pos (by omega) (Ev.ite_pos (by omega) (Ev.ite_pos (by omega) (Ev.ite_pos r2 (Ev.ite_pos (by omega) (Ev.ite_pos (by omega) (Ev.ite_pos q2 (Ev.ite_pos (by omega) (Ev.ite_pos (by omega) h))))))))) [] rfl
 obtain⟨⟨V,M⟩,⟨hV,hVr,hM⟩,kV⟩:=Ev.run (ρ:=List (List Int) × List Int) (g:=fun k (s:List (List Int) × List Int) i=>spec_l20Rename.l1 k o back i U N s.1 s.2) n (fun i s=>s.1.length=i∧(∀r ∈ s.1,r.length=n)∧s.2.length=i) (by omega) (fun i s hi hl=>by
  obtain⟨V,M⟩:=s
  obtain⟨h1,h2,h3⟩:=hl
  have h1':V.length=i:=h1
  have h3':M.length=i:=h3
  have r1:=hr _ (rd_mem (xs:=o) (i:=(i:Int)) (by omega) (by omega))
  have r2:=r1.1
  have r3:=r1.2
  have n1:=S.ran _ (rd_mem (xs:=N) (i:=rd o (i:Int)) r2 (by omega))
  have n2:=n1.1
  have n3:=n1.2
  obtain⟨row,hrl,kr⟩:=hrow i V M hi
  refine⟨(V ++ [row],M ++ [rd back (rd N (rd o (i:Int)))]),⟨by simp [h1'],?_,by simp [h3']⟩,fun R h=>Ev.succ ?_⟩
  ·intro r hr'
   rcases List.mem_append.1 hr' with hr'|hr'
   ·exact h2 r hr'
   ·rw [List.mem_singleton.1 hr'];exact hrl
  ·simp only [spec_l20Rename.l1]
   refine Ev.ite_pos (by omega) (kr R (Ev.succ ?_))
   simp only [spec_l20Rename.l2]
   exact Ev.ite_neg (by omega) (Ev.ite_pos (by omega) (Ev.ite_pos (by omega) (Ev.ite_pos (by omega) (Ev.ite_pos r2 (Ev.ite_pos (by omega) (Ev.ite_pos n2 (Ev.ite_pos (by omega) (Ev.ite_pos (by omega) h))))))))) ([],[]) ⟨rfl,(fun _ h=>by cases h),rfl⟩
 refine⟨V,M,⟨hV,hVr,hM⟩,?_⟩
 unfold spec_l20Rename.f
 refine Ev.ite_pos (by omega) (Ev.ite_pos (by omega) (kb _ (Ev.succ ?_)))
 simp only [spec_l20Rename.l0]
 refine Ev.ite_neg (by omega) (kV _ (Ev.succ ?_))
 simp only [spec_l20Rename.l1]
 exact Ev.ite_neg (by omega) (Ev.now _)
section
section
variable {b : List Int} (hb : Bytes b) (hl : b.length ≤ 2000)
include hb hl
theorem lg_j5 {m : Nat} (hm : 1 ≤ m) (hm2 : m ≤ 100) {U : List (List Int)} {N : List Int} (S : Sh m U N) {p : Int} (h0 : 0 ≤ p) (h1 : p ≤ 999999900) (n : Int) :
 ∃V M q,Ev (fun k=>spec_l20Logic.j5 k n b p U N) (V,M,q)∧p≤q∧q≤p+4:=by
 have hU:=S.len
 have hN:=S.lenN
 obtain⟨o,p1,ho,q1,q2⟩:=odd_ev hb hl h0 (by omega) n
 cases o with
 |false=>
  refine⟨U,N,p1,Ev.succ ?_,by omega,by omega⟩
  simp only [spec_l20Logic.j5]
  refine Ev.bind ho ?_
  dsimp only
  exact Ev.ite_neg (by decide) (Ev.now _)
 |true=>
  obtain⟨v,hv,v0,v1⟩:=pick_ev hb hl (p:=p1) (by omega) (by omega) 4
  have v2:=v1 (by omega)
  by_cases e0:v=0
  ·refine⟨[],[],p1+1,Ev.succ ?_,?_,?_⟩
   ·simp only [spec_l20Logic.j5]
    refine Ev.bind ho ?_
    dsimp only
    refine Ev.ite_pos rfl (Ev.bind hv ?_)
    dsimp only
    exact Ev.ite_pos e0 (Ev.now _)
   ·omega
   ·omega
  by_cases e1:v=1
  ·refine⟨U,N.drop (1:Int).toNat,p1+1,Ev.succ ?_,?_,?_⟩
   ·simp only [spec_l20Logic.j5]
    refine Ev.bind ho ?_
    dsimp only
    refine Ev.ite_pos rfl (Ev.bind hv ?_)
    dsimp only
    exact Ev.ite_neg e0 (Ev.ite_pos e1 (Ev.ite_pos (by omega) (Ev.now _)))
   ·omega
   ·omega
  by_cases e2:v=2
  ·obtain⟨x,hx,x0,x1⟩:=pick_ev hb hl (p:=p1+1) (by omega) (by omega) (N.length:Int)
   have x2:=x1 (by omega)
   obtain⟨y,hy,y0,y1⟩:=pick_ev hb hl (p:=p1+1+1) (by omega) (by omega) (wrap64 ((N.length:Int)+1))
   refine⟨U,N.set (x:Int).toNat y,p1+1+1+1,Ev.succ ?_,?_,?_⟩
   ·simp only [spec_l20Logic.j5]
    refine Ev.bind ho ?_
    dsimp only
    refine Ev.ite_pos rfl (Ev.bind hv ?_)
    dsimp only
    refine Ev.ite_neg e0 (Ev.ite_neg e1 (Ev.ite_pos e2 (Ev.bind hx (Ev.bind hy ?_))))
    dsimp only
    exact Ev.ite_pos x0 (Ev.ite_pos x2 (Ev.now _))
   ·omega
   ·omega
  ·have w1:wrap64 ((U.length:Int) - 1)=(U.length:Int) - 1:=wrap_pos (by omega) (by omega)
   have rl:=S.row _ (rdL_mem (xs:=U) (i:=(U.length:Int) - 1) (by omega) (by omega))
   refine⟨U.set ((U.length:Int) - 1).toNat ((rd_L3 U ((U.length:Int) - 1)).set (0:Int).toNat 1),N,p1+1,Ev.succ ?_,?_,?_⟩
   ·simp only [spec_l20Logic.j5]
    refine Ev.bind ho ?_
    dsimp only
    refine Ev.ite_pos rfl (Ev.bind hv ?_)
    dsimp only
    refine Ev.ite_neg e0 (Ev.ite_neg e1 (Ev.ite_neg e2 ?_))
    simp only [w1]
    exact Ev.ite_pos (by omega) (Ev.ite_pos (by omega) (Ev.ite_pos (by omega) (Ev.now _)))
   ·omega
   ·omega
theorem lg_l1 {U : List (List Int)} {N : List Int} {m i : Nat} (him : i < m) (hm : m ≤ 100) (n q v : Int) (v0 : 0 ≤ v) : ∀ (d : Nat) (o : List Int) (j : Int), j = v + d → j ≤ i → o.length = i + 1 → (∀ x ∈ o, 0 ≤ x ∧ x < (m : Int)) →
 ∃o':List Int,o'.length=i+1∧(∀x ∈ o',0≤x∧x<(m:Int))∧ ∀R,Ev (fun k=>spec_l20Logic.l1 k n o' (i:Int) v v b q U N) R→Ev (fun k=>spec_l20Logic.l1 k n o (i:Int) v j b q U N) R:=by
 intro d
 induction d with
 |zero=>
  intro o j hj _ hlen hr
  obtain rfl:j=v:=by omega
  exact⟨o,hlen,hr,fun R h=>h⟩
 |succ d ih=>
  intro o j hj hji hlen hr
  have w1:wrap64 (j - 1)=j - 1:=wrap_pos (by omega) (by omega)
  have hr1:=hr _ (rd_mem (xs:=o) (i:=j - 1) (by omega) (by omega))
  obtain⟨o',k1,k2,k3⟩:=ih (o.set j.toNat (rd o (j - 1))) (j - 1) (by omega) (by omega) (by rw [List.length_set];exact hlen) (fun x hx=>by
   rcases List.mem_or_eq_of_mem_set hx with hx|rfl
   ·exact hr x hx
   ·exact hr1)
  refine⟨o',k1,k2,fun R h=>Ev.succ ?_⟩
  simp only [spec_l20Logic.l1,w1]
  exact Ev.ite_pos (by omega) (Ev.ite_pos (by omega) (Ev.ite_pos (by omega) (Ev.ite_pos (by omega) (Ev.ite_pos (by omega) (k3 R h)))))
theorem lg_j2 {m : Nat} {U : List (List Int)} {N : List Int} (S : Sq m U N) {p : Int} (h0 : 0 ≤ p) (h1 : p ≤ 999999700) (n : Int) :
 ∃V M q,Ev (fun k=>spec_l20Logic.j2 k n b p U N) (V,M,q)∧p≤q∧q≤p+110:=by
 have hm:=S.pos
 have hm2:=S.small
 have hU:=S.len
 have hN:=S.lenN
 obtain⟨⟨o,p1⟩,⟨i1,i2,i3,i4⟩,ko⟩:=Ev.run (ρ:=List (List Int) × List Int × Int) (g:=fun k (s:List Int × Int) i=>spec_l20Logic.l0 k n s.1 i b s.2 U N) m (fun i s=>s.1.length=i∧(∀x ∈ s.1,0≤x∧x<(m:Int))∧p≤s.2∧s.2≤p+(i:Int)) (by omega) (fun i s hi hs=>by
  obtain⟨o,q⟩:=s
  obtain⟨j1,j2,j3,j4⟩:=hs
  have j1':o.length=i:=j1
  have j3':p≤q:=j3
  have j4':q≤p+(i:Int):=j4
  have w1:wrap64 ((i:Int)+1)=(i:Int)+1:=wrap_pos (by omega) (by omega)
  obtain⟨v,hv,v0,v1⟩:=pick_ev hb hl (p:=q) (by omega) (by omega) ((i:Int)+1)
  have v2:=v1 (by omega)
  obtain⟨o',k1,k2,k3⟩:=lg_l1 hb hl (U:=U) (N:=N) hi hm2 n (q+1) v v0 ((i:Int) - v).toNat (o ++ [(i:Int)]) (i:Int) (by omega) (by omega) (by rw [List.length_append,j1'];rfl) (fun x hx=>by
   rcases List.mem_append.1 hx with hx|hx
   ·exact j2 x hx
   ·rw [List.mem_singleton.1 hx];omega)
  refine⟨(o'.set v.toNat (i:Int),q+1),⟨by rw [List.length_set];exact k1,fun x hx=>?_,by show p≤q+1;omega,by show q+1≤p+((i+1:Nat):Int);omega⟩,fun R h=>Ev.succ ?_⟩
  ·rcases List.mem_or_eq_of_mem_set hx with hx|rfl
   ·exact k2 x hx
   ·omega
  ·rw [w1] at h
   simp only [spec_l20Logic.l0,w1]
   refine Ev.ite_pos (by omega) (Ev.bind hv ?_)
   dsimp only
   refine Ev.ite_pos (by omega) (k3 R (Ev.succ ?_))
   simp only [spec_l20Logic.l1,w1]
   exact Ev.ite_neg (by omega) (Ev.ite_pos (by omega) (Ev.ite_pos (by omega) h))) ([],p) ⟨rfl,(fun _ h=>by cases h),Int.le_refl _,by show p≤p+((0:Nat):Int);omega⟩
 have i1':o.length=m:=i1
 have i3':p≤p1:=i3
 have i4':p1≤p+(m:Int):=i4
 obtain⟨v,hv,v0,v1⟩:=pick_ev hb hl (p:=p1) (by omega) (by omega) 2
 have fin: ∀V M,Sh m V M→ ∃V' M' q,Ev (fun k=>spec_l20Logic.j5 k n b (p1+1) V M) (V',M',q)∧p≤q∧q≤p+110:=fun V M hS=>by
  obtain⟨V',M',q,h,k1,k2⟩:=lg_j5 hb hl hm hm2 hS (p:=p1+1) (by omega) (by omega) n
  exact⟨V',M',q,h,by omega,by omega⟩
 by_cases e:v=0
 ·obtain⟨V,M,hS,hR⟩:=rename_ev S i1' i2
  obtain⟨V',M',q,h,k1,k2⟩:=fin V M hS
  refine⟨V',M',q,Ev.succ ?_,k1,k2⟩
  simp only [spec_l20Logic.j2]
  refine ko _ (Ev.succ ?_)
  simp only [spec_l20Logic.l0]
  refine Ev.ite_neg (by omega) (Ev.bind hv ?_)
  dsimp only
  exact Ev.ite_pos e (Ev.bind hR h)
 ·obtain⟨V',M',q,h,k1,k2⟩:=fin U N S.sh
  refine⟨V',M',q,Ev.succ ?_,k1,k2⟩
  simp only [spec_l20Logic.j2]
  refine ko _ (Ev.succ ?_)
  simp only [spec_l20Logic.l0]
  refine Ev.ite_neg (by omega) (Ev.bind hv ?_)
  dsimp only
  exact Ev.ite_neg e h
theorem lg_j2' {r : List (List Int) × List Int} (S : sqB r = true) {p : Int} (h0 : 0 ≤ p) (h1 : p ≤ 999999700) (n : Int) :
 ∃V M q,Ev (fun k=>spec_l20Logic.j2 k n b p r.1 r.2) (V,M,q)∧p≤q∧q≤p+110:=lg_j2 hb hl (sq_of S) h0 h1 n
theorem logic_ev {p : Int} (h0 : 0 ≤ p) (h1 : p ≤ 999999600) (n : Int) : ∃ V M q, Ev (fun k => spec_l20Logic.f k b p n) (V, M, q) ∧ p ≤ q ∧ q ≤ p + 120 := by
 obtain⟨v,hv,v0,v1⟩:=pick_ev hb hl h0 (by omega) 9
 have v2:=v1 (by omega)
 have key: ∃V M q,Ev (fun k=>spec_l20Logic.j0 k n v (if v=0 then(v==0) else(v==1)) b (p+1)) (V,M,q)∧p≤q∧q≤p+120:=by
  have hj1: ¬(v=0)→ ¬(v=1)→(∃V M q,Ev (fun k=>spec_l20Logic.j1 k n v (if v=2 then(v==2) else(v==3)) b (p+1)) (V,M,q)∧p≤q∧q≤p+120)→ ∃V M q,Ev (fun k=>spec_l20Logic.j0 k n v (if v=0 then(v==0) else(v==1)) b (p+1)) (V,M,q)∧p≤q∧q≤p+120:=by
   rintro e0 e1 ⟨V,M,q,h,k⟩
   refine⟨V,M,q,Ev.succ ?_,k⟩
   simp only [spec_l20Logic.j0]
   rw [if_neg e0]
   refine Ev.ite_neg (by simpa using e1) ?_
   by_cases e2:v=2
   ·rw [if_pos e2] at h
    exact Ev.ite_pos e2 h
   ·rw [if_neg e2] at h
    exact Ev.ite_neg e2 h
  have hend: ∀r,sqB r=true→ ∃V M q,Ev (fun k=>spec_l20Logic.j2 k n b (p+1) r.1 r.2) (V,M,q)∧p≤q∧q≤p+120:=fun r hr=>by
   obtain⟨V,M,q,h,k1,k2⟩:=lg_j2' hb hl hr (p:=p+1) (by omega) (by omega) n
   exact⟨V,M,q,h,by omega,by omega⟩
  have B2:=(gB_ev (x:=2) (by omega) (by omega)).1
  have B3:=(gB_ev (x:=3) (by omega) (by omega)).1
  have hvs:(v=0∨v=1)∨(v=2∨v=3)∨v=4∨v=5∨v=6∨v=7∨v=8:=by omega
  rcases hvs with e|e|e|e|e|e|e
  ·obtain⟨x,hx,x0,x1⟩:=pick_ev hb hl (p:=p+1) (by omega) (by omega) 4
   obtain⟨g1,g2⟩:=gB_ev x0 (x1 (by omega))
   obtain⟨V,M,q,h,k1,k2⟩:=lg_j2' hb hl g2 (p:=p+1+1) (by omega) (by omega) n
   refine⟨V,M,q,Ev.succ ?_,by omega,by omega⟩
   simp only [spec_l20Logic.j0]
   refine Ev.ite_pos (by rcases e with rfl|rfl <;> rfl) (Ev.bind hx (Ev.bind g1 h))
  ·obtain⟨V,M,q,h,k⟩:=hend _ g22.2
   refine hj1 (by omega) (by omega) ⟨V,M,q,Ev.succ ?_,k⟩
   simp only [spec_l20Logic.j1]
   exact Ev.ite_pos (by rcases e with rfl|rfl <;> rfl) (Ev.bind B2 (Ev.bind B2 (Ev.bind g22.1 h)))
  ·obtain⟨V,M,q,h,k⟩:=hend _ g23.2
   subst e
   refine hj1 (by omega) (by omega) ⟨V,M,q,Ev.succ ?_,k⟩
   simp only [spec_l20Logic.j1]
   exact Ev.ite_neg (by simp) (Ev.ite_pos (by simp) (Ev.bind B2 (Ev.bind B3 (Ev.bind g23.1 h))))
  ·obtain⟨V,M,q,h,k⟩:=hend _ g222.2
   subst e
   refine hj1 (by omega) (by omega) ⟨V,M,q,Ev.succ ?_,k⟩
   simp only [spec_l20Logic.j1]
   exact Ev.ite_neg (by simp) (Ev.ite_neg (by simp) (Ev.ite_pos (by simp) (Ev.bind B2 (Ev.bind B2 (Ev.bind g22.1 (Ev.bind B2 (Ev.bind g222.1 h)))))))
  ·obtain⟨V,M,q,h,k⟩:=hend _ gS_ev.2
   subst e
   refine hj1 (by omega) (by omega) ⟨V,M,q,Ev.succ ?_,k⟩
   simp only [spec_l20Logic.j1]
   exact Ev.ite_neg (by simp) (Ev.ite_neg (by simp) (Ev.ite_neg (by simp) (Ev.ite_pos (by simp) (Ev.pbind gS_ev.1 h))))
  ·obtain⟨V,M,q,h,k⟩:=hend _ gS2.2
   subst e
   refine hj1 (by omega) (by omega) ⟨V,M,q,Ev.succ ?_,k⟩
   simp only [spec_l20Logic.j1]
   exact Ev.ite_neg (by simp) (Ev.ite_neg (by simp) (Ev.ite_neg (by simp) (Ev.ite_neg (by simp) (Ev.ite_pos (by simp) (Ev.pbind gS_ev.1 (Ev.bind B2 (Ev.bind gS2.1 h)))))))
  ·obtain⟨V,M,q,h,k⟩:=hend _ gP_ev.2
   subst e
   refine hj1 (by omega) (by omega) ⟨V,M,q,Ev.succ ?_,k⟩
   simp only [spec_l20Logic.j1]
   exact Ev.ite_neg (by simp) (Ev.ite_neg (by simp) (Ev.ite_neg (by simp) (Ev.ite_neg (by simp) (Ev.ite_neg (by simp) (Ev.bind gP_ev.1 h)))))
 obtain⟨V,M,q,h,k⟩:=key
 refine⟨V,M,q,?_,k⟩
 unfold spec_l20Logic.f
 refine Ev.bind hv ?_
 dsimp only
 by_cases e:v=0
 ·rw [if_pos e] at h
  exact Ev.ite_pos e h
 ·rw [if_neg e] at h
  exact Ev.ite_neg e h
end
end
section
section
variable {b : List Int} (hb : Bytes b) (hl : b.length ≤ 2000)
include hb hl
theorem two_ev {p : Int} (h0 : 0 ≤ p) (h1 : p ≤ 999999000) (n : Int) : ∃ V M x y q, Ev (fun k => spec_l20Two.f k b p n) (V, M, x, y, q) ∧ p ≤ q ∧ q ≤ p + 124 := by
 obtain⟨V,M,q,h,k1,k2⟩:=logic_ev hb hl h0 (by omega) n
 obtain⟨v1,e1,_,_⟩:=pick_ev hb hl (p:=q) (by omega) (by omega) (mx (M.length:Int) 1)
 obtain⟨v2,e2,_,_⟩:=pick_ev hb hl (p:=q+1) (by omega) (by omega) 40
 obtain⟨v3,e3,_,_⟩:=pick_ev hb hl (p:=q+1+1) (by omega) (by omega) (mx (M.length:Int) 1)
 obtain⟨v4,e4,_,_⟩:=pick_ev hb hl (p:=q+1+1+1) (by omega) (by omega) 40
 exact⟨_,_,_,_,q+1+1+1+1,Ev.bind h (Ev.bind e1 (Ev.bind e2 (Ev.bind e3 (Ev.bind e4 (Ev.now _))))),by omega,by omega⟩
end
end
theorem three_ev' {b : List Int} (hb : Bytes b) (hl : b.length ≤ 2000) {p : Int} (h0 : 0 ≤ p) (h1 : p ≤ 999998000) (n : Int) : ∃ V M x y z q, Ev (fun k => spec_l20Three.f k b p n) (V, M, x, y, z, q) ∧ p ≤ q ∧ q ≤ p + 125 := by
 obtain⟨V,M,x,y,q,h,k1,k2⟩:=two_ev hb hl h0 (by omega) n
 obtain⟨v,e,_,_⟩:=pick_ev hb hl (p:=q) (by omega) (by omega) (mx (M.length:Int) 1)
 exact⟨V,M,x,y,v,q+1,Ev.bind h (Ev.bind e (Ev.now _)),by omega,by omega⟩
theorem alive_ok : Ev (fun k => laws_alive.f k) true := by
 unfold laws_alive.f
 refine Ev.bind (impl_OrderOk.ev _) ?_
 rw [show orderB [[1]]=true by decide]
 refine Ev.ite_pos rfl (Ev.bind (impl_OrderOk.ev _) ?_)
 rw [show orderB [[0]]=false by decide]
 exact Ev.now _
theorem inR_one {U : List (List Int)} (x : Fin U.length) : [((x.1 : Nat) : Int)].all (inR U.length) = true := by
 simp only [List.all_cons, List.all_nil, Bool.and_true, inR_iff]; exact in_fin x
end Go.Proofs.YtbomiegcbimgoaaGreat.Print
end
