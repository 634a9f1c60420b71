/- Part 4 of what is common to several claims of this seat: DualL. -/
import Derived.Test.YtipjnmbkobofbaaLA3
import Derived.Below
import Derived.Deep.Draws
import Derived.Deep.AppendLies
import Derived.Maps.AppendAt
import Derived.OwnWalk
import Derived.Laws.BytesArg
import Derived.Laws.MakeOwn
import Derived.Laws.OwnMore
import Derived.Deep.OwnRows
import Derived.Tactics
import Derived.Lib.ConvBytes
import Derived.Laws.Slices
import Derived.WalkKit
import Derived.KernelRfl
import Derived.RowKit3
import Derived.Deep.LoopGhost
import Derived.Deep.QuietTactic
import Derived.BigQuiet
import Derived.WideLaws
import Derived.Deep.DeepCutAuto
import Derived.Deep.CutBlock
import Derived.Deep.RegionHeld3
import Derived.Laws.Rows
import Derived.Lib.AppendStr
import Derived.ArgAppend
import Derived.Laws.IdiomCopy
import Derived.RowKit
import Derived.OrdersHeld
import Derived.Laws.BitsLemmas
import Derived.Test.YtipjnmbkobofbaaProg
import Derived.Tactics2
import Derived.Defers
import Derived.Laws.Pointers
import Derived.Laws.LoneSync
import Derived.RegionTactic
import Derived.RegionCalls
import Derived.ChangeAlike
import Derived.Lib.LazyBuf
set_option linter.all false
section
namespace Go.Proofs.Ytipjnmbkobofbaa.Print
open Go.RowKit Go.Proofs.YtipjnmbkobofbaaW.PrintWords Go.Proofs.YtipjnmbkobofbaaW.PrintLast Go.Proofs.YtipjnmbkobofbaaW.PrintMore
def dI (x : Int) : Int := if x = 38 then 124 else if x = 124 then 38 else if x = 48 then 49 else if x = 49 then 48 else x
def dualS (s : ByteArray) : ByteArray := strOfNums ((bytesOf s).map dI)
theorem dT_dI {x : Int} (h0 : 0 ≤ x) : dT 4 x.toNat = dI x := by
 unfold dT dI
 rcases Int.eq_ofNat_of_zero_le h0 with ⟨n, rfl⟩
 rw [Int.toNat_natCast]
 (repeat' split) <;> omega
theorem fr_cell {w : World} {q : Nat} {t : TypeId} {fr : Nat × Nat} {cur : Array Value} (h : w.heap[q]? = some (.cells cur t fr)) (i : Nat) : w.cell? ⟨q, i, none⟩ = cur[i]? := cell_of_row w q i cur t fr h
theorem fr_frozen {w : World} {q : Nat} {t : TypeId} {lo hi : Nat} {cur : Array Value} (h : w.heap[q]? = some (.cells cur t (lo, hi))) {i : Nat} (hl : i < lo) : w.frozen? ⟨q, i, none⟩ = false := by
 simp [World.frozen?,h]
 omega
theorem fr_set {w : World} {q : Nat} {t : TypeId} {fr : Nat × Nat} {cur : Array Value} (h : w.heap[q]? = some (.cells cur t fr)) (i : Nat) (u : Value) : (w.setCell ⟨q, i, none⟩ u).heap[q]? = some (.cells (cur.setIfInBounds i u) t fr) := by
 simp [World.setCell,Array.getElem?_modify,h]
theorem row_string {w : World} {q n c sz : Nat} {cur : Array Value} {xs : List Int} {P : Program} {src dst e : TypeId} (hs : P.underlying src = some (.slice e)) (he : P.underlying e = some (.int .u8)) (hd : P.underlying dst = some .string) (hb : w.heap[q]? = some (.cells cur e (sz, sz + 1))) (hl : xs.length = n) (hn : n ≤ 9223372036854775807) (hx : ∀ j (hj : j < xs.length), cur[j]? = some (.int .u8 xs[j])) :
 (convert src dst (.slice (some ⟨q,0,none⟩) n c)).run P w= .ok (.string (strOfNums xs)) w:=by
 refine Kd.C_string hs he hd ⟨hl,hn,fun _=>⟨_,rfl,fun j p hp=>?_⟩⟩
 obtain⟨hj,rfl⟩:=List.getElem?_eq_some_iff.1 hp
 refine⟨[.int .u8 xs[j]],rfl,rfl,fun i u hu=>?_⟩
 cases i with
 |zero=>
  have:u= .int .u8 xs[j]:=by simpa using hu.symm
  subst this
  rw [add0,fr_cell hb]
  exact(congrArg (fun k=>cur[k]?) (Nat.mul_one j)).trans (hx j hj)
 |succ i=>simp at hu
theorem row_step {cur : Array Value} {s : ByteArray} {i sz : Nat} (hi : i < s.size) (hs : cur.size = sz) (hz : s.size ≤ sz) (h : ∀ j, j < s.size → cur[j]? = some (.int .u8 (if j < i then dI (bt s j) else bt s j))) :
 ∀j,j<s.size→(cur.setIfInBounds i (.int .u8 (dI (bt s i))))[j]? =some (.int .u8 (if j<i+1 then dI (bt s j) else bt s j)):=fun j hj=>by
 rw [Array.getElem?_setIfInBounds]
 by_cases e:i=j
 ·subst e
  rw [if_pos rfl,if_pos (by omega),if_pos (by omega)]
 ·rw [if_neg e,h j hj]
  by_cases hl:j<i
  ·rw [if_pos hl,if_pos (by omega)]
  ·rw [if_neg hl,if_neg (by omega)]
theorem row_skip {cur : Array Value} {s : ByteArray} {i : Nat} (hd : dI (bt s i) = bt s i) (h : ∀ j, j < s.size → cur[j]? = some (.int .u8 (if j < i then dI (bt s j) else bt s j))) :
 ∀j,j<s.size→cur[j]? =some (.int .u8 (if j<i+1 then dI (bt s j) else bt s j)):=fun j hj=>by
 rw [h j hj]
 by_cases e:j=i
 ·subst e
  rw [if_neg (by omega),if_pos (by omega),hd]
 ·by_cases hl:j<i
  ·rw [if_pos hl,if_pos (by omega)]
  ·rw [if_neg hl,if_neg (by omega)]
theorem bytes_get {s : ByteArray} {j : Nat} (hj : j < s.size) {h : j < (bytesOf s).length} : bt s j = (bytesOf s)[j] := by
 have e:=rd_bytesOf s (j:Int)
 rw [← e]
 unfold rd
 rw [Int.toNat_natCast,List.getD_eq_getElem?_getD,List.getElem?_eq_getElem h]
 rfl
theorem str_bytes (s : ByteArray) : strOfNums (bytesOf s) = s := by
 apply ByteArray.ext
 apply Array.ext'
 show (strOfNums (bytesOf s)).data.toList=s.data.toList
 rw [strOfNums_data,bytesOf,List.map_map]
 simp [Function.comp_def]
theorem dual_same {s : ByteArray} (h : ∀ j : Nat, j < s.size → dI (bt s j) = bt s j) : s = dualS s := by
 have e:(bytesOf s).map dI=bytesOf s:=by
  refine List.ext_getElem (by simp) fun j h1 h2=>?_
  rw [List.getElem_map]
  have hj:j<s.size:=by rwa [bytesOf_length] at h2
  rw [← bytes_get hj]
  exact h j hj
 unfold dualS
 rw [e,str_bytes]
set_option maxHeartbeats 8000000 in
set_option maxRecDepth 100000 in
theorem rep_calls (b : Nat) (s : ByteArray) (w : World) (tab : Array Value) (hsz : s.size ≤ 9223372036854775807 - 1) (hb : w.heap[b]? = some (.cells tab 64 (0, 0))) (h2 : ∀ j, j < 256 → tab[j]? = some (.int .u8 (dT 4 j))) :
 Calls Try.prog 77 #[.pointer (some ⟨b,0,none⟩),.string s] w fun e w'=>e= .returned (.string (dualS s))∧Below w.heap.size w w':=by
 have HT:=zqm hb
 have HV:=zqm h2
 have HZ:=zqm hsz
 clear hb h2 hsz
 have en: ∀w:World,(binOp .eql 66 (.slice none 0 0) (.slice none 0 0)).run Try.prog w= .ok (.bool true) w:=fun w=>run_eql_slice_nil w _ _ none 0 0 Try.underlying66
 have es: ∀(w:World) (q n c:Nat),(binOp .eql 66 (.slice (some ⟨q,0,none⟩) n c) (.slice none 0 0)).run Try.prog w= .ok (.bool false) w:=fun w q n c=>run_eql_slice_nil w _ _ (some ⟨q,0,none⟩) n c Try.underlying66
 go_enter Try.func77,Try.ntmps77
 go_wp2_with fail
 go_loopg [5,6] (s.size+1) (fun kq v5 v6 W=> ∃i:Nat,v6= .int .i64 (i:Int)∧Aside0 (s.size<i+kq)∧Aside0 (i≤s.size)∧Aside0 (Below w.heap.size w W)∧Aside0 ((v5= .slice none 0 0∧ ∀j,j<i→dI (bt s j)=bt s j)∨ ∃(q c:Nat),v5= .slice (some ⟨q,0,none⟩) s.size c∧(∃cur sz,w.heap.size≤q∧W.heap[q]? =some (.cells cur 5 (sz,sz+1))∧cur.size=sz∧s.size≤sz∧ ∀j,j<s.size→cur[j]? =some (.int .u8 (if j<i then dI (bt s j) else bt s j)))))
 case atStart=>exact⟨0,rfl,⟨by omega⟩,⟨by omega⟩,⟨zq6⟩,⟨.inl ⟨rfl,fun j hj=>absurd hj (by omega)⟩⟩⟩
 case round=>
  obtain⟨i,rfl,HF,HI,HB,⟨hor⟩⟩:=hrel
  cases gk with
  |zero=>exact absurd HF.out (by have:=HI.out;omega)
  |succ kn=>
  have HTW:=zqm (blk_below HT.out HB.out)
  by_cases hlt:i<s.size
  ·have p1:(i<s.size)=True:=eq_true hlt
   have p1':decide (i<s.size)=true:=decide_eq_true hlt
   have p2:((i:Int)<(s.size:Int))=True:=eq_true (by omega)
   have p2':decide ((i:Int)<(s.size:Int))=true:=decide_eq_true (by omega)
   obtain⟨x,hx⟩: ∃x,x=bt s i:=⟨_,rfl⟩
   have hr:=bt_range s i
   rw [← hx] at hr
   have hbt: ∀h:i<s.size,((s[i]'h).toNat:Int)=x:=fun h=>by rw [hx];exact bt_at s (i:Int) h
   have hc:wr.cell? ⟨b,x.toNat,none⟩=some (.int .u8 (dT 4 x.toNat)):=(blk_cell HTW.out x.toNat).trans (HV.out _ (by omega))
   rw [dT_dI hr.1] at hc
   have hx0:(0≤x)=True:=eq_true hr.1
   have hx1:(x<256)=True:=eq_true (by omega)
   have hx1':(x.toNat<256)=True:=eq_true (by omega)
   obtain⟨y,hy⟩: ∃y,y=dI x:=⟨_,rfl⟩
   rw [← hy] at hc
   have HLT:=zqm hlt
   have HXE:=zqm hx
   have HYE:=zqm hy
   have HR:=zqm hr
   clear hlt hx hr hy
   have HRND:=zqm (show IntKind.i64.wrap ((i:Int)+1)=((i+1:Nat):Int) by have:=HZ.out;have:=HLT.out;simp only [i64_w];unfold wrap64;omega)
   have HRNE:=zqm (show wrap64 ((i:Int)+1)=((i+1:Nat):Int) by have:=HZ.out;have:=HLT.out;unfold wrap64;omega)
   by_cases hd:y=x
   ·have e1:(y !=x)=false:=by simp [hd]
    have e2:(y=x)=True:=eq_true hd
    have HD:=zqm (show dI (bt s i)=bt s i by rw [← HXE.out,← HYE.out];exact hd)
    clear hd
    rcases hor with ⟨rfl,hno⟩|⟨q,c,rfl,cur,sz,hq,hcur,hs,hz,hrow⟩
    ·have HNO:=zqm hno
     clear hno
     go_wp2_with fail
     go_roundg kn
     case measure=>omega
     case rel=>exact⟨i+1,congrArg (Value.int .i64) zq8,⟨by have:=HF.out;omega⟩,⟨HLT.out⟩,⟨zq3⟩,⟨.inl ⟨rfl,fun j hj=>by
      rcases Nat.lt_or_ge j i with h|h
      ·exact HNO.out j h
      ·obtain rfl:j=i:=by omega
       exact HD.out⟩⟩⟩
    ·have HQ:=zqm (show (∃cur sz,w.heap.size≤q∧wr.heap[q]? =some (.cells cur 5 (sz,sz+1))∧cur.size=sz∧s.size≤sz∧ ∀j,j<s.size→cur[j]? =some (.int .u8 (if j<i+1 then dI (bt s j) else bt s j))) from ⟨cur,sz,hq,hcur,hs,hz,row_skip HD.out hrow⟩)
     clear hq hcur hs hz hrow
     go_wp2_with fail
     go_roundg kn
     case measure=>omega
     case rel=>exact⟨i+1,congrArg (Value.int .i64) zq8,⟨by have:=HF.out;omega⟩,⟨HLT.out⟩,⟨zq3⟩,⟨.inr ⟨q,c,rfl,HQ.out⟩⟩⟩
   ·have e1:(y !=x)=true:=by simp [hd]
    have e2:(y=x)=False:=eq_false hd
    clear hd
    rcases hor with ⟨rfl,hno⟩|⟨q,c,rfl,cur,sz,hq,hcur,hs,hz,hrow⟩
    ·have HNO:=zqm hno
     clear hno
     have kb:=print_bytes (P:=Try.prog) 9 66 5 Try.underlying9 Try.underlying66 Try.underlying5 s wr
     have hsz:i<(Lib.bytesCells wr 5 s).size:=by have:=HLT.out;simp [Lib.bytesCells];have:s.data.size=s.size:=rfl;omega
     have hcB:(Lib.bytesWorld wr 5 s).cell? ⟨b,x.toNat,none⟩=some (.int .u8 y):=(Lib.bytesWorld_old wr 5 s ⟨b,x.toNat,none⟩ (blk_lt HTW.out)).trans hc
     have hcN:=Lib.bytesWorld_cell wr 5 s i HLT.out
     have hfN:=fr_frozen (Lib.bytesWorld_at_new wr 5 s) hsz
     have HBW:=zqm (bytes_below HB.out HB.out.size 5 s)
     clear hsz
     go_wp2_with fail
     (try go_wp2_with fail)
     go_roundg kn
     case measure=>omega
     case rel=>exact⟨i+1,congrArg (Value.int .i64) zq8,⟨by have:=HF.out;omega⟩,⟨HLT.out⟩,⟨below_set HBW.out HB.out.size⟩,⟨.inr ⟨wr.heap.size,_,rfl,_,_,HB.out.size,fr_set (Lib.bytesWorld_at_new wr 5 s) i _,by simp,by simp [Lib.bytesCells],by
      rw [HYE.out,HXE.out]
      refine row_step HLT.out rfl (by simp [Lib.bytesCells]) fun j hj=>?_
      have h1:=Lib.bytesWorld_cell wr 5 s j hj
      rw [fr_cell (Lib.bytesWorld_at_new wr 5 s) j] at h1
      rw [h1]
      refine congrArg (fun z=>some (Value.int .u8 z)) ?_
      have h2:(((s.data.toList.getD j 0).toNat:Nat):Int)=bt s j:=by
       have h3:=bytes_get hj (h:=by rw [bytesOf_length];exact hj)
       rw [h3]
       have h4:j<s.data.size:=hj
       simp [bytesOf,List.getD_eq_getElem?_getD,Array.getElem?_eq_getElem h4]
      rw [h2]
      by_cases hji:j<i
      ·rw [if_pos hji,HNO.out j hji]
      ·rw [if_neg hji]⟩⟩⟩
    ·have hne:q≠b:=by have:=blk_lt HT.out;omega
     have hcc:wr.cell? ⟨q,i,none⟩=some (.int .u8 (if i<i then dI (bt s i) else bt s i)):=(fr_cell hcur i).trans (hrow i HLT.out)
     have hff:=fr_frozen hcur (i:=i) (by have:=HLT.out;omega)
     have HNE:=zqm hne
     have HQ:=zqm hq
     have HU:=zqm hcur
     have HS:=zqm hs
     have HZZ:=zqm hz
     have HRW:=zqm hrow
     clear hq hcur hs hz hrow hne
     go_wp2_with fail
     (try go_wp2_with fail)
     go_roundg kn
     case measure=>omega
     case rel=>exact⟨i+1,congrArg (Value.int .i64) zq8,⟨by have:=HF.out;omega⟩,⟨HLT.out⟩,⟨below_set HB.out HQ.out⟩,⟨.inr ⟨q,c,rfl,_,sz,HQ.out,fr_set HU.out i _,by simp [HS.out],HZZ.out,by rw [HYE.out,HXE.out];exact row_step HLT.out HS.out HZZ.out HRW.out⟩⟩⟩
  ·have p1:(i<s.size)=False:=eq_false hlt
   have p1':decide (i<s.size)=false:=decide_eq_false hlt
   have p2:((i:Int)<(s.size:Int))=False:=eq_false (by omega)
   have p2':decide ((i:Int)<(s.size:Int))=false:=decide_eq_false (by omega)
   obtain rfl:i=s.size:=by have:=HI.out;omega
   clear hlt
   rcases hor with ⟨rfl,hno⟩|⟨q,c,rfl,cur,sz,hq,hcur,hs,hz,hrow⟩
   ·have HNO:=zqm (show s=dualS s from dual_same hno)
    clear hno
    go_wp2_with fail
    go_ret
    exact⟨by rw [← HNO.out];rfl,zq3⟩
   ·have hcv:=row_string (P:=Try.prog) (c:=c) Try.underlying66 Try.underlying5 Try.underlying9 hcur (xs:=(bytesOf s).map dI) (n:=s.size) (by rw [List.length_map,bytesOf_length]) (by have:=HZ.out;omega) (fun j hj=>by
     rw [List.length_map,bytesOf_length] at hj
     rw [hrow j hj,if_pos hj]
     refine congrArg (fun z=>some (Value.int .u8 z)) ?_
     rw [List.getElem_map]
     exact congrArg dI (bytes_get hj))
    clear hq hcur hs hz hrow
    go_wp2_with fail
    go_ret
    exact⟨rfl,zq3⟩
theorem slice_event {P : Program} {ops : Array Oper} {rest : List Oper} {o : Oper} {a : Act} {Q : Exit → Act → World → Prop} {W : World} (hgd : o.guard = none) {N : Tmp} (_hd : o.dst = some N) {cs : Array Value} {t : TypeId} {n : Nat}
 (hrun:(execOp a.eval o).run P W= .ok (.value (.slice (some ⟨W.heap.size,0,none⟩) n n)) (W.alloc (.cells cs t (0,0))))
 (h: ∀g,g=W.heap.size→ ∀w1,w1.heap[g]? =some (.cells cs t (0,0))→Below W.heap.size W w1→wpList P ops Q rest (a.put o.dst (.slice (some ⟨g,0,none⟩) n n)) w1):wpList P ops Q (o :: rest) a W:=
 Kd.event_run hgd hrun (h _ rfl _ (blk_new W _) (below_alloc (Below.refl _ _) _))
theorem lit_C {w : World} {q : Nat} (hb : w.heap[q]? = some (.cells #[.string ⟨#[38]⟩, .string ⟨#[124]⟩, .string ⟨#[124]⟩, .string ⟨#[38]⟩, .string ⟨#[48]⟩, .string ⟨#[49]⟩, .string ⟨#[49]⟩, .string ⟨#[48]⟩] 9 (0, 0))) : Kd.C Kd.string w (some ⟨q, 0, none⟩) 8 dualL := by
 refine⟨rfl,by omega,fun _=>⟨_,rfl,fun j p hp=>?_⟩⟩
 refine⟨[.string p],rfl,rfl,fun i u hu=>?_⟩
 cases i with
 |zero=>
  have:u= .string p:=by simpa using hu.symm
  subst this
  rw [add0,blk_cell hb]
  have hj:j<8:=(List.getElem?_eq_some_iff.1 hp).1
  have e:j*(Kd.string).sz+0=j:=Nat.mul_one j
  rw [e]
  have hj2:j=0∨j=1∨j=2∨j=3∨j=4∨j=5∨j=6∨j=7:=by omega
  rcases hj2 with rfl|rfl|rfl|rfl|rfl|rfl|rfl|rfl <;> (have:=Option.some.inj hp;subst this;rfl)
 |succ i=>simp at hu
set_option maxHeartbeats 4000000 in
set_option maxRecDepth 100000 in
theorem new_calls (h0 c0 : Nat) (w : World) (hC : Kd.C Kd.string w (some ⟨h0, 0, none⟩) 8 dualL) :
 Calls Try.prog 8 #[.slice (some ⟨h0,0,none⟩) 8 c0] w fun e w'=> ∃g h c,e= .returned (.pointer (some ⟨g,0,none⟩))∧w.heap.size≤g∧h≠g∧w'.heap[g]? =some (.cells #[.int .u32 0,.int .i32 0,.int .u32 0,.nilIface,.slice (some ⟨h,0,none⟩) 8 c] 45 (0,0))∧Kd.C Kd.string w' (some ⟨h,0,none⟩) 8 dualL∧Below w.heap.size w w':=by
 have HC:=zqm hC
 clear hC
 go_enter Try.func8,Try.ntmps8
 go_wp2_with (first|(refine Kd.R_append_row (h1:=fun _=>rfl) Value.string ByteArray.empty (w0:=w) w.heap.size rfl (.const (.slice none 0 0)) (.tmp 8) 29 9 (.string ⟨#[]⟩) 16 rfl Try.underlying29 zqk rfl (by decide) (.slice none 0 0) [] dualL (some ⟨h0,0,none⟩) 8 c0 (fun _=>True) rfl rfl (fun _ _=>trivial) (Kd.R_nil _ _ _ _ _) HC.out (Below.refl _ _) (Nat.le_refl _) (by decide) ?_;intro v1 w1 hv hb _ _;obtain⟨A1,c1,rfl⟩: ∃A c,v1= .slice A 8 c:=Kd.R_slice hv;obtain⟨hq,cap,hform,_⟩:=Kd.R_form hv (show 0<8 by decide);cases hform;have HC1:=zqm (show Kd.C Kd.string w1 (some ⟨hq,0,none⟩) 8 dualL from (Kd.R_reads' hv).2.2);have HB:=zqm hb;clear hv hb)|((with_reducible refine gate_dst (N:=11) rfl ?_);refine box_event ?hg (N:=11) ?hd (cs:= #[.int .u32 0,.int .i32 0,.int .u32 0,.nilIface,.slice (some ⟨hq,0,none⟩) 8 c1]) (t:=45) ?hr ?_;(case hd=>rfl);(case hg=>rfl);(case hr=>first|(go_simp;done)|(go_simp;rfl));intro g hg_ wb hbox hb;have HN:=zqm (show hq≠g from fun e=>by have:=Kd.C_lt HC1.out (by decide) (by decide);rw [hg_] at e;omega);have HGB:=zqm (show w.heap.size≤g from by rw [hg_];exact HB.out.size);have n0_:=zqm (below_step HB.out hb);have n1_:=zqm (Kd.C_below HC1.out hb);clear HB HC1;have HB:=n0_;have HC1:=n1_;have HX:=zqm hbox;clear n0_ n1_ hbox hb hg_))
 go_ret
 exact⟨g,hq,c1,rfl,HGB.out,HN.out,HX.out,HC1.out,HB.out⟩
set_option maxHeartbeats 4000000 in
set_option maxRecDepth 100000 in
theorem replace_calls (s : ByteArray) (g h c : Nat) (w0 w : World) (hsz : s.size ≤ 9223372036854775807 - 1) (hb : w.heap[g]? = some (.cells #[.int .u32 0, .int .i32 0, .int .u32 0, .nilIface, .slice (some ⟨h, 0, none⟩) 8 c] 45 (0, 0))) (H : Kd.C Kd.string w (some ⟨h, 0, none⟩) 8 dualL) (hB : Below w0.heap.size w0 w) (hg : w0.heap.size ≤ g) (hh : h ≠ g) :
 Calls Try.prog 9 #[.pointer (some ⟨g, 0, none⟩), .string s] w fun e w' => e = .returned (.string (dualS s)) ∧ Below w0.heap.size w0 w' := by
 have hm : ∀ (b : Nat) (w : World), (method 247 65 (.pointer (some ⟨b, 0, none⟩)) "Replace").run Try.prog w = .ok (77, .pointer (some ⟨b, 0, none⟩)) w := fun _ _ => by kernel_rfl
 have hmf : ∀ (fn : Fn) (first cap : Array Value) (w : World), (Instr.makeFunc fn first cap).run Try.prog w = .ok (.func fn first cap) w := fun _ _ _ _ => rfl
 have HX := Aside0.mk hb
 have HC := Aside0.mk H
 have HB := Aside0.mk hB
 have HG := Aside0.mk hg
 have HH := Aside0.mk hh
 have HZ := Aside0.mk hsz
 clear hb H hB hg hh hsz
 go_enter Try.func9, Try.ntmps9
 go_wp2_with (first | (go_at_call 12; refine (do_calls g h c w0 _ HX.out HC.out HB.out HG.out HH.out).mono ?_; rintro e w1 ⟨rfl, b, cur, hgb, hne, hx, hu, hs, hv, hb⟩; clear HX HC HB; have HU := Aside0.mk hu; have HV := Aside0.mk hv; have HB := Aside0.mk hb; have hx3 : w1.cell? ⟨g, 3, none⟩ = some (.iface 65 (.pointer (some ⟨b, 0, none⟩))) := (blk_cell hx 3).trans rfl; clear hgb hne hx hu hs hv hb) | (go_at_call 77; (with_reducible refine (rep_calls b s _ _ HZ.out HU.out HV.out).mono ?_); rintro e w2 ⟨rfl, hb⟩; have HB2 := Aside0.mk (below_step HB.out hb); clear hb))
 go_ret
 exact ⟨rfl, HB2.out⟩
def impl_DualOf.f (a0 : ByteArray) : Option (ByteArray) := if a0.size ≤ 9223372036854775806 then (impl_FormulaOk.f a0).bind fun t => if t = true then some (dualS a0) else some (⟨#[]⟩ : ByteArray) else none
set_option maxHeartbeats 4000000 in
set_option maxRecDepth 100000 in
theorem impl_DualOf.calls (a0 : ByteArray) (r : ByteArray) (w : World) (h : impl_DualOf.f a0 = some r) :
 Calls Try.prog 5 #[.string a0] w fun e w'=>e= .returned (.string r)∧Below w.heap.size w w':=by
 unfold impl_DualOf.f at h
 by_cases hz:a0.size≤9223372036854775806
 ·rw [if_pos hz] at h
  have HZ:=zqm (show a0.size≤9223372036854775807 - 1 by omega)
  obtain⟨t,ht,h⟩:=Option.bind_eq_some_iff.1 h
  have HT:=zqm ht
  clear ht hz
  cases t with
  |false=>
   obtain rfl:(⟨#[]⟩:ByteArray)=r:=by simpa using h
   clear h
   go_enter Try.func5,Try.ntmps5
   go_wp2_with (go_at_call 7;(with_reducible refine(impl_FormulaOk.calls a0 false _ HT.out).mono ?_);rintro e w1 ⟨rfl,hb⟩;have HB:=zqm hb;clear hb)
   go_ret
   exact⟨rfl,HB.out⟩
  |true=>
   obtain rfl:dualS a0=r:=by simpa using h
   clear h
   go_enter Try.func5,Try.ntmps5
   go_wp2_with (first|(go_at_call 7;(with_reducible refine(impl_FormulaOk.calls a0 true _ HT.out).mono ?_);rintro e w1 ⟨rfl,hb⟩;have HB:=zqm hb;clear hb)|((with_reducible refine gate_dst (N:=6) rfl ?_);refine slice_event ?hg (N:=6) ?hd (cs:= #[.string ⟨#[38]⟩,.string ⟨#[124]⟩,.string ⟨#[124]⟩,.string ⟨#[38]⟩,.string ⟨#[48]⟩,.string ⟨#[49]⟩,.string ⟨#[49]⟩,.string ⟨#[48]⟩]) (t:=9) (n:=8) ?hr ?_;(case hd=>rfl);(case hg=>rfl);(case hr=>first|(go_simp;done)|(go_simp;rfl));intro q hg_ wb hbox hb;have HC:=zqm (lit_C hbox);have n0_:=zqm (below_step HB.out hb);clear HB;have HB:=n0_;clear n0_ hbox hb hg_)|(go_at_call 8;(with_reducible refine(new_calls q 8 _ HC.out).mono ?_);rintro e w2 ⟨g,hq,c1,rfl,hg,hne,hx,hc,hb⟩;have HG:=zqm (show w.heap.size≤g from Nat.le_trans HB.out.size hg);have HN:=zqm hne;have HX:=zqm hx;have HC2:=zqm hc;have n0_:=zqm (below_step HB.out hb);clear HB HC;have HB:=n0_;clear n0_ hg hne hx hc hb)|(go_at_call 9;(with_reducible refine(replace_calls a0 g hq c1 w _ HZ.out HX.out HC2.out HB.out HG.out HN.out).mono ?_);rintro e w3 ⟨rfl,hb⟩;have HB3:=zqm hb;clear hb))
   go_ret
   exact⟨rfl,HB3.out⟩
 ·rw [if_neg hz] at h
  cases h
section
attribute [local go_sem] max2_int min2_int max_two min_two max_three min_three max_four min_four
def laws_FnExactDualOf.f (k : Nat) (a0 : ByteArray) : Option (Bool) := if (a0.size : Int) > 1048576 then (some true) else ((spec_DualOf.f k a0).bind fun t107 => ((impl_DualOf.f a0).bind fun t108 => (if t108.toList = t107.toList then (some true) else (some false))))
set_option maxHeartbeats 8000000 in
set_option maxRecDepth 100000 in
theorem laws_FnExactDualOf.calls (k : Nat) (a0 : ByteArray) (r : Bool) (w : World) (h : laws_FnExactDualOf.f k a0 = some r) :
  Calls Try.prog 3 #[.string a0] w fun e w' => e = .returned (.bool r) ∧ Below w.heap.size w w' := by
 have HB:=zqm (Below.refl w.heap.size w);have H:(if(a0.size:Int)>1048576 then(some true) else((spec_DualOf.f k a0).bind fun a1=>((impl_DualOf.f a0).bind fun a2=>(if a2.toList=a1.toList then(some true) else(some false)))))=some r:=h;clear h
 by_cases c2:(a0.size:Int)>1048576
 ·rw [if_pos c2] at H;have a5:decide (1048576<(a0.size:Int))=true:=decide_eq_true c2;have a6:decide (1048576<a0.size)=true:=decide_eq_true (by omega);clear c2;obtain rfl:=Option.some.inj H
  go_enter Try.func3,Try.ntmps3
  go_wp2
  go_ret
  exact⟨zq5,zq4⟩
 ·rw [if_neg c2] at H;have a5:decide (1048576<(a0.size:Int))=false:=decide_eq_false c2;have a6:decide (1048576<a0.size)=false:=decide_eq_false (by omega);clear c2;replace H:=Option.bind_eq_some_iff.mp H;obtain⟨a1,a3,H⟩:=H;(try dsimp only at H);have A3:=zqm a3;clear a3;replace H:=Option.bind_eq_some_iff.mp H;obtain⟨a2,a4,H⟩:=H;(try dsimp only at H);have A4:=zqm a4;clear a4
  by_cases c5:a2.toList=a1.toList
  ·rw [if_pos c5] at H;have a7:(a2.toList==a1.toList)=true:=beq_iff_eq.mpr c5;have a8:(a2.toList !=a1.toList)=false:=bne_eq_false_iff_eq.mpr c5;clear c5;obtain rfl:=Option.some.inj H
   go_enter Try.func3,Try.ntmps3
   go_wp2_with (first|((with_reducible refine gate_callee (f:=4) rfl ?_);refine goesL_ (some 9) rfl rfl Try.func4 zqk rfl #[.string a0] rfl zq0 ?_;(with_reducible refine(spec_DualOf.calls k a0 a1 _ A3.out).mono ?_);rintro e w' ⟨rfl,⟨nd,rfl⟩⟩;refine⟨_,rfl,?_⟩)|((with_reducible refine gate_callee (f:=5) rfl ?_);refine goesL_ (some 11) rfl rfl Try.func5 zqk rfl #[.string a0] rfl zq0 ?_;(with_reducible refine(impl_DualOf.calls a0 a2 _ A4.out).mono ?_);rintro e w6 ⟨rfl,hb⟩;refine⟨_,rfl,?_⟩;replace HB:=zqm (below_step zq4 hb);clear hb))
   go_ret
   exact⟨zq5,zq4⟩
  ·rw [if_neg c5] at H;have a7:(a2.toList==a1.toList)=false:=beq_eq_false_iff_ne.mpr c5;have a8:(a2.toList !=a1.toList)=true:=bne_iff_ne.mpr c5;obtain rfl:=Option.some.inj H
   go_enter Try.func3,Try.ntmps3
   go_wp2_with (first|((with_reducible refine gate_callee (f:=4) rfl ?_);refine goesL_ (some 9) rfl rfl Try.func4 zqk rfl #[.string a0] rfl zq0 ?_;(with_reducible refine(spec_DualOf.calls k a0 a1 _ A3.out).mono ?_);rintro e w' ⟨rfl,⟨nd,rfl⟩⟩;refine⟨_,rfl,?_⟩)|((with_reducible refine gate_callee (f:=5) rfl ?_);refine goesL_ (some 11) rfl rfl Try.func5 zqk rfl #[.string a0] rfl zq0 ?_;(with_reducible refine(impl_DualOf.calls a0 a2 _ A4.out).mono ?_);rintro e w7 ⟨rfl,hb⟩;refine⟨_,rfl,?_⟩;replace HB:=zqm (below_step zq4 hb);clear hb))
   go_ret
   exact⟨zq5,zq4⟩
def laws_FnExactDualOf.Pure : Prop := ∀ (a0 : ByteArray), a0.size ≤ 140737488351232 → ∃ k, laws_FnExactDualOf.f k a0 = some true
theorem laws_FnExactDualOf.walk (P : laws_FnExactDualOf.Pure) (a0 : ByteArray) (w : World) (w0 : a0.size ≤ 140737488351232) :
  Calls Try.prog 3 #[.string a0] w fun e w' => e = .returned (.bool true) ∧ Below w.heap.size w w' := by
 obtain ⟨k, h⟩ := P a0 w0
 refine (laws_FnExactDualOf.calls k a0 true w h).mono ?_
 rintro e w' ⟨rfl, hd⟩
 exact ⟨rfl, hd⟩
end
end Go.Proofs.Ytipjnmbkobofbaa.Print
end
section
namespace Go.Proofs.Ytipjnmbkobofbaa.Print
open Go.RowKit Go.Proofs.YtipjnmbkobofbaaW.PrintWords Go.Proofs.YtipjnmbkobofbaaW.PrintLast Go.Proofs.YtipjnmbkobofbaaW.PrintMore
open Oml
def sfx (s : ByteArray) (i : Nat) : ByteArray := s.extract i s.size
theorem sfx_size (s : ByteArray) (i : Nat) : (sfx s i).size = s.size - i := by unfold sfx; rw [ByteArray.size_extract]; omega
theorem sfx_zero (s : ByteArray) : sfx s 0 = s := by unfold sfx; exact ByteArray.extract_zero_size
theorem sfx_next (s : ByteArray) {i : Nat} (h : i < s.size) : (sfx s i).extract 1 (sfx s i).size = sfx s (i + 1) := by
 rw [sfx_size]
 unfold sfx
 rw [ByteArray.extract_extract]
 congr 1
 omega
theorem sfx_bt (s : ByteArray) {i : Nat} (h : i < s.size) : bt (sfx s i) 0 = bt s (i : Int) := by
 have h1:0<(sfx s i).size:=by rw [sfx_size];omega
 have e1:=bt_at (sfx s i) 0 h1
 have e2:=bt_at s (i:Int) (by rw [Int.toNat_natCast];exact h)
 rw [← e1,← e2]
 have e3:(sfx s i)[0]'h1=s[i]:=by
  have h3:0<(s.extract i s.size).size:=h1
  have h4:(s.extract i s.size)[0]'h3=s[i+0]:=ByteArray.getElem_extract h3
  exact h4
 have e4:(s[((i:Nat):Int).toNat]'(by rw [Int.toNat_natCast];exact h))=s[i]:=by congr 1
 rw [e4,← e3]
 rfl
theorem rdF_sfx (s : ByteArray) : ∀ (k i : Nat) (f : Fm) (r : ByteArray), i ≤ s.size → rdF k (sfx s i) = some (f, r) → ∃ j, i < j ∧ j ≤ s.size ∧ r = sfx s j
 |0,_,_,_,_,h=>by simp [rdF] at h
 |k+1,i,f,r,hi,h=>by
  have ih:=rdF_sfx s k
  simp only [rdF] at h
  split at h
  ·cases h
  ·rename_i h0
   rw [sfx_size] at h0
   have hlt:i<s.size:=by omega
   rw [sfx_next s hlt] at h
   split at h
   ·cases h;exact⟨i+1,by omega,by omega,rfl⟩
   ·split at h
    ·split at h
     ·cases h
     ·rename_i f1 r1 h1
      cases h
      obtain⟨j,a,b,c⟩:=ih (i+1) _ _ (by omega) h1
      exact⟨j,by omega,b,c⟩
    ·split at h
     ·split at h
      ·cases h
      ·rename_i f1 r1 h1
       obtain⟨j,a,b,rfl⟩:=ih (i+1) _ _ (by omega) h1
       split at h
       ·cases h
       ·rename_i h2
        rw [sfx_size] at h2
        rw [sfx_next s (by omega)] at h
        split at h
        ·split at h
         ·cases h
         ·rename_i g q h3
          obtain⟨m,a2,b2,rfl⟩:=ih (j+1) _ _ (by omega) h3
          split at h
          ·cases h
          ·rename_i h4
           rw [sfx_size] at h4
           rw [sfx_next s (by omega)] at h
           split at h
           ·cases h;exact⟨m+1,by omega,by omega,rfl⟩
           ·cases h
        ·cases h
     ·cases h
def endV (s : ByteArray) (o : Option (Fm × ByteArray)) : Int := match o with | none => -1 | some (_, r) => ((s.size - r.size : Nat) : Int)
theorem rdF_leaf {k : Nat} {s : ByteArray} {i : Nat} (h : i < s.size) (hl : isLeaf (bt s i)) : rdF (k + 1) (sfx s i) = some (.leaf (bt s i), sfx s (i + 1)) := by
 simp only [rdF]
 rw [if_neg (by rw [sfx_size];omega),sfx_bt s h,if_pos hl,sfx_next s h]
theorem rdF_neg {k : Nat} {s : ByteArray} {i : Nat} (h : i < s.size) (hc : bt s i = 33) : rdF (k + 1) (sfx s i) = (rdF k (sfx s (i + 1))).map fun fr => (.neg fr.1, fr.2) := by
 simp only [rdF]
 rw [if_neg (by rw [sfx_size];omega),sfx_bt s h,if_neg (by rw [hc];unfold isLeaf;omega),if_pos hc,sfx_next s h]
 cases rdF k (sfx s (i+1)) <;> rfl
theorem rdF_par {k : Nat} {s : ByteArray} {i : Nat} (h : i < s.size) (hc : bt s i = 40) : rdF (k + 1) (sfx s i) = (rdF k (sfx s (i + 1))).bind fun fr => if fr.2.size = 0 then none else if bt fr.2 0 = 38 ∨ bt fr.2 0 = 124 then (rdF k (fr.2.extract 1 fr.2.size)).bind fun gq => if gq.2.size = 0 then none else if bt gq.2 0 = 41 then some (.bin (bt fr.2 0) fr.1 gq.1, gq.2.extract 1 gq.2.size) else none else none := by
 simp only [rdF]
 rw [if_neg (by rw [sfx_size];omega),sfx_bt s h,if_neg (by rw [hc];unfold isLeaf;omega),if_neg (by rw [hc];omega),if_pos hc,sfx_next s h]
 rcases rdF k (sfx s (i+1)) with _|⟨f,r⟩
 ·rfl
 simp only [Option.bind_some]
 split
 ·rfl
 split
 ·rcases rdF k (r.extract 1 r.size) with _|⟨g,q⟩ <;> rfl
 ·rfl
theorem rdF_other {k : Nat} {s : ByteArray} {i : Nat} (h : i < s.size) (hl : ¬ isLeaf (bt s i)) (h1 : ¬ bt s i = 33) (h2 : ¬ bt s i = 40) : rdF (k + 1) (sfx s i) = none := by
 simp only [rdF]
 rw [if_neg (by rw [sfx_size];omega),sfx_bt s h,if_neg hl,if_neg h1,if_neg h2]
theorem rdF_end {k : Nat} {s : ByteArray} {i : Nat} (h : s.size ≤ i) : rdF k (sfx s i) = none := by
 cases k with
 | zero => rfl
 | succ k => simp only [rdF]; rw [if_pos (by rw [sfx_size]; omega)]
theorem l10End_j1 (s : ByteArray) (hs : s.size ≤ 1000000) (j : Nat) (V : Int) (hj : j < s.size) (hev : Ev (fun m => spec_l10End.f m s ((j + 1 : Nat) : Int)) V) (hV : V = -1 ∨ ∃ m : Nat, V = (m : Int)) :
 Ev (fun m=>spec_l10End.j1 m s (j:Int) false) (if 0≤V∧V<(s.size:Int)∧bt s V=41 then V+1 else -1):=by
 refine Ev.succ ?_
 simp only [spec_l10End.j1,wrap_nat (show j<4611686018427387904 by omega)]
 repeat(with_reducible first|refine Ev.ip ?_|refine Ev.iq ?_)
 refine Ev.bind hev ?_
 rcases hV with rfl|⟨m,rfl⟩
 ·repeat(with_reducible first|refine Ev.ip ?_|refine Ev.iq ?_)
  exact Ev.now _
 ·by_cases h1:m<s.size
  ·by_cases h2:bt s (m:Int)=41
   ·repeat(with_reducible first|refine Ev.ip ?_|refine Ev.iq ?_)
    rw [if_pos ⟨by omega,by omega,h2⟩,wrap_nat (show m<4611686018427387904 by omega)]
    exact Ev.now _
   ·repeat(with_reducible first|refine Ev.ip ?_|refine Ev.iq ?_)
    rw [if_neg (fun h=>h2 h.2.2)]
    exact Ev.now _
  ·repeat(with_reducible first|refine Ev.ip ?_|refine Ev.iq ?_)
   rw [if_neg (fun h=>h1 (by omega))]
   exact Ev.now _
theorem l10End_ev (s : ByteArray) (hs : s.size ≤ 1000000) : ∀ k i, i ≤ s.size → s.size - i ≤ k → Ev (fun m => spec_l10End.f m s (i : Int)) (endV s (rdF k (sfx s i))) := by
 intro k
 induction k with
 |zero=>
  intro i hi hk
  rw [rdF_end (by omega)]
  refine Ev.succ ?_
  simp only [spec_l10End.f]
  repeat(with_reducible first|refine Ev.ip ?_|refine Ev.iq ?_)
  exact Ev.now _
 |succ k ih=>
  intro i hi hk
  by_cases hlt:i<s.size
  ·have hw:wrap64 ((i:Int)+1)=((i+1:Nat):Int):=wrap_nat (by omega)
   by_cases hl:isLeaf (bt s i)
   ·rw [rdF_leaf hlt hl]
    have hv:endV s (some (Fm.leaf (bt s i),sfx s (i+1)))=((i+1:Nat):Int):=by
     show ((s.size - (sfx s (i+1)).size:Nat):Int)=_
     rw [sfx_size];omega
    rw [hv]
    have J: ∀c,Ev (fun m=>spec_l10End.j0 m s (i:Int) c true) ((i+1:Nat):Int):=by
     intro c
     refine Ev.succ ?_
     simp only [spec_l10End.j0,hw]
     repeat(with_reducible first|refine Ev.ip ?_|refine Ev.iq ?_)
     exact Ev.now _
    refine Ev.succ ?_
    simp only [spec_l10End.f]
    repeat(with_reducible first|refine Ev.ip ?_|refine Ev.iq ?_)
    unfold isLeaf at hl
    by_cases h97:bt s (i:Int)=97
    ·repeat(with_reducible first|refine Ev.ip ?_|refine Ev.iq ?_)
     rw [show (bt s (i:Int)==97)=true by rw [h97];rfl];exact J _
    by_cases h98:bt s (i:Int)=98
    ·repeat(with_reducible first|refine Ev.ip ?_|refine Ev.iq ?_)
     rw [show (bt s (i:Int)==98)=true by rw [h98];rfl];exact J _
    by_cases h99:bt s (i:Int)=99
    ·repeat(with_reducible first|refine Ev.ip ?_|refine Ev.iq ?_)
     rw [show (bt s (i:Int)==99)=true by rw [h99];rfl];exact J _
    by_cases h48:bt s (i:Int)=48
    ·repeat(with_reducible first|refine Ev.ip ?_|refine Ev.iq ?_)
     rw [show (bt s (i:Int)==48)=true by rw [h48];rfl];exact J _
    have h49:bt s (i:Int)=49:=by omega
    repeat(with_reducible first|refine Ev.ip ?_|refine Ev.iq ?_)
    rw [show (bt s (i:Int)==49)=true by rw [h49];rfl];exact J _
   ·have go: ∀V,Ev (fun m=>spec_l10End.j0 m s (i:Int) (bt s (i:Int)) false) V→Ev (fun m=>spec_l10End.f m s (i:Int)) V:=by
     intro V hV
     refine Ev.succ ?_
     simp only [spec_l10End.f]
     unfold isLeaf at hl
     have h97: ¬bt s (i:Int)=97:=fun e=>hl (by omega)
     have h98: ¬bt s (i:Int)=98:=fun e=>hl (by omega)
     have h99: ¬bt s (i:Int)=99:=fun e=>hl (by omega)
     have h48: ¬bt s (i:Int)=48:=fun e=>hl (by omega)
     have h49:(bt s (i:Int)==49)=false:=beq_eq_false_iff_ne.2 fun e=>hl (by omega)
     repeat(with_reducible first|refine Ev.ip ?_|refine Ev.iq ?_)
     rw [h49]
     exact hV
    refine go _ (Ev.succ ?_)
    simp only [spec_l10End.j0,hw]
    have hI:=ih (i+1) (by omega) (by omega)
    by_cases h33:bt s (i:Int)=33
    ·rw [rdF_neg hlt h33]
     repeat(with_reducible first|refine Ev.ip ?_|refine Ev.iq ?_)
     refine Ev.bind hI ?_
     refine Ev.eq (Ev.now _) ?_
     cases rdF k (sfx s (i+1)) <;> rfl
    ·by_cases h40:bt s (i:Int)=40
     ·rw [rdF_par hlt h40]
      repeat(with_reducible first|refine Ev.ip ?_|refine Ev.iq ?_)
      refine Ev.bind hI ?_
      have hsx:=rdF_sfx s k (i+1)
      rcases hrd:rdF k (sfx s (i+1)) with _|⟨f,r⟩
      ·have e1:endV s none<0:=by show (-1:Int)<0;omega
       repeat(with_reducible first|refine Ev.ip ?_|refine Ev.iq ?_)
       refine Ev.succ ?_
       simp only [spec_l10End.j1]
       repeat(with_reducible first|refine Ev.ip ?_|refine Ev.iq ?_)
       exact Ev.now _
      ·obtain⟨j,ha,hb,rfl⟩:=hsx f r (by omega) hrd
       have e1:endV s (some (f,sfx s j))=(j:Int):=by
        show ((s.size - (sfx s j).size:Nat):Int)=_
        rw [sfx_size];omega
       rw [e1]
       simp only [Option.bind_some]
       by_cases hj:j<s.size
       ·rw [if_neg (by rw [sfx_size];omega),sfx_bt s hj,sfx_next s hj]
        repeat(with_reducible first|refine Ev.ip ?_|refine Ev.iq ?_)
        have hJ:=ih (j+1) (by omega) (by omega)
        have hsx2:=rdF_sfx s k (j+1)
        have hval:(∀ob:Option (Fm × ByteArray),rdF k (sfx s (j+1))=ob→Ev (fun m=>spec_l10End.j1 m s (j:Int) false) (endV s (ob.bind fun gq=>if gq.2.size=0 then none else if bt gq.2 0=41 then some (Fm.bin (bt s j) f gq.1,gq.2.extract 1 gq.2.size) else none))):=by
         intro ob hob
         rw [hob] at hJ hsx2
         cases ob with
         |none=>
          refine Ev.eq (l10End_j1 s hs j (endV s none) hj hJ (.inl rfl)) ?_
          rw [if_neg (fun h=>by have:(0:Int)≤ -1:=h.1;omega)];rfl
         |some gq=>
          obtain⟨g,q⟩:=gq
          obtain⟨m,hc,hd,rfl⟩:=hsx2 g q (by omega) rfl
          have e2:endV s (some (g,sfx s m))=(m:Int):=by
           show ((s.size - (sfx s m).size:Nat):Int)=_
           rw [sfx_size];omega
          rw [e2] at hJ
          refine Ev.eq (l10End_j1 s hs j (m:Int) hj hJ (.inr ⟨m,rfl⟩)) ?_
          simp only [Option.bind_some]
          by_cases hm:m<s.size
          ·rw [if_neg (show¬(sfx s m).size=0 by rw [sfx_size];omega),sfx_bt s hm,sfx_next s hm]
           by_cases h41:bt s (m:Int)=41
           ·rw [if_pos ⟨by omega,by omega,h41⟩,if_pos h41]
            show (m:Int)+1=((s.size - (sfx s (m+1)).size:Nat):Int)
            rw [sfx_size];omega
           ·rw [if_neg (fun h=>h41 h.2.2),if_neg h41];rfl
          ·rw [if_neg (fun h=>hm (by omega)),if_pos (by rw [sfx_size];omega)];rfl
        by_cases h38:bt s (j:Int)=38
        ·rw [if_pos (.inl h38)]
         repeat(with_reducible first|refine Ev.ip ?_|refine Ev.iq ?_)
         exact hval _ rfl
        ·by_cases h124:bt s (j:Int)=124
         ·rw [if_pos (.inr h124)]
          repeat(with_reducible first|refine Ev.ip ?_|refine Ev.iq ?_)
          rw [show (bt s (j:Int) !=124)=false by rw [h124];rfl]
          exact hval _ rfl
         ·rw [if_neg (fun h=>h.elim h38 h124)]
          repeat(with_reducible first|refine Ev.ip ?_|refine Ev.iq ?_)
          rw [show (bt s (j:Int) !=124)=true from bne_iff_ne.2 h124]
          refine Ev.succ ?_
          simp only [spec_l10End.j1]
          repeat(with_reducible first|refine Ev.ip ?_|refine Ev.iq ?_)
          exact Ev.now _
       ·rw [if_pos (by rw [sfx_size];omega)]
        repeat(with_reducible first|refine Ev.ip ?_|refine Ev.iq ?_)
        refine Ev.succ ?_
        simp only [spec_l10End.j1]
        repeat(with_reducible first|refine Ev.ip ?_|refine Ev.iq ?_)
        exact Ev.now _
     ·rw [rdF_other hlt hl h33 h40]
      repeat(with_reducible first|refine Ev.ip ?_|refine Ev.iq ?_)
      exact Ev.now _
  ·rw [rdF_end (by omega)]
   refine Ev.succ ?_
   simp only [spec_l10End.f]
   repeat(with_reducible first|refine Ev.ip ?_|refine Ev.iq ?_)
   exact Ev.now _
theorem spec_FormulaOk.ev (s : ByteArray) : Ev (fun k => spec_FormulaOk.f k s) (fmOf s).isSome := by
 unfold spec_FormulaOk.f fmOf
 by_cases h:60<s.size
 ·rw [if_pos h]
  repeat(with_reducible first|refine Ev.ip ?_|refine Ev.iq ?_)
  exact Ev.now _
 ·rw [if_neg h]
  by_cases h0:s.size=0
  ·have hr:rdF s.size s=none:=by rw [h0];rfl
   rw [hr]
   repeat(with_reducible first|refine Ev.ip ?_|refine Ev.iq ?_)
   exact Ev.now _
  ·repeat(with_reducible first|refine Ev.ip ?_|refine Ev.iq ?_)
   have hE:=l10End_ev s (by omega) s.size 0 (by omega) (by omega)
   have hsx:=rdF_sfx s s.size 0
   rw [sfx_zero] at hE hsx
   refine Ev.bind hE ?_
   rcases hrd:rdF s.size s with _|⟨f,r⟩
   ·refine Ev.eq (Ev.now _) ?_
    show ((-1:Int)==(s.size:Int))=false
    rw [beq_eq_false_iff_ne];omega
   ·obtain⟨j,ha,hb,rfl⟩:=hsx f r (by omega) hrd
    refine Ev.eq (Ev.now _) ?_
    show (((s.size - (sfx s j).size:Nat):Int)==(s.size:Int))=(if(sfx s j).size=0 then some f else none).isSome
    rw [sfx_size]
    by_cases hj:j=s.size
    ·rw [if_pos (by omega)]
     show _=true
     rw [beq_iff_eq];omega
    ·rw [if_neg (by omega)]
     show _=false
     rw [beq_eq_false_iff_ne];omega
end Go.Proofs.Ytipjnmbkobofbaa.Print
end
section
namespace Go.Proofs.Ytipjnmbkobofbaa.Print
open Go.RowKit Go.Proofs.YtipjnmbkobofbaaW.PrintWords Go.Proofs.YtipjnmbkobofbaaW.PrintLast Go.Proofs.YtipjnmbkobofbaaW.PrintMore
def dpre (s : ByteArray) (i : Nat) : ByteArray := strOfNums (((bytesOf s).map dI).take i)
theorem dpre_size {s : ByteArray} {i : Nat} (h : i ≤ s.size) : (dpre s i).size = i := by
 unfold dpre
 rw [strOfNums_size, List.length_take, List.length_map, bytesOf_length]
 omega
theorem dpre_succ {s : ByteArray} {i : Nat} (h : i < s.size) : dpre s (i + 1) = dpre s i ++ ⟨#[UInt8.ofNat (dI (bt s i)).toNat]⟩ := by
 apply ByteArray.ext
 apply Array.ext'
 have hl:i<((bytesOf s).map dI).length:=by rw [List.length_map,bytesOf_length];exact h
 have e1:(dpre s (i+1)).data.toList=(((bytesOf s).map dI).take (i+1)).map fun n=>UInt8.ofNat n.toNat:=strOfNums_data _
 have e2:(dpre s i).data.toList=(((bytesOf s).map dI).take i).map fun n=>UInt8.ofNat n.toNat:=strOfNums_data _
 rw [e1,ByteArray.data_append,Array.toList_append,e2,List.take_succ_eq_append_getElem hl,List.map_append,List.getElem_map,← bytes_get h]
 rfl
theorem byte_at {s : ByteArray} {i : Nat} (h : i < s.size) : s.extract i (i + 1) = ⟨#[UInt8.ofNat (bt s i).toNat]⟩ := by
 apply ByteArray.ext
 apply Array.ext'
 rw [ByteArray.data_extract,Array.toList_extract]
 have hl:i<s.data.toList.length:=by rw [data_length];exact h
 have e:bt s i=((s.data.toList[i]).toNat:Int):=by
  rw [bytes_get h (h:=by rw [bytesOf_length];exact h)]
  simp [bytesOf]
 rw [e]
 simp [List.drop_eq_getElem_cons hl]
theorem spec_DualOf.ev (s : ByteArray) : Ev (fun k => spec_DualOf.f k s) (if (fmOf s).isSome = true then dualS s else ⟨#[]⟩) := by
 unfold spec_DualOf.f
 refine Ev.bind (spec_FormulaOk.ev s) ?_
 cases hf:(fmOf s).isSome with
 |false=>exact Ev.ite_neg (by simp) (by rw [if_neg (by simp)];exact Ev.now _)
 |true=>
  have hs:s.size≤60:=by
   unfold fmOf at hf
   split at hf
   ·cases hf
   ·omega
  rw [if_pos rfl]
  refine Ev.ite_pos rfl ?_
  refine Ev.loop (g:=fun k st i=>spec_DualOf.l0 k s st i) s.size (fun i st=>st=dpre s i) (by omega) (fun st h=>?_) (fun i st hi h=>?_) ⟨#[]⟩ (by simp [dpre,strOfNums])
  ·subst h
   refine Ev.succ ?_
   simp only [spec_DualOf.l0]
   refine Ev.ite_neg (by omega) (Ev.eq (Ev.now _) ?_)
   unfold dpre dualS
   rw [List.take_of_length_le (by rw [List.length_map,bytesOf_length];omega)]
  ·subst h
   refine⟨_,(dpre_succ hi).symm,fun K=>Ev.succ ?_⟩
   have hz:=dpre_size (s:=s) (i:=i) (by omega)
   have hw:wrap64 ((i:Int)+1)=((i+1:Nat):Int):=by unfold wrap64;omega
   simp only [spec_DualOf.l0,hz]
   refine Ev.ite_pos (by omega) (Ev.ite_pos (by omega) ?_)
   by_cases c1:bt s i=38
   ·refine Ev.ite_pos c1 (Ev.ite_pos (by omega) ?_)
    rw [c1] at K
    exact K
   refine Ev.ite_neg c1 ?_
   by_cases c2:bt s i=124
   ·refine Ev.ite_pos c2 (Ev.ite_pos (by omega) ?_)
    rw [c2] at K
    exact K
   refine Ev.ite_neg c2 ?_
   by_cases c3:bt s i=48
   ·refine Ev.ite_pos c3 (Ev.ite_pos (by omega) ?_)
    rw [c3] at K
    exact K
   refine Ev.ite_neg c3 ?_
   by_cases c4:bt s i=49
   ·refine Ev.ite_pos c4 (Ev.ite_pos (by omega) ?_)
    rw [c4] at K
    exact K
   refine Ev.ite_neg c4 ?_
   have e:dI (bt s i)=bt s i:=by unfold dI;rw [if_neg c1,if_neg c2,if_neg c3,if_neg c4]
   rw [e,← byte_at hi] at K
   rw [hw] at K ⊢
   simp only [Int.toNat_natCast]
   exact Ev.ite_pos (by omega) (Ev.ite_pos (by omega) (Ev.ite_pos (by rw [ByteArray.size_extract];omega) K))
end Go.Proofs.Ytipjnmbkobofbaa.Print
end
section
namespace Go.Proofs.Ytipjnmbkobofbaa.Pure
open Go.RowKit Go.Proofs.Ytipjnmbkobofbaa.Print Go.Proofs.YtipjnmbkobofbaaW.PrintWords Go.Proofs.YtipjnmbkobofbaaW.PrintLast Go.Proofs.YtipjnmbkobofbaaW.PrintMore
theorem laws_FnExactDualOf.ev (s : ByteArray) : Ev (fun k => laws_FnExactDualOf.f k s) true := by
 unfold laws_FnExactDualOf.f
 by_cases h:(s.size:Int)>1048576
 ·exact Ev.ite_pos h (Ev.now _)
 ·refine Ev.ite_neg h (Ev.bind (spec_DualOf.ev s) (Ev.pbind (show impl_DualOf.f s=some (if(fmOf s).isSome=true then dualS s else⟨#[]⟩) from ?_) (Ev.ite_pos rfl (Ev.now _))))
  unfold impl_DualOf.f
  rw [if_pos (by omega)]
  show (if(fmOf s).isSome=true then some (dualS s) else some ⟨#[]⟩)=_
  cases (fmOf s).isSome <;> rfl
theorem FnExactDualOf : laws_FnExactDualOf.Pure := fun s _ => (laws_FnExactDualOf.ev s).rounds
end Go.Proofs.Ytipjnmbkobofbaa.Pure
end
