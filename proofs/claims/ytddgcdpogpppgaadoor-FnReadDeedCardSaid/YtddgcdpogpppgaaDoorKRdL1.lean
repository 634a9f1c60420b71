/- Part 1 of what this is proved by: Read texts are canonical. DeedText of the deed is the text; with a space behind it a text is refused. -/
import Derived.Test.YtddgcdpogpppgaaDoorLB9
import Derived.Below
import Derived.Deep.Draws
import Derived.Deep.AppendLies
import Derived.Maps.AppendAt
import Derived.OwnWalk
import Derived.Laws.BytesArg
import Derived.Laws.MakeOwn
import Derived.Laws.OwnMore
import Derived.Deep.OwnRows
import Derived.Tactics
import Derived.Lib.ConvBytes
import Derived.Laws.Slices
import Derived.WalkKit
import Derived.KernelRfl
import Derived.RowKit3
import Derived.Deep.LoopGhost
import Derived.Deep.QuietTactic
import Derived.BigQuiet
import Derived.WideLaws
import Derived.Deep.DeepCutAuto
import Derived.Deep.CutBlock
import Derived.Deep.RegionHeld3
import Derived.Laws.Rows
import Derived.Lib.AppendStr
import Derived.ArgAppend
import Derived.Laws.IdiomCopy
import Derived.RowKit
import Derived.Test.YtddgcdpogpppgaaDoorProg
import Derived.OrdersHeld
import Derived.Laws.BitsLemmas
import Derived.Lib.ItoaNum
import Derived.Lib.Strings
import Derived.Lib.SplitLaws
import Derived.Lib.SlicesS
import Derived.Lib.AtoiAll
import Derived.Lib.IndexBytes
set_option linter.all false
section
namespace Go.Proofs.YtddgcdpogpppgaaDoorW.PrintWords
open Go.RowKit
section
def bt (s : ByteArray) (i : Int) : Int := if h : i.toNat < s.size then ((s[i.toNat]'h).toNat : Int) else 0
theorem bt_at (s : ByteArray) (i : Int) : ∀ h : i.toNat < s.size, ((s[i.toNat]'h).toNat : Int) = bt s i := fun h => by simp [bt, h]
theorem ReadsRow.inner_ {α : Type} {R : α → List Value → Prop} {size : Nat} {w : World} {ad : Addr} {n : Nat} {ps : List α} (h : ReadsRow R size w (some ad) n ps) :
 ∃inner,Reps R size ps inner∧ ∀j u,inner[j]? =some u→w.cell? (ad.add j)=some u:=by
 have key : ∀ m, m ≤ ps.length → ∃ inner, Reps R size (ps.take m) inner ∧ ∀ j u, inner[j]? = some u → w.cell? (ad.add j) = some u := by
  intro m
  induction m with
  |zero=>exact fun _=>⟨[],Reps.none _ _,fun j u hu=>by simp at hu⟩
  | succ m ih =>
   intro hm
   obtain⟨inner,hr,hc⟩:=ih (by omega)
   obtain⟨ad',he,hcell⟩:=h.2.2 (by have:=h.1;omega)
   injection he with he
   subst he
   obtain⟨c,hcl,hp,hcc⟩:=hcell m _ (List.getElem?_eq_getElem (show m<ps.length by omega))
   refine⟨inner ++ c,?_,fun j u hu=>?_⟩
   ·rw [List.take_succ_eq_append_getElem (show m < ps.length by omega)]
    exact hr.snoc hp hcl
   ·have hil : inner.length = m * size := by rw [hr.1, List.length_take, Nat.min_eq_left (by omega)]
    rcases Nat.lt_or_ge j inner.length with hj|hj
    ·rw [List.getElem?_append_left hj] at hu
     exact hc j u hu
    ·rw [List.getElem?_append_right hj] at hu
     have:=hcc (j - inner.length) u hu
     rwa [hil,Nat.add_sub_cancel' (by omega)] at this
 obtain⟨inner,hr,hc⟩:=key ps.length (Nat.le_refl _)
 rw [List.take_length] at hr
 exact⟨inner,hr,hc⟩
namespace Kd
section
variable {α β : Type} {d : Kd α} {d' : Kd β} {e e' : Nat} {w w1 W : World} {base b b' : Nat} {ok ok' okv oku : Nat → Prop} {v u : Value} {xs : List α} {ys : List β}
theorem R_away (h : d.R e w base ok v xs) {g : Nat} (hok : ∀ k, ok k → k ≠ g) : some g ≠ v.ownBlock := fun e => hok g (h.1 g e.symm) rfl
end
section
variable {w W : World} {A : Option Addr} {n : Nat}
theorem at_string {xs : List ByteArray} (h : Kd.string.C w A n xs) (i : Int) (h0 : 0 ≤ i) (h1 : i < n) : ∃ ad, A = some ad ∧ w.cell? (ad.add i.toNat) = some (.string (rdOf ByteArray.empty xs i)) :=
 ReadsOf.at_ (reads_of_C (enc := Value.string) (d := ByteArray.empty) (h1 := fun _ => rfl) h) i h0 h1
variable {α : Type} {enc : α → Value} {h1 : ∀ x, (enc x).oneCell' = true} {e base g cap : Nat} {ok : Nat → Prop} {xs : List α}
end
end Kd
namespace Kd
theorem reps_append {α : Type} {R : α → List Value → Prop} {size : Nat} {ps qs : List α} {cs ds : List Value} (h : Reps R size ps cs) (h' : Reps R size qs ds) : Reps R size (ps ++ qs) (cs ++ ds) := by
 refine⟨by rw [List.length_append,List.length_append,h.1,h'.1,Nat.add_mul],fun j p hj=>?_⟩
 rcases Nat.lt_or_ge j ps.length with hlt|hge
 ·rw [List.getElem?_append_left hlt] at hj
  have hle:j*size+size≤cs.length:=by rw [h.1,← Nat.succ_mul];exact Nat.mul_le_mul_right _ hlt
  rw [List.drop_append_of_le_length (by omega),List.take_append_of_le_length (by rw [List.length_drop];omega)]
  exact h.2 j p hj
 ·rw [List.getElem?_append_right hge] at hj
  have h2:=h'.2 (j - ps.length) p hj
  have hle:ps.length*size≤j*size:=Nat.mul_le_mul_right _ hge
  rw [List.drop_append,List.drop_eq_nil_of_le (by rw [h.1];exact hle),List.nil_append,h.1,← Nat.sub_mul]
  exact h2
end Kd
namespace Kd
section
variable {α : Type} {d : Kd α} {e base g : Nat} {ok : Nat → Prop} {w w1 : World} {v : Value} {xs : List α} {o : Obj}
theorem R_newB (h : d.R e w1 w.heap.size ok v xs) (hb : w.heap[g]? = some o) : d.R e w1 w.heap.size (fun k => ok k ∧ k ≠ g) v xs := R_mono (R_bound h) (fun k hk => ⟨hk.1, by have := blk_lt hb; have := hk.2.1; omega⟩)
theorem freshB (hb : w.heap[g]? = some o) : ∀ k, w.heap.size ≤ k → k ≠ g := fun k hk => by have := blk_lt hb; omega
end
end Kd
section
variable {P : Program} {ops : Array Oper} {o : Oper} {a : Act} {Q : Exit → Act → World → Prop} {Kc : Act → World → Prop}
namespace Kd
variable {α : Type}
theorem R_append_rows_step (d : Kd α) {Rr : α → List Value → Prop} {w0 W : World} (base : Nat) (hw : Region.wanted o (yielded ops a.tmps) = true) (s x : Operand) (t e : TypeId) (z : Value) (bytes : Nat)
 (ho:o.op= .call { callee:= .builtin .append,args:= #[s,x],argTypes:= #[t,t] })
 (ht:P.underlying t=some (.slice e)) (hinfo:(P.info? e).map (fun i=>(i.zero,i.size,i.bytes))=some (some z,d.sz,bytes)) (hz:z.cells.size=d.sz) (hs0:0<d.sz) (hb0:0<bytes)
 (v:Value) (xs ys:List α) (A:Option Addr) (m c:Nat) (ok okp:Nat→Prop) (hs:a.eval s=v) (hx:a.eval x= .slice A m c)
 (HO:d.R e W base ok v xs) (HR:ReadsRow Rr d.sz W A m ys) (hKM: ∀x cs,Rr x cs→d.M W base okp x cs) (hokp: ∀k,okp k→ok k∧some k≠v.ownBlock) (hfresh: ∀k,W.heap.size≤k→ok k)
 (HB:Below base w0 W) (hbase:base≤W.heap.size) (hl:(xs.length+m)*bytes≤140737488355328)
 (h: ∀v1 w1,d.R e w1 base ok v1 (xs ++ ys)→Below base w0 w1→W.grownBy w1 v.ownBlock→(v1.ownBlock=v.ownBlock∨ ∃b,v1.ownBlock=some b∧W.heap.size≤b)→Kc (a.put o.dst v1) w1):
 if Region.wanted o (yielded ops a.tmps)=true then Oper.wp P o a W Kc Q else Kc (a.put o.dst undef) W:=by
 obtain⟨i0,hi,hzz⟩:=Option.map_eq_some_iff.1 hinfo
 simp only [Prod.mk.injEq] at hzz
 obtain⟨hz0,hz1,hz2⟩:=hzz
 have hm:ys.length=m:=HR.1
 have hlen:xs.length+m≤140737488355328:=Nat.le_trans (Nat.le_mul_of_pos_right _ hb0) hl
 obtain⟨hok,inner,hown,hr⟩:=HO
 have hrun : ∃ v1 w1, (Builtin.append_ #[t, t] o.type #[v, .slice A m c]).run P W = .ok v1 w1 ∧ d.R e w1 base ok v1 (xs ++ ys) ∧ W.grownBy w1 v.ownBlock ∧ (v1.ownBlock = v.ownBlock ∨ ∃ b, v1.ownBlock = some b ∧ W.heap.size ≤ b) := by
  rcases A with _|ad
  ·have h0 : m = 0 := by
    rcases Nat.eq_zero_or_pos m with h0|h0
    ·exact h0
    ·obtain ⟨ad, h, _⟩ := HR.2.2 h0
     cases h
   subst h0
   obtain rfl:ys= []:=List.eq_nil_of_length_eq_zero hm
   refine⟨v,W,?_,by rw [List.append_nil];exact⟨hok,inner,hown,hr⟩,World.grownBy.refl W _,.inl rfl⟩
   rcases hown.2 with ⟨rfl,hn⟩|⟨g,cap,cur,rfl,_,_,hnc,_⟩
   ·simp [Builtin.append_,run_underlying ht,sizeOf,typeInfo,hi,Builtin.lenOf,Builtin.firstCells]
   ·simp [Builtin.append_,run_underlying ht,sizeOf,typeInfo,hi,Builtin.lenOf,Builtin.firstCells,hnc,storeCells]
  ·obtain ⟨news, hnr, hnc⟩ := ReadsRow.inner_ HR
   have hnM:Reps (d.M W base okp) d.sz ys news:=hnr.imp_ (fun p c hp=>hKM p c hp)
   have hone : ∀ u ∈ news, u.oneCell' = true := by
    intro u hu
    obtain⟨q,hq,rfl⟩:=List.mem_iff_getElem.1 hu
    have hql : q / d.sz < ys.length := by
     rw [Nat.div_lt_iff_lt_mul hs0]
     rw [← hnM.1]
     exact hq
    have hc:=hnM.2 (q / d.sz) _ (List.getElem?_eq_getElem hql)
    refine d.K_one (d.K_of_M hc) _ ?_
    rw [List.mem_iff_getElem?]
    refine⟨q % d.sz,?_⟩
    rw [List.getElem?_take,if_pos (Nat.mod_lt _ hs0),List.getElem?_drop,Nat.mul_comm,Nat.div_add_mod,List.getElem?_eq_getElem hq]
   obtain⟨v1,w1,hrun,h2,hg,_,hat⟩:=run_append_own_at (P:=P) W base t o.type e i0 z d.sz bytes ht hi hz0 hz1 hz2 hz hs0 v xs.length inner hown ad m c news (by rw [hnM.1,hm]) hnc hone (by simp only [maxLen];omega) hl hbase
   have hat' : v1.ownBlock = v.ownBlock ∨ ∃ b, v1.ownBlock = some b ∧ W.heap.size ≤ b := by
    rcases hat with hat|hat
    ·exact .inl hat
    ·exact .inr ⟨_,hat,Nat.le_refl _⟩
   have hne : ∀ k, some k ≠ v.ownBlock → k < W.heap.size → some k ≠ v1.ownBlock := by
    intro k hk hlt
    rcases hat' with hat|⟨b,hb,hle⟩
    ·rw [hat];exact hk
    ·rw [hb]
     intro he
     injection he with he
     omega
   have step : ∀ {q : α} {c : List Value} {o : Nat → Prop}, d.M W base o q c → (∀ k, o k → ok k ∧ some k ≠ v.ownBlock) → d.M w1 base (fun k => ok k ∧ some k ≠ v1.ownBlock) q c := by
    intro q c o hq ho
    have h1:=d.M_move (w1:=w1) (fun k hk=>hg.block k hk.2.2.1 (ho k hk.1).2) (d.M_bound hq)
    exact d.M_mono (fun k hk=>⟨(ho k hk.1).1,hne k (ho k hk.1).2 hk.2.2.1⟩) h1
   refine⟨v1,w1,hrun,⟨fun k hk=>?_,inner ++ news,by rw [List.length_append,hm];exact h2,reps_append (hr.imp_ (fun _ _ hq=>step hq (fun _ hk=>hk))) (hnM.imp_ (fun _ _ hq=>step hq hokp))⟩,hg,hat'⟩
   rcases hat' with hat|⟨b,hb,hle⟩
   ·exact hok k (hat ▸ hk)
   ·rw [hb] at hk
    injection hk with hk
    exact hfresh k (by omega)
 obtain⟨v1,w1,hr1,h1,hg,hat⟩:=hrun
 rw [if_pos hw]
 unfold Oper.wp execOp
 simp only [ho,resolve,invoke,builtin,Sem.run_bind,Sem.run_pure,Result.andThen_ok,List.map_toArray,List.map_cons,List.map_nil,hs,hx,hr1]
 exact h v1 w1 h1 (HB.grown hg hbase (own_base hown)) hg hat
end Kd
end
end
end Go.Proofs.YtddgcdpogpppgaaDoorW.PrintWords
end
section
namespace Go.Proofs.YtddgcdpogpppgaaDoorW.PrintWords
theorem Reps.front {α : Type} {R : α → List Value → Prop} {size : Nat} {ps : List α} {cs c all : List Value} {p : α} (hp : R p c) (hc : c.length = size) (h : Reps R size ps cs) (ha : c ++ cs = all) : Reps R size (p :: ps) all := by
 subst ha
 refine⟨by rw [List.length_append,hc,h.1,List.length_cons,Nat.succ_mul,Nat.add_comm],fun j q hq=>?_⟩
 cases j with
 | zero =>
  simp only [List.getElem?_cons_zero,Option.some.injEq] at hq
  subst hq
  rw [Nat.zero_mul,List.drop_zero,List.take_append_of_le_length (by omega),List.take_of_length_le (by omega)]
  exact hp
 | succ j =>
  simp only [List.getElem?_cons_succ] at hq
  have h1:=h.2 j q hq
  rw [Nat.succ_mul,List.drop_append,List.drop_of_length_le (by rw [hc];exact Nat.le_add_left _ _),List.nil_append,hc,Nat.add_sub_cancel]
  exact h1
theorem Reps.c3 {α : Type} {R : α → List Value → Prop} {ps : List α} {cs : List Value} {p : α} {va vb vc : Value} (hp : R p [va, vb, vc]) (h : Reps R 3 ps cs) : Reps R 3 (p :: ps) (va :: vb :: vc :: cs) := Reps.front hp rfl h rfl
end Go.Proofs.YtddgcdpogpppgaaDoorW.PrintWords
end
section
namespace Go.Proofs.YtddgcdpogpppgaaDoorW.PrintLast
section
def up (b : Nat → Bool) (i : Nat) : Nat → Bool := fun j => if j = i then true else b j
theorem up_self (b : Nat → Bool) (i : Nat) : up b i i = true := by simp [up]
theorem up_ne {b : Nat → Bool} {i j : Nat} (h : j ≠ i) : up b i j = b j := by simp [up, h]
def lof (n : Nat) (O : List Nat) (b : Nat → Bool) : List Bool := (List.range n).map fun j => if O.contains j then b j else true
def putSel (a : Act) (b : Nat → Bool) : List (Nat × Tmp × Value) → Act
 | [] => a
 | e :: r => putSel (if b e.1 = true then a.put (some e.2.1) e.2.2 else a) b r
section
variable {P : Program} {ops : Array Oper} {Q : Exit → Act → World → Prop} {md : Region.Mode} {T : Bool × List (List Nat × List Nat)} {B : List Nat} {O : List Nat} {b : Nat → Bool} {i j n : Nat}
theorem lof_length : (lof n O b).length = n := by simp [lof]
theorem lof_get {d : Bool} (hj : j < n) : (lof n O b).getD j d = if O.contains j then b j else true := by
 simp [lof, List.getD_eq_getElem?_getD, hj]
theorem lof_up (hi : O.contains i = true) : (lof n O b).set i true = lof n O (up b i) := by
 apply List.ext_getElem?
 intro j
 by_cases hj:j<n
 ·by_cases hij : i = j
  ·subst hij
   have hl:i<(lof n O b).length:=by rw [lof_length];exact hj
   rw [List.getElem?_set_self hl]
   simp only [lof,List.getElem?_map,List.getElem?_range hj,Option.map_some,hi,if_true,up_self]
  ·rw [List.getElem?_set_ne hij]
   simp only [lof,List.getElem?_map,List.getElem?_range hj,Option.map_some]
   rw [up_ne (Ne.symm hij)]
 ·rw [List.getElem?_eq_none (by simp [lof];omega),List.getElem?_eq_none (by simp [lof];omega)]
def StepAt (P : Program) (ops : Array Oper) (Q : Exit → Act → World → Prop) (B : List Nat) (O : List Nat) (I : (Nat → Bool) → Act → World → Prop) (i : Nat) : Prop :=
 ∀ b a w, I b a w → b i = false → (∀ j, (O.contains j && (B.getD i 0).testBit j) = true → b j = true) → (∀ d, (O.contains d && (B.getD d 0).testBit i) = true → b d = false) →
  ∃oi,ops[i]? =some oi∧ ∀K:Act→World→Prop,Shut (∀a' w',I (up b i) a' w'→K a' w')→if Region.wanted oi (yielded ops a.tmps)=true then Oper.wp P oi a w K Q else K (a.put oi.dst undef) w
theorem steps_nil {I : (Nat → Bool) → Act → World → Prop} : ∀ i ∈ ([] : List Nat), StepAt P ops Q B O I i := fun _ h => by cases h
theorem steps_cons {I : (Nat → Bool) → Act → World → Prop} {rs : List Nat} (h : StepAt P ops Q B O I i) (hs : ∀ j ∈ rs, StepAt P ops Q B O I j) : ∀ j ∈ i :: rs, StepAt P ops Q B O I j := fun j hj => by
 rcases List.mem_cons.1 hj with rfl | hj
 ·exact h
 ·exact hs j hj
def baseOk (T : List (List Nat × List Nat)) (O : List Nat) : Bool :=
 (List.range T.length).all (fun d => match T[d]? with
  | some r => (O.contains d || r.1.all fun n => !O.contains n) && r.1.all fun n => decide (n < d)
  | none => false) && O.all (fun i => decide (i < T.length)) && decide O.Nodup
theorem baseOk_row {T : List (List Nat × List Nat)} (h : baseOk T O = true) {d : Nat} {r : List Nat × List Nat} (hr : T[d]? = some r) : (O.contains d = false → ∀ n ∈ r.1, O.contains n = false) ∧ ∀ n ∈ r.1, n < d := by
 simp only [baseOk,Bool.and_eq_true] at h
 have h1:=List.all_eq_true.1 h.1.1 d (List.mem_range.2 (List.getElem?_eq_some_iff.1 hr).1)
 rw [hr] at h1
 simp only [Bool.and_eq_true,Bool.or_eq_true,List.all_eq_true,decide_eq_true_eq] at h1
 refine⟨fun hd n hn=>?_,h1.2⟩
 rcases h1.1 with h2|h2
 ·rw [hd] at h2;cases h2
 ·simpa using h2 n hn
theorem baseOk_lt {T : List (List Nat × List Nat)} (h : baseOk T O = true) {i : Nat} (hi : i ∈ O) : i < T.length := by
 simp only [baseOk, Bool.and_eq_true] at h
 simpa using List.all_eq_true.1 h.1.2 i hi
theorem baseOk_nodup {T : List (List Nat × List Nat)} (h : baseOk T O = true) : O.Nodup := by
 simp only [baseOk, Bool.and_eq_true] at h
 exact of_decide_eq_true h.2
def Closed (T : List (List Nat × List Nat)) (O : List Nat) (b : Nat → Bool) : Prop := ∀ d r, T[d]? = some r → O.contains d = true → b d = true → ∀ n ∈ r.1, O.contains n = true → b n = true
theorem bits_out {T : List (List Nat × List Nat)} (hw : waitsOk T B = true) (hk : baseOk T O = true) : ∀ (m d : Nat), d ≤ m → d < T.length → O.contains d = false → ∀ j, (B.getD d 0).testBit j = true → O.contains j = false := by
 intro m
 induction m with
 | zero =>
  intro d hd hl hO j hj
  have hd0:d=0:=by omega
  subst hd0
  have hr:T[0]? =some T[0]:=List.getElem?_eq_getElem hl
  have h1:=List.all_eq_true.1 hw 0 (List.mem_range.2 hl)
  rw [hr] at h1
  simp only [beq_iff_eq] at h1
  have h2:(upM B 0 T[0].1).testBit j=true:=by rw [← h1,Nat.testBit_or,hj,Bool.true_or]
  obtain⟨n,hn,h3⟩:=upM_bit h2
  have:=(baseOk_row hk hr).2 n hn
  omega
 | succ m ih =>
  intro d hd hl hO j hj
  have hr:T[d]? =some T[d]:=List.getElem?_eq_getElem hl
  have h1:=List.all_eq_true.1 hw d (List.mem_range.2 hl)
  rw [hr] at h1
  simp only [beq_iff_eq] at h1
  have h2:(upM B d T[d].1).testBit j=true:=by rw [← h1,Nat.testBit_or,hj,Bool.true_or]
  obtain⟨n,hn,h3⟩:=upM_bit h2
  have hO2:=(baseOk_row hk hr).1 hO n hn
  rcases h3 with rfl|⟨h4,h5⟩
  ·exact hO2
  ·exact ih n (by omega) (by omega) hO2 j h5
theorem closed_bits {T : List (List Nat × List Nat)} (hw : waitsOk T B = true) (hk : baseOk T O = true) (hc : Closed T O b) : ∀ (m d : Nat), d ≤ m → d < T.length → O.contains d = true → b d = true → ∀ j, O.contains j = true → (B.getD d 0).testBit j = true → b j = true := by
 intro m
 induction m with
 | zero =>
  intro d hd hl hO hb j hjO hj
  have hd0:d=0:=by omega
  subst hd0
  have hr:T[0]? =some T[0]:=List.getElem?_eq_getElem hl
  have h1:=List.all_eq_true.1 hw 0 (List.mem_range.2 hl)
  rw [hr] at h1
  simp only [beq_iff_eq] at h1
  have h2:(upM B 0 T[0].1).testBit j=true:=by rw [← h1,Nat.testBit_or,hj,Bool.true_or]
  obtain⟨n,hn,h3⟩:=upM_bit h2
  have:=(baseOk_row hk hr).2 n hn
  omega
 | succ m ih =>
  intro d hd hl hO hb j hjO hj
  have hr:T[d]? =some T[d]:=List.getElem?_eq_getElem hl
  have h1:=List.all_eq_true.1 hw d (List.mem_range.2 hl)
  rw [hr] at h1
  simp only [beq_iff_eq] at h1
  have h2:(upM B d T[d].1).testBit j=true:=by rw [← h1,Nat.testBit_or,hj,Bool.true_or]
  obtain⟨n,hn,h3⟩:=upM_bit h2
  rcases h3 with rfl|⟨h4,h5⟩
  ·exact hc d _ hr hO hb n hn hjO
  ·cases hO2 : O.contains n with
   |true=>exact ih n (by omega) (by omega) hO2 (hc d _ hr hO hb n hn hO2) j hjO h5
   | false =>
    have:=bits_out hw hk n n (Nat.le_refl _) (by omega) hO2 j h5
    rw [hjO] at this
    cases this
theorem up_count : ∀ {O : List Nat}, O.Nodup → i ∈ O → b i = false → (O.filter fun j => !up b i j).length + 1 = (O.filter fun j => !b j).length
 | [],_,hi,_=>by cases hi
 | x :: r, hn, hi, hb => by
  rw [List.nodup_cons] at hn
  rcases List.mem_cons.1 hi with rfl|hi
  ·have h1 : (r.filter fun j => !up b i j) = r.filter fun j => !b j := by
    refine List.filter_congr (fun j hj=>?_)
    rw [up_ne (fun e=>hn.1 (by rw [← e];exact hj))]
   rw [List.filter_cons,List.filter_cons]
   simp [up_self,hb,h1]
  ·have hxi : x ≠ i := fun e => hn.1 (e ▸ hi)
   have h1:=up_count hn.2 hi hb
   rw [List.filter_cons,List.filter_cons,up_ne hxi]
   cases hbx:b x
   ·simp only [Bool.not_false, if_true, List.length_cons]
    omega
   ·simpa using h1
theorem inv_all (hT : rtab md ops = T) (hw : waitsOk T.2 B = true) (hk : baseOk T.2 O = true) (I : (Nat → Bool) → Act → World → Prop) (hs : ∀ i ∈ O, StepAt P ops Q B O I i)
 (hend: ∀b a w,(∀j,O.contains j=true→b j=true)→I b a w→Q .normal a w):
 ∀(m:Nat) (b:Nat→Bool) (a:Act) (w:World),(O.filter fun j=>!b j).length=m→Closed T.2 O b→I b a w→wpAnyLast P md ops Q (fun _=>True) [] m (lof T.2.length O b).toArray a w:=by
 subst hT
 have mem_ready' : ∀ {b : Nat → Bool} {i : Nat}, i ∈ Region.ready md ops (lof (rtab md ops).2.length O b).toArray → i < (rtab md ops).2.length ∧ O.contains i = true ∧ b i = false ∧ ∀ r, (rtab md ops).2[i]? = some r → ∀ n ∈ r.1, n < (rtab md ops).2.length → O.contains n = true → b n = true := by
  intro b i hi
  rw [ready_eq] at hi
  unfold readyT at hi
  rw [List.mem_filter,List.mem_range] at hi
  obtain⟨hl,h1⟩:=hi
  unfold readyAt at h1
  rw [Bool.and_eq_true,lof_get hl] at h1
  obtain⟨h2,h3⟩:=h1
  have h4 : O.contains i = true := by
   cases h:O.contains i with
   |true=>rfl
   |false=>rw [h] at h2;simp at h2
  rw [h4] at h2
  refine⟨hl,h4,by simpa using h2,fun r hr n hn hnl hO=>?_⟩
  rw [hr] at h3
  simp only [List.all_eq_true] at h3
  have h5:=h3 n hn
  rw [lof_get hnl,hO] at h5
  simpa using h5
 intro m
 induction m with
 | zero =>
  intro b a w hm hc hI
  have hall : ∀ j, O.contains j = true → b j = true := by
   intro j hj
   cases hb:b j with
   |true=>rfl
   | false =>
    have:j ∈ O.filter fun j=>!b j:=List.mem_filter.2 ⟨List.contains_iff_mem.1 hj,by simp [hb]⟩
    rw [List.eq_nil_of_length_eq_zero hm] at this
    cases this
  refine⟨?_,hend b a w hall hI⟩
  refine List.eq_nil_iff_forall_not_mem.2 (fun i hi=>?_)
  obtain⟨_,h1,h2,_⟩:=mem_ready' hi
  rw [hall i h1] at h2
  cases h2
 | succ m ih =>
  intro b a w hm hc hI
  refine⟨fun hr=>?_,fun i hi=>?_⟩
  ·exfalso
   -- the smallest number that isn't listed is ready
   have hex : ∃ i, O.contains i = true ∧ b i = false := by
    cases hf:O.filter (fun j=>!b j) with
    |nil=>rw [hf] at hm;simp at hm
    | cons x r =>
     have hx:x ∈ O.filter (fun j=>!b j):=by rw [hf];exact List.mem_cons_self
     rw [List.mem_filter] at hx
     exact⟨x,List.contains_iff_mem.2 hx.1,by simpa using hx.2⟩
   have hmin : ∀ k, (∃ i, i ≤ k ∧ O.contains i = true ∧ b i = false) → ∃ i, O.contains i = true ∧ b i = false ∧ ∀ j, j < i → O.contains j = true → b j = true := by
    intro k
    induction k with
    | zero =>
     rintro ⟨i,hi,h1,h2⟩
     exact⟨i,h1,h2,fun j hj=>by omega⟩
    | succ k ihk =>
     rintro ⟨i,hi,h1,h2⟩
     by_cases hlow: ∃j,j≤k∧O.contains j=true∧b j=false
     ·exact ihk hlow
     ·refine ⟨i, h1, h2, fun j hj hO => ?_⟩
      cases hb:b j with
      |true=>rfl
      |false=>exact absurd ⟨j,by omega,hO,hb⟩ hlow
   obtain⟨i0,h1,h2⟩:=hex
   obtain⟨i,hO,hb,hlow⟩:=hmin i0 ⟨i0,Nat.le_refl _,h1,h2⟩
   have hl:=baseOk_lt hk (List.contains_iff_mem.1 hO)
   have hin : i ∈ Region.ready md ops (lof (rtab md ops).2.length O b).toArray := by
    rw [ready_eq]
    unfold readyT
    rw [List.mem_filter,List.mem_range]
    refine⟨hl,?_⟩
    unfold readyAt
    rw [lof_get hl,hO,hb]
    have hr2:(rtab md ops).2[i]? =some (rtab md ops).2[i]:=List.getElem?_eq_getElem hl
    rw [hr2]
    simp only [if_true,Bool.not_false,Bool.true_and,List.all_eq_true]
    intro n hn
    have hni:=(baseOk_row hk hr2).2 n hn
    rw [lof_get (by omega)]
    cases hOn:O.contains n with
    |true=>simpa using hlow n hni hOn
    |false=>simp
   rw [hr] at hin
   cases hin
  ·obtain ⟨hl, hO, hb, hneed⟩ := mem_ready' hi
   have hon : ∀ j, (O.contains j && (B.getD i 0).testBit j) = true → b j = true := by
    intro j hj
    rw [Bool.and_eq_true] at hj
    have hr2:(rtab md ops).2[i]? =some (rtab md ops).2[i]:=List.getElem?_eq_getElem hl
    have h1:=List.all_eq_true.1 hw i (List.mem_range.2 hl)
    rw [hr2] at h1
    simp only [beq_iff_eq] at h1
    have h2:(upM B i (rtab md ops).2[i].1).testBit j=true:=by rw [← h1,Nat.testBit_or,hj.2,Bool.true_or]
    obtain⟨n,hn,h3⟩:=upM_bit h2
    have hni:=(baseOk_row hk hr2).2 n hn
    rcases h3 with rfl|⟨h4,h5⟩
    ·exact hneed _ hr2 n hn (by omega) hj.1
    ·cases hO2 : O.contains n with
     |true=>exact closed_bits hw hk hc n n (Nat.le_refl _) (by omega) hO2 (hneed _ hr2 n hn (by omega) hO2) j hj.1 h5
     | false =>
      have:=bits_out hw hk n n (Nat.le_refl _) (by omega) hO2 j h5
      rw [hj.1] at this
      cases this
   have hoff : ∀ d, (O.contains d && (B.getD d 0).testBit i) = true → b d = false := by
    intro d hd
    rw [Bool.and_eq_true] at hd
    cases hbd:b d with
    |false=>rfl
    | true =>
     have hdl:=baseOk_lt hk (List.contains_iff_mem.1 hd.1)
     have:=closed_bits hw hk hc d d (Nat.le_refl _) hdl hd.1 hbd i hO hd.2
     rw [hb] at this
     cases this
   obtain⟨oi,hoi,hK⟩:=hs i (List.contains_iff_mem.1 hO) b a w hI hb hon hoff
   refine wpOp_step hoi (fun K' hK'=>hK K' (fun a' w' hI'=>hK' a' w' ⟨fun _ _=>trivial,?_⟩))
   have hset : (lof (rtab md ops).2.length O b).toArray.setIfInBounds i true = (lof (rtab md ops).2.length O (up b i)).toArray := by
    apply Array.ext'
    rw [Array.toList_setIfInBounds]
    exact lof_up hO
   rw [hset]
   refine ih (up b i) a' w' ?_ ?_ hI'
   ·have := up_count (baseOk_nodup hk) (List.contains_iff_mem.1 hO) hb
    omega
   ·intro d r hr hOd hbd n hn hOn
    by_cases hni:n=i
    ·rw [hni,up_self]
    ·rw [up_ne hni]
     by_cases hdi:d=i
     ·subst hdi
      exact hneed r hr n hn (by have:=(baseOk_row hk hr).2 n hn;omega) hOn
     ·rw [up_ne hdi] at hbd
      exact hc d r hr hOd hbd n hn hOn
theorem putSel_off {b : Nat → Bool} {t : Tmp} : ∀ {L : List (Nat × Tmp × Value)} {a : Act}, (L.all fun e => !(e.2.1 == t)) = true → (putSel a b L).tmps[t]? = a.tmps[t]?
 | [],_,_=>rfl
 | e :: r, a, h => by
  rw [List.all_cons,Bool.and_eq_true] at h
  have he:e.2.1≠t:=by simpa using h.1
  unfold putSel
  by_cases hb:b e.1=true
  ·rw [if_pos hb, putSel_off h.2]
   simp [Act.put,Array.getElem?_setIfInBounds_ne he]
  ·rw [if_neg hb]
   exact putSel_off h.2
theorem putSel_on {b : Nat → Bool} {e : Nat × Tmp × Value} : ∀ {L : List (Nat × Tmp × Value)} {a : Act} (k : Nat), L[k]? = some e → ((L.drop (k + 1)).all fun x => !(x.2.1 == e.2.1)) = true → b e.1 = true → Nat.ble (e.2.1 + 1) a.tmps.size = true → (putSel a b L).tmps[e.2.1]? = some e.2.2
 | [],_,_,h,_,_,_=>by cases h
 | x :: r, a, 0, h, hd, hb, ht => by
  simp only [List.getElem?_cons_zero,Option.some.injEq] at h
  subst h
  unfold putSel
  rw [if_pos hb,putSel_off (by simpa using hd)]
  have ht2:x.2.1<a.tmps.size:=Nat.le_of_ble_eq_true ht
  simp [Act.put,ht2]
 | x :: r, a, k + 1, h, hd, hb, ht => by
  unfold putSel
  refine putSel_on k (by simpa using h) (by simpa using hd) hb ?_
  by_cases hx:b x.1=true
  ·rw [if_pos hx]
   simpa [Act.put] using ht
  ·rw [if_neg hx]
   exact ht
theorem put_comm {a : Act} {s t : Tmp} {u v : Value} (h : s ≠ t) : (a.put (some s) u).put (some t) v = (a.put (some t) v).put (some s) u := by
 simp only [Act.put]
 rw [Array.setIfInBounds_comm _ _ h]
theorem putSel_put {b : Nat → Bool} {t : Tmp} {v : Value} : ∀ {L : List (Nat × Tmp × Value)} {a : Act}, (L.all fun e => !(e.2.1 == t)) = true → (putSel a b L).put (some t) v = putSel (a.put (some t) v) b L
 | [],_,_=>rfl
 | e :: r, a, h => by
  rw [List.all_cons,Bool.and_eq_true] at h
  have he:e.2.1≠t:=by simpa using h.1
  unfold putSel
  by_cases hb:b e.1=true
  ·rw [if_pos hb,if_pos hb,putSel_put h.2,put_comm he]
  ·rw [if_neg hb, if_neg hb]
   exact putSel_put h.2
theorem putSel_same {b : Nat → Bool} {i : Nat} : ∀ {L : List (Nat × Tmp × Value)} {a : Act}, (L.all fun e => !(e.1 == i)) = true → putSel a (up b i) L = putSel a b L
 | [],_,_=>rfl
 | e :: r, a, h => by
  rw [List.all_cons,Bool.and_eq_true] at h
  have he:e.1≠i:=by simpa using h.1
  unfold putSel
  rw [up_ne he]
  exact putSel_same h.2
theorem putSel_up {b : Nat → Bool} {i : Nat} {t : Tmp} {v0 v : Value} : ∀ {L1 L2 : List (Nat × Tmp × Value)} {a : Act}, b i = false → ((L1 ++ L2).all fun e => !(e.1 == i) && !(e.2.1 == t)) = true →
 (putSel a b (L1 ++ (i,t,v0) :: L2)).put (some t) v=putSel a (up b i) (L1 ++ (i,t,v) :: L2)
 | [], L2, a, hb, h => by
  simp only [List.nil_append] at h ⊢
  have h1:(L2.all fun e=>!(e.1==i))=true:=List.all_eq_true.2 (fun e he=>by have:=List.all_eq_true.1 h e he;simp only [Bool.and_eq_true] at this;exact this.1)
  have h2:(L2.all fun e=>!(e.2.1==t))=true:=List.all_eq_true.2 (fun e he=>by have:=List.all_eq_true.1 h e he;simp only [Bool.and_eq_true] at this;exact this.2)
  unfold putSel
  rw [if_neg (by rw [hb];decide),if_pos (up_self b i),putSel_put h2,putSel_same h1]
 | e :: r, L2, a, hb, h => by
  simp only [List.cons_append,List.all_cons,Bool.and_eq_true] at h
  have he:e.1≠i:=by simpa using h.1.1
  simp only [List.cons_append]
  unfold putSel
  rw [up_ne he]
  exact putSel_up hb h.2
theorem putSel_upk {b : Nat → Bool} {i : Nat} {t : Tmp} {v0 v : Value} {a : Act} {L L' : List (Nat × Tmp × Value)} (k : Nat) (hb : b i = false) (hL : L[k]? = some (i, t, v0)) (hL' : L.set k (i, t, v) = L') (hd : ((L.take k ++ L.drop (k + 1)).all fun e => !(e.1 == i) && !(e.2.1 == t)) = true) :
 (putSel a b L).put (some t) v=putSel a (up b i) L':=by
 have hk:=(List.getElem?_eq_some_iff.1 hL).1
 have h1 : L = L.take k ++ (i, t, v0) :: L.drop (k + 1) := by
  have h2:L[k]=(i,t,v0):=(List.getElem?_eq_some_iff.1 hL).2
  rw [← h2,List.getElem_cons_drop,List.take_append_drop]
 have h3:L'=L.take k ++ (i,t,v) :: L.drop (k+1):=by rw [← hL',List.set_eq_take_append_cons_drop,if_pos hk]
 rw [h3]
 conv=>lhs;rw [h1]
 exact putSel_up hb hd
theorem inv_ {l : Array Bool} {fuel : Nat} {a : Act} {w : World} (O : List Nat) (I : (Nat → Bool) → Act → World → Prop) (hT : rtab md ops = T) (hw : waitsOk T.2 B = true) (hk : baseOk T.2 O = true)
 (hl:(lof T.2.length O (fun _=>false)==l.toList && O.length==fuel)=true) (h0:I (fun _=>false) a w) (hs: ∀i ∈ O,StepAt P ops Q B O I i)
 (hend: ∀b a w,(∀j,O.contains j=true→b j=true)→I b a w→Q .normal a w):wpAnyLast P md ops Q (fun _=>True) [] fuel l a w:=by
 rw [Bool.and_eq_true,beq_iff_eq,beq_iff_eq] at hl
 have h1:=inv_all hT hw hk I hs hend fuel (fun _=>false) a w (by rw [← hl.2];simp) (fun d r _ _ hb=>by cases hb) h0
 have h2:(lof T.2.length O (fun _=>false)).toArray=l:=by apply Array.ext';exact hl.1
 rw [h2] at h1
 exact h1
theorem inv_at {l : Array Bool} {fuel : Nat} {a : Act} {w : World} (O : List Nat) (I : Act → (Nat → Bool) → Act → World → Prop) (hT : rtab md ops = T) (hw : waitsOk T.2 B = true) (hk : baseOk T.2 O = true)
 (hl:(lof T.2.length O (fun _=>false)==l.toList && O.length==fuel)=true) (h0:I a (fun _=>false) a w) (hs: ∀i ∈ O,StepAt P ops Q B O (I a) i)
 (hend: ∀b a' w,(∀j,O.contains j=true→b j=true)→I a b a' w→Q .normal a' w):wpAnyLast P md ops Q (fun _=>True) [] fuel l a w:=inv_ O (I a) hT hw hk hl h0 hs hend
end
end
end Go.Proofs.YtddgcdpogpppgaaDoorW.PrintLast
end
section
namespace Go.Proofs.YtddgcdpogpppgaaDoor
section
variable {p : Prop}
open Go.RowKit Go.Proofs.YtddgcdpogpppgaaDoorW.PrintWords Go.Proofs.YtddgcdpogpppgaaDoorW.PrintLast
theorem zq22 (h:p:=by repeat(first|(with_reducible first|exact HB.out|apply below_alloc|apply pw_below_drewN|apply below_drew1|refine below_set ?_ a8.out)|exact HB.out)):p:=h
theorem zq46 (h:p:=by repeat(first|(with_reducible first|exact a5.out|apply IsS78.alloc|apply IsS78.drewN|apply IsS78.drew|apply IsS78.set_1)|exact a5.out)):p:=h
theorem zq47 (h:p:=by repeat(first|(with_reducible first|exact HB.out|apply below_alloc|apply pw_below_drewN|apply below_drew1|refine below_set ?_ (IsS78.ge a5.out))|exact HB.out)):p:=h
theorem zq68 (h:p:=by exact Kd.C_foot_own ((Kd.S_R (IsS78.apartS (show IsS78 w _ g631 a3 a4 from by repeat(first|(with_reducible first|exact a0.out|apply IsS78.alloc|apply IsS78.drewN|apply IsS78.drew|apply IsS78.set_1)|exact a0.out)) (zqfS a2.out) (by decide)))) (fun _ h_=>h_.2)):p:=h
theorem zq95 (h:p:=by exact(below_size (by repeat(first|(with_reducible first|exact HB.out|apply below_alloc|apply pw_below_drewN|apply below_drew1|refine below_set ?_ a8.out)|exact HB.out)))):p:=h
theorem zq100 (h:p:=by repeat(first|exact(Kd.Q_reads' a1.out).2.2|(with_reducible refine Kd.C_alloc ?_ _)|(with_reducible refine Kd.C_drewN ?_ _)|(with_reducible refine Kd.C_drew ?_))):p:=h
theorem zq102 (h:p:=by exact(by repeat(first|(with_reducible first|exact HB.out|apply below_alloc|apply pw_below_drewN|apply below_drew1|refine below_set ?_ a8.out)|exact HB.out))):p:=h
theorem zq119 (h:p:=by (with_reducible repeat(first|apply Kd.R_alloc|apply Kd.R_drewN|apply Kd.R_drew));exact(Q_HO625 h0_)):p:=h
theorem zq127 (h:p:=by have:=f3.out;have:=f8.out;have:=h2.out;omega):p:=h
theorem zq136 (h:p:=by rw [hg_];exact HBo.out.size):p:=h
theorem zq142 (h:p:=by rw [hg_];exact Nat.ne_of_lt (blk_lt HX.out)):p:=h
end
end Go.Proofs.YtddgcdpogpppgaaDoor
end
section
namespace Go.Proofs.YtddgcdpogpppgaaDoor.Print
open Go.RowKit Go.Proofs.YtddgcdpogpppgaaDoorW.PrintWords Go.Proofs.YtddgcdpogpppgaaDoorW.PrintLast Go.Proofs.YtddgcdpogpppgaaDoorW.PrintMore
theorem info9 : (Tryd.prog.info? 9).map (fun i => (i.zero, i.size, i.bytes)) = some (some (.string ⟨#[]⟩), 1, 16) := by kernel_rfl
mutual
def spec_l1Digits.j0 : Nat → ByteArray → Bool → Option (Int)
 | 0, _, _ => none
 | k + 1, x0, x18 => if x18 = true then (some (-1)) else (spec_l1Digits.l0 k x0 0 0)
def spec_l1Digits.l0 : Nat → ByteArray → Int → Int → Option (Int)
 | 0, _, _, _ => none
 | k + 1, x0, x3, x4 => if x4 < (x0.size : Int) then (if 0 ≤ x4 then (if (bt x0 x4) < 48 then (some (-1)) else (if (bt x0 x4) > 57 then (some (-1)) else (spec_l1Digits.l0 k x0 (wrap64 ((wrap64 (10 * x3)) + (((bt x0 x4) - 48) % 256))) (wrap64 (x4 + 1))))) else (none)) else (some x3)
end
def spec_l1Digits.f (k : Nat) (a0 : ByteArray) : Option (Int) := (spec_l1In.f (a0.size : Int) 1 2).bind fun t186 => (if t186 = true then (if (a0.size : Int) > 1 then (if 0 < (a0.size : Int) then (spec_l1Digits.j0 k a0 ((bt a0 0) == 48)) else (none)) else (spec_l1Digits.j0 k a0 false)) else (spec_l1Digits.j0 k a0 true))
theorem spec_l1Digits.mono_l : ∀ k, (∀ y0 y1, LeO (spec_l1Digits.j0 k y0 y1) (spec_l1Digits.j0 (k + 1) y0 y1)) ∧ (∀ y0 y1 y2, LeO (spec_l1Digits.l0 k y0 y1 y2) (spec_l1Digits.l0 (k + 1) y0 y1 y2))
 | 0 => ⟨fun _ _ r h => by simp [spec_l1Digits.j0] at h, fun _ _ _ r h => by simp [spec_l1Digits.l0] at h⟩
 | k + 1 => by
  obtain ⟨ih0, ih1⟩ := spec_l1Digits.mono_l k
  refine ⟨?_, ?_⟩
  ·intro y0 y1
   unfold spec_l1Digits.j0
   repeat' first
   | (with_reducible exact ih0 _ _)
   | (with_reducible exact ih1 _ _ _)
   | (with_reducible exact LeO.refl _)
   | (with_reducible exact LeO.none _)
   | (with_reducible refine LeO.ite ?_ ?_)
   | (with_reducible refine LeO.bind ?_ (fun _ => ?_))
   | exact ih0 _ _
   | exact ih1 _ _ _
   | exact LeO.none _
   | refine LeO.ite ?_ ?_
   | refine LeO.bind ?_ (fun _ => ?_)
  ·intro y0 y1 y2
   unfold spec_l1Digits.l0
   repeat' first
   | (with_reducible exact ih0 _ _)
   | (with_reducible exact ih1 _ _ _)
   | (with_reducible exact LeO.refl _)
   | (with_reducible exact LeO.none _)
   | (with_reducible refine LeO.ite ?_ ?_)
   | (with_reducible refine LeO.bind ?_ (fun _ => ?_))
   | exact ih0 _ _
   | exact ih1 _ _ _
   | exact LeO.none _
   | refine LeO.ite ?_ ?_
   | refine LeO.bind ?_ (fun _ => ?_)
theorem spec_l1Digits.mono : ∀ a0 k, LeO (spec_l1Digits.f k a0) (spec_l1Digits.f (k + 1) a0) := by
 intro a0 k
 obtain ⟨ih0, ih1⟩ := spec_l1Digits.mono_l k
 unfold spec_l1Digits.f
 repeat' first
   | (with_reducible exact ih0 _ _)
   | (with_reducible exact ih1 _ _ _)
   | (with_reducible exact LeO.refl _)
   | (with_reducible exact LeO.none _)
   | (with_reducible refine LeO.ite ?_ ?_)
   | (with_reducible refine LeO.bind ?_ (fun _ => ?_))
   | exact ih0 _ _
   | exact ih1 _ _ _
   | exact LeO.none _
   | refine LeO.ite ?_ ?_
   | refine LeO.bind ?_ (fun _ => ?_)
set_option maxHeartbeats 8000000 in
set_option maxRecDepth 100000 in
theorem spec_l1Digits.calls (k : Nat) (a0 : ByteArray) (r : Int) (w : World) (h : spec_l1Digits.f k a0 = some r) :
  Calls Tryd.prog 35 #[.string a0] w fun e w' => e = .returned (.int .i64 r) ∧ Drawn0 w w' := by
 have H:((spec_l1In.f (a0.size:Int) 1 2).bind fun b1=>(if b1=true then(if(a0.size:Int)>1 then(if 0<(a0.size:Int) then(spec_l1Digits.j0 k a0 ((bt a0 0)==48)) else(none)) else(spec_l1Digits.j0 k a0 false)) else(spec_l1Digits.j0 k a0 true)))=some r:=h;clear h;have b3:=zqm H;clear H
 go_enter Tryd.func35,Tryd.ntmps35
 go_upto_region 1 with (fail)
 go_cut [18] (fun d1 wc=> ∃(kq:Nat) (a4:Bool),d1= .bool a4∧Aside0 (spec_l1Digits.j0 kq a0 a4=some r)∧Aside0 (kq≤k)∧Drawn0 w wc)
 case first=>
  have H:=b3.out;clear b3;replace H:=Option.bind_eq_some_iff.mp H;obtain⟨b1,b7,H⟩:=H;(try dsimp only at H);have A3:=zqm b7;clear b7
  by_cases c4:b1=true
  ·subst c4;rw [if_pos rfl] at H
   by_cases c5:(a0.size:Int)>1
   ·rw [if_pos c5] at H;have a5:decide (1<(a0.size:Int))=true:=decide_eq_true c5;have c3:decide (1<a0.size)=true:=decide_eq_true (by omega);clear c5;(first|rw [a5]|(simp only [i64_w,i32_w];rw [a5])|skip)
    by_cases c6:0<(a0.size:Int)
    ·rw [if_pos c6] at H;have d3:decide (0<(a0.size:Int))=true:=decide_eq_true c6;have d4:decide (0<a0.size)=true:=decide_eq_true (by omega);clear c6;have H':=zqm H;clear H
     go_wp2_with (first|((with_reducible refine gate_callee (f:=30) rfl ?_);refine goesL_ (some 7) rfl rfl Tryd.func30 zqk rfl #[.int .i64 (a0.size:Int),.int .i64 1,.int .i64 2] rfl zq2 ?_;(with_reducible refine(spec_l1In.calls (a0.size:Int) 1 2 true _ A3.out).mono ?_);rintro e w' ⟨rfl,⟨nd,rfl⟩⟩;refine⟨_,rfl,?_⟩;have p7:0≤(0:Int):=(by omega);have q7:0<a0.size:=(by have:(0:Int)<(a0.size:Int):=zqo;omega);have d6: ∀h:0<a0.size,((a0[0]'h).toNat:Int)=bt a0 0:=bt_at a0 0;clear p7;have d7:(0<(a0.size:Int))=True:=eq_true (zqo);replace q7:=eq_true q7))
     go_meet
     case rel=>exact⟨_,(((bt a0 0)==48)),zq15,H',⟨zq61⟩,zq28⟩
    ·rw [if_neg c6] at H;exact absurd H (by simp)
   ·rw [if_neg c5] at H;have a5:decide (1<(a0.size:Int))=false:=decide_eq_false c5;have c3:decide (1<a0.size)=false:=decide_eq_false (by omega);clear c5;(first|rw [a5]|(simp only [i64_w,i32_w];rw [a5])|skip);have H':=zqm H;clear H
    go_wp2_with (first|((with_reducible refine gate_callee (f:=30) rfl ?_);refine goesL_ (some 7) rfl rfl Tryd.func30 zqk rfl #[.int .i64 (a0.size:Int),.int .i64 1,.int .i64 2] rfl zq2 ?_;(with_reducible refine(spec_l1In.calls (a0.size:Int) 1 2 true _ A3.out).mono ?_);rintro e w' ⟨rfl,⟨nd,rfl⟩⟩;refine⟨_,rfl,?_⟩))
    go_meet
    case rel=>exact⟨_,(false),zq15,H',⟨zq61⟩,zq28⟩
  ·replace c4:=Bool.eq_false_iff.mpr c4;subst c4;rw [if_neg (show¬(false=true) by decide)] at H;have H':=zqm H;clear H
   go_wp2_with (first|((with_reducible refine gate_callee (f:=30) rfl ?_);refine goesL_ (some 7) rfl rfl Tryd.func30 zqk rfl #[.int .i64 (a0.size:Int),.int .i64 1,.int .i64 2] rfl zq2 ?_;(with_reducible refine(spec_l1In.calls (a0.size:Int) 1 2 false _ A3.out).mono ?_);rintro e w' ⟨rfl,⟨nd,rfl⟩⟩;refine⟨_,rfl,?_⟩))
   go_meet
   case rel=>exact⟨_,(true),zq15,H',⟨zq61⟩,zq28⟩
 case rest=>
  clear b3;obtain⟨kq,a4,rfl,HA,b8,⟨mc1,rfl⟩⟩:=hcut
  cases kq with
  |zero=>exact absurd HA.out (by simp [spec_l1Digits.j0])
  |succ c0=>
   have H:=HA.out;clear HA;simp only [spec_l1Digits.j0] at H
   by_cases c8:a4=true
   ·subst c8;rw [if_pos rfl] at H;obtain rfl:=Option.some.inj H
    go_wp2
    go_ret
    exact⟨zq15,zq28⟩
   ·replace c8:=Bool.eq_false_iff.mpr c8;subst c8;rw [if_neg (show¬(false=true) by decide)] at H;have H':=zqm H;clear H
    go_wp2
    go_loopg [3,4] c0 (fun kq v3 v4 w'=> ∃(a8:Int) (a1:Int),v3= .int .i64 a8∧v4= .int .i64 a1∧Aside0 (spec_l1Digits.l0 kq a0 a8 a1=some r)∧Aside0 (kq≤c0)∧Drawn0 w w')
    case atStart=>exact⟨(0),(0),zq15,zq15,H',⟨Nat.le_refl _⟩,zq28⟩
    case round=>
     clear H';obtain⟨a8,a1,rfl,rfl,HA,b9,⟨m2,rfl⟩⟩:=hrel
     cases gk with
     |zero=>exact absurd HA.out (by simp [spec_l1Digits.l0])
     |succ k2=>
      have H:=HA.out;clear HA;simp only [spec_l1Digits.l0] at H
      by_cases c9:a1<(a0.size:Int)
      ·rw [if_pos c9] at H;have c7:decide (a1<(a0.size:Int))=true:=decide_eq_true c9;clear c9
       by_cases b2:0≤a1
       ·rw [if_pos b2] at H;have d2:decide (0≤a1)=true:=decide_eq_true b2;clear b2
        by_cases a6:(bt a0 a1)<48
        ·rw [if_pos a6] at H;have b5:decide ((bt a0 a1)<48)=true:=decide_eq_true a6;clear a6;obtain rfl:=Option.some.inj H;have a2:0≤(a1:Int):=zqo;have a3:a1<(a0.size:Int):=zqo;have b4:=bt_at a0 a1;replace a2:=eq_true a2;replace a3:=eq_true a3
         go_wp2
         go_ret
         exact⟨zq15,zq28⟩
        ·rw [if_neg a6] at H;have b5:decide ((bt a0 a1)<48)=false:=decide_eq_false a6;clear a6
         by_cases a7:(bt a0 a1)>57
         ·rw [if_pos a7] at H;have b6:decide (57<(bt a0 a1))=true:=decide_eq_true a7;clear a7;obtain rfl:=Option.some.inj H;have a2:0≤(a1:Int):=zqo;have a3:a1<(a0.size:Int):=zqo;have b4:=bt_at a0 a1;replace a2:=eq_true a2;replace a3:=eq_true a3;have a9:0≤(a1:Int):=zqo;have b0:a1<(a0.size:Int):=zqo;have d0:=bt_at a0 a1;replace a9:=eq_true a9;replace b0:=eq_true b0
          go_wp2
          go_ret
          exact⟨zq15,zq28⟩
         ·rw [if_neg a7] at H;have b6:decide (57<(bt a0 a1))=false:=decide_eq_false a7;clear a7;have H':=zqm H;clear H;have a2:0≤(a1:Int):=zqo;have a3:a1<(a0.size:Int):=zqo;have b4:=bt_at a0 a1;replace a2:=eq_true a2;replace a3:=eq_true a3;have a9:0≤(a1:Int):=zqo;have b0:a1<(a0.size:Int):=zqo;have d0:=bt_at a0 a1;replace a9:=eq_true a9;replace b0:=eq_true b0;have c1:0≤(a1:Int):=zqo;have c2:a1<(a0.size:Int):=zqo;have d5:=bt_at a0 a1;replace c1:=eq_true c1;replace c2:=eq_true c2
          go_wp2
          go_roundg k2
          (case measure=>have:=b8.out;have:=b9.out;omega);case rel=>exact⟨(wrap64 ((wrap64 (10*a8))+(((bt a0 a1) - 48) % 256))),(wrap64 (a1+1)),zq15,zq15,H',⟨by have:=b8.out;have:=b9.out;omega⟩,zq28⟩
       ·rw [if_neg b2] at H;exact absurd H (by simp)
      ·rw [if_neg c9] at H;have c7:decide (a1<(a0.size:Int))=false:=decide_eq_false c9;clear c9;obtain rfl:=Option.some.inj H
       go_wp2
       go_ret
       exact⟨zq15,zq28⟩
end Go.Proofs.YtddgcdpogpppgaaDoor.Print
end
section
namespace Go.Proofs.YtddgcdpogpppgaaDoor.Print
open Go.RowKit Go.Proofs.YtddgcdpogpppgaaDoorW.PrintWords Go.Proofs.YtddgcdpogpppgaaDoorW.PrintLast Go.Proofs.YtddgcdpogpppgaaDoorW.PrintMore
open Oml
theorem num_pos (n : Nat) : 0 < (numL n).length := by unfold numL; split <;> simp
theorem digits_tab : ∀ n : Fin 100, spec_l1Digits.f 5 (numT n.1) = some (n.1 : Int) := by decide +kernel
theorem digits_ev {n : Nat} (h : n < 100) : Ev (fun k => spec_l1Digits.f k (numT n)) (n : Int) := Ev.of (spec_l1Digits.mono _) (digits_tab ⟨n, h⟩)
end Go.Proofs.YtddgcdpogpppgaaDoor.Print
end
section
namespace Go.Proofs.YtddgcdpogpppgaaDoor.Print
open Go.RowKit Go.Proofs.YtddgcdpogpppgaaDoorW.PrintWords Go.Proofs.YtddgcdpogpppgaaDoorW.PrintLast Go.Proofs.YtddgcdpogpppgaaDoorW.PrintMore
def spec_l1Cut.l0 : Nat → ByteArray → Int → List ByteArray → Int → Int → Option (List ByteArray)
 | 0, _, _, _, _, _ => none
 | k + 1, x0, x1, x5, x6, x7 => if x7 < (x0.size : Int) then (if 0 ≤ x7 then (if (bt x0 x7) = x1 then (if 0 ≤ x6 then (if x6 ≤ x7 then (if x7 ≤ (x0.size : Int) then (if x5.length < 8796093022208 then (spec_l1Cut.l0 k x0 x1 (x5 ++ [x0.extract (x6 : Int).toNat (x7 : Int).toNat]) (wrap64 (x7 + 1)) (wrap64 (x7 + 1))) else (none)) else (none)) else (none)) else (none)) else (spec_l1Cut.l0 k x0 x1 x5 x6 (wrap64 (x7 + 1)))) else (none)) else (if 0 ≤ x6 then (if x6 ≤ (x0.size : Int) then (if x5.length < 8796093022208 then (some (x5 ++ [x0.extract (x6 : Int).toNat x0.size])) else (none)) else (none)) else (none))
def spec_l1Cut.f (k : Nat) (a0 : ByteArray) (a1 : Int) : Option (List ByteArray) := spec_l1Cut.l0 k a0 a1 (([] : List ByteArray)) 0 0
set_option maxHeartbeats 8000000 in
set_option maxRecDepth 100000 in
theorem spec_l1Cut.calls (k : Nat) (a0 : ByteArray) (a1 : Int) (r : List ByteArray) (w : World) (h : spec_l1Cut.f k a0 a1 = some r) :
  Calls Tryd.prog 34 #[.string a0, .int .u8 a1] w fun e w' => ∃ v0_ : Value, e = .returned (v0_) ∧ Kd.R Kd.string 9 w' w.heap.size (fun _ => True) v0_ r ∧ Below w.heap.size w w' := by
 have HB:=zqm (Below.refl w.heap.size w);have H:(spec_l1Cut.l0 k a0 a1 (([]:List ByteArray)) 0 0)=some r:=h;clear h;obtain⟨b7,a5⟩: ∃y_:List ByteArray,y_=(([]:List ByteArray)):=⟨_,rfl⟩;replace H:(spec_l1Cut.l0 k a0 a1 b7 0 0)=some r:=zqy a5 H;have b4:=zqm a5;clear a5;have H':=zqm H;clear H
 go_enter Tryd.func34,Tryd.ntmps34
 go_wp2_with (first|((with_reducible refine gate_dst (N:=8) rfl ?_);refine Kd.R_lit Kd.string _ 9 ?hg (N:=8) ?hd (xs:=([]:List ByteArray)) (inner:= []) (ok:=fun _=>True) (okp:=fun _=>True) ?hr ?hp (fun _ hk=>hk) trivial (Below.refl _ _) (Nat.le_refl _) (by simp) ?_;(case hd=>rfl);(case hg=>rfl);(case hr=> exact zq18);(case hp=>exact(Reps.none _ _));intro e4 w3 b2 hb hg_ hnew_;clear hg_ hnew_;(first|rw [← b4.out] at b2|(simp only [Int.reduceToNat] at b2;rw [← b4.out] at b2));have b9:=zqm (Kd.R_lower b2 (below_size zq5));replace HB:=zqm (below_step zq5 hb);clear hb b2))
 go_loopg [5,6,7] k (fun kq v5 v6 v7 w'=> ∃(a4:List ByteArray) (a3:Int) (a2:Int),v6= .int .i64 a3∧v7= .int .i64 a2∧Aside0 (spec_l1Cut.l0 kq a0 a1 a4 a3 a2=some r)∧Aside0 (kq≤k)∧Aside0 (Kd.R Kd.string 9 w' w.heap.size (fun _=>True) v5 a4)∧Aside0 (Below w.heap.size w w'))
 case atStart=>exact⟨(b7),(0),(0),zq15,zq15,H',⟨Nat.le_refl _⟩,⟨zqfR b9.out⟩,⟨zq5⟩⟩
 case round=>
  clear H';obtain⟨a4,a3,a2,rfl,rfl,HA,b3,HO_5,HB⟩:=hrel
  cases gk with
  |zero=>exact absurd HA.out (by simp [spec_l1Cut.l0])
  |succ k1=>
   have H:=HA.out;clear HA;simp only [spec_l1Cut.l0] at H
   by_cases c5:a2<(a0.size:Int)
   ·rw [if_pos c5] at H;have c4:decide (a2<(a0.size:Int))=true:=decide_eq_true c5;clear c5
    by_cases c6:0≤a2
    ·rw [if_pos c6] at H;have e1:decide (0≤a2)=true:=decide_eq_true c6;clear c6
     by_cases c8:(bt a0 a2)=a1
     ·rw [if_pos c8] at H;have c7:((bt a0 a2)==a1)=true:=beq_iff_eq.mpr c8;have d0:((bt a0 a2) !=a1)=false:=bne_eq_false_iff_eq.mpr c8;clear c8
      by_cases c9:0≤a3
      ·rw [if_pos c9] at H;have e2:=eq_true c9;have e3:decide (0≤a3)=true:=decide_eq_true c9;clear c9
       by_cases a8:a3≤a2
       ·rw [if_pos a8] at H;have d3:=eq_true a8;have d4:decide (a3≤a2)=true:=decide_eq_true a8;clear a8
        by_cases a9:a2≤(a0.size:Int)
        ·rw [if_pos a9] at H;have d5:=eq_true a9;have d6:decide (a2≤(a0.size:Int))=true:=decide_eq_true a9;clear a9
         by_cases b5:a4.length<8796093022208
         ·rw [if_pos b5] at H;have LMc12:=zqm b5;clear b5;obtain⟨b8,a6⟩: ∃y_:List ByteArray,y_=(a4 ++ [a0.extract (a3:Int).toNat (a2:Int).toNat]):=⟨_,rfl⟩;replace H:(spec_l1Cut.l0 k1 a0 a1 b8 (wrap64 (a2+1)) (wrap64 (a2+1)))=some r:=zqy a6 H;have c2:=zqm a6;clear a6;have H':=zqm H;clear H;have p7:0≤(a2:Int):=zqo;have q7:a2<(a0.size:Int):=zqo;have d2:=bt_at a0 a2;replace p7:=eq_true p7;replace q7:=eq_true q7
          go_wp2_with (first|((with_reducible refine gate_builtin (b:= .append) (xs:= #[.tmp 20,.tmp 25]) rfl ?_);at_builtin;refine Kd.R_append Kd.string (w0:=w) w.heap.size rfl (.tmp 20) (.tmp 25) 50 9 (.string ⟨#[]⟩) 16 rfl Tryd.underlying50 info9 rfl (by decide) (by omega) u5 a4 (a0.extract (a3:Int).toNat (a2:Int).toNat) [.string (a0.extract (a3:Int).toNat (a2:Int).toNat)] (fun _=>True) (fun _=>False) rfl rfl ?aP (fun _ hk=>hk.elim) ?aF ?aO ?aB ?aS ?aL ?_;(case aP=>exact rfl);(case aB=> exact zq52);(case aF=>exact(fun _ _=>trivial));(case aO=>exact(zqfR HO_5.out));(case aS=> exact zq50);(case aL=>have:=LMc12.out;omega);intro e5 e7 ho hb hg hat;rw [← c2.out] at ho;replace HB:=zqm (hb);have c0:=zqm (ho);clear HO_5;clear ho hb hg hat))
          go_roundg k1
          (case measure=>have:=b3.out;omega);case rel=>exact⟨(b8),(wrap64 (a2+1)),(wrap64 (a2+1)),zq15,zq15,H',⟨by have:=b3.out;omega⟩,⟨zqfR c0.out⟩,⟨zq5⟩⟩
         ·rw [if_neg b5] at H;exact absurd H (by simp)
        ·rw [if_neg a9] at H;exact absurd H (by simp)
       ·rw [if_neg a8] at H;exact absurd H (by simp)
      ·rw [if_neg c9] at H;exact absurd H (by simp)
     ·rw [if_neg c8] at H;have c7:((bt a0 a2)==a1)=false:=beq_eq_false_iff_ne.mpr c8;have d0:((bt a0 a2) !=a1)=true:=bne_iff_ne.mpr c8;have H':=zqm H;clear H;have p7:0≤(a2:Int):=zqo;have q7:a2<(a0.size:Int):=zqo;have d2:=bt_at a0 a2;replace p7:=eq_true p7;replace q7:=eq_true q7
      go_wp2
      go_roundg k1
      (case measure=>have:=b3.out;omega);case rel=>exact⟨(a4),(a3),(wrap64 (a2+1)),zq15,zq15,H',⟨by have:=b3.out;omega⟩,⟨zqfR HO_5.out⟩,⟨zq5⟩⟩
    ·rw [if_neg c6] at H;exact absurd H (by simp)
   ·rw [if_neg c5] at H;have c4:decide (a2<(a0.size:Int))=false:=decide_eq_false c5;clear c5
    by_cases b0:0≤a3
    ·rw [if_pos b0] at H;have d7:=eq_true b0;have d8:decide (0≤a3)=true:=decide_eq_true b0;clear b0
     by_cases b1:a3≤(a0.size:Int)
     ·rw [if_pos b1] at H;have d9:=eq_true b1;have e0:decide (a3≤(a0.size:Int))=true:=decide_eq_true b1;clear b1
      by_cases b6:a4.length<8796093022208
      ·rw [if_pos b6] at H;have LMc16:=zqm b6;clear b6;obtain⟨d1,a7⟩: ∃y_:List ByteArray,y_=(a4 ++ [a0.extract (a3:Int).toNat a0.size]):=⟨_,rfl⟩;replace H:(some d1)=some r:=zqy a7 H;have c3:=zqm a7;clear a7;obtain rfl:=Option.some.inj H
       go_wp2_with (first|((with_reducible refine gate_builtin (b:= .append) (xs:= #[.tmp 29,.tmp 33]) rfl ?_);at_builtin;refine Kd.R_append Kd.string (w0:=w) w.heap.size rfl (.tmp 29) (.tmp 33) 50 9 (.string ⟨#[]⟩) 16 rfl Tryd.underlying50 info9 rfl (by decide) (by omega) u5 a4 (a0.extract (a3:Int).toNat a0.size) [.string (a0.extract (a3:Int).toNat a0.size)] (fun _=>True) (fun _=>False) rfl rfl ?aP (fun _ hk=>hk.elim) ?aF ?aO ?aB ?aS ?aL ?_;(case aP=>exact rfl);(case aB=> exact zq52);(case aF=>exact(fun _ _=>trivial));(case aO=>exact(zqfR HO_5.out));(case aS=> exact zq50);(case aL=>have:=LMc16.out;omega);intro e6 e8 ho hb hg hat;rw [← c3.out] at ho;replace HB:=zqm (hb);have c1:=zqm (ho);clear HO_5;clear ho hb hg hat))
       go_ret
       exact⟨_,zq23,zqfR c1.out,zq5⟩
      ·rw [if_neg b6] at H;exact absurd H (by simp)
     ·rw [if_neg b1] at H;exact absurd H (by simp)
    ·rw [if_neg b0] at H;exact absurd H (by simp)
mutual
def spec_ReadDeed.j0 : Nat → ByteArray → List ByteArray → List (S25) → Option (Int × Int × Int × Bool)
 | 0, _, _, _ => none
 | k + 1, x0, x4, x5 => if (x4.length : Int) = 3 then (if 1 < (x4.length : Int) then ((spec_l1Digits.f k (rdOf ByteArray.empty x4 1)).bind fun t205 => (if 2 < (x4.length : Int) then ((spec_l1Digits.f k (rdOf ByteArray.empty x4 2)).bind fun t207 => (if x5.length < 5864062014805 then (spec_ReadDeed.j1 k x0 (x5 ++ [(⟨3, t205, t207⟩ : S25)])) else (none))) else (none))) else (none)) else (spec_ReadDeed.j1 k x0 x5)
def spec_ReadDeed.j1 : Nat → ByteArray → List (S25) → Option (Int × Int × Int × Bool)
 | 0, _, _ => none
 | k + 1, x0, x5 => spec_ReadDeed.l0 k x0 x5 0
def spec_ReadDeed.l0 : Nat → ByteArray → List (S25) → Int → Option (Int × Int × Int × Bool)
 | 0, _, _, _ => none
 | k + 1, x0, x5, x6 => if x6 < (x5.length : Int) then (if x0.toList = ([] : List UInt8) then (spec_ReadDeed.l0 k x0 x5 (wrap64 (x6 + 1))) else (if 0 ≤ x6 then ((spec_DeedText.f k ((rd_T25 x5 x6).f0) ((rd_T25 x5 x6).f1) ((rd_T25 x5 x6).f2)).bind fun t212 => (if t212.toList = x0.toList then (some ((rd_T25 x5 x6).f0, (rd_T25 x5 x6).f1, (rd_T25 x5 x6).f2, true)) else (spec_ReadDeed.l0 k x0 x5 (wrap64 (x6 + 1))))) else (none))) else (some (0, 0, 0, false))
end
def spec_ReadDeed.f (k : Nat) (a0 : ByteArray) : Option (Int × Int × Int × Bool) := (spec_l1Cut.f k a0 32).bind fun t188 => ((some (([(⟨2, 0, 0⟩ : S25), (⟨4, 0, 0⟩ : S25)] : List (S25)) : List (S25))).bind fun y191 => (if (t188.length : Int) = 2 then (if 1 < (t188.length : Int) then ((spec_l1Digits.f k (rdOf ByteArray.empty t188 1)).bind fun t195 => ((spec_l1Digits.f k (rdOf ByteArray.empty t188 1)).bind fun t197 => ((some (([(⟨0, t195, 0⟩ : S25), (⟨1, t197, 0⟩ : S25)] : List (S25)) : List (S25))).bind fun y198 => (if y191.length + y198.length < 5864062014805 then (spec_ReadDeed.j0 k a0 t188 (y191 ++ y198)) else (none))))) else (none)) else (spec_ReadDeed.j0 k a0 t188 y191)))
def spec_ReadDeed.T4 : Bool × List (List Nat × List Nat) := (true, [([], []), ([], []), ([1], [1]), ([2], [2]), ([3], [3]), ([4], [4]), ([], []), ([6], [6]), ([7], [7]), ([8, 4], [8]), ([9], [9]), ([5, 10], [5, 10]), ([0, 11, 9], [0, 11]), ([12, 12, 0, 1, 2, 3, 4, 5, 6, 7, 8, 9, 10, 11, 12], [0, 12])])
def spec_ReadDeed.B4 : List Nat := [0, 0, 2, 6, 14, 30, 0, 64, 192, 478, 990, 2046, 4095, 8191]
theorem spec_ReadDeed.tab4 : rtab .any (opsOf Tryd.f18 4) = spec_ReadDeed.T4 := by kernel_rfl
theorem spec_ReadDeed.bits4 : waitsOk spec_ReadDeed.T4.2 spec_ReadDeed.B4 = true := by kernel_rfl
def spec_ReadDeed.T6 : Bool × List (List Nat × List Nat) := (true, [([], []), ([], []), ([1], [1]), ([2], [2]), ([3], [3]), ([], []), ([5], [5]), ([6], [6]), ([7, 4], [7]), ([4, 8], [4, 8]), ([9], [9]), ([0, 10, 8], [0, 10]), ([11, 11, 0, 1, 2, 3, 4, 5, 6, 7, 8, 9, 10, 11], [0, 11])])
def spec_ReadDeed.B6 : List Nat := [0, 0, 2, 6, 14, 0, 32, 96, 254, 510, 1022, 2047, 4095]
theorem spec_ReadDeed.tab6 : rtab .any (opsOf Tryd.f18 6) = spec_ReadDeed.T6 := by kernel_rfl
theorem spec_ReadDeed.bits6 : waitsOk spec_ReadDeed.T6.2 spec_ReadDeed.B6 = true := by kernel_rfl
set_option maxHeartbeats 8000000 in
set_option maxRecDepth 100000 in
theorem spec_ReadDeed.calls (k : Nat) (a0 : ByteArray) (r1 : Int) (r2 : Int) (r3 : Int) (r4 : Bool) (w : World) (h : spec_ReadDeed.f k a0 = some (r1, r2, r3, r4)) :
  Calls Tryd.prog 18 #[.string a0] w fun e w' => e = .returned (.tuple #[.agg #[.int .i64 r1, .int .i64 r2, .int .i64 r3], .bool r4]) ∧ Below w.heap.size w w' := by
 have hu25:=Tryd.underlying25;have HB:=zqm (Below.refl w.heap.size w);have H:((spec_l1Cut.f k a0 32).bind fun a1=>((some (([(⟨2,0,0⟩:S25),(⟨4,0,0⟩:S25)]:List (S25)):List (S25))).bind fun b0=>(if(a1.length:Int)=2 then(if 1<(a1.length:Int) then((spec_l1Digits.f k (rdOf ByteArray.empty a1 1)).bind fun b5=>((spec_l1Digits.f k (rdOf ByteArray.empty a1 1)).bind fun b3=>((some (([(⟨0,b5,0⟩:S25),(⟨1,b3,0⟩:S25)]:List (S25)):List (S25))).bind fun b1=>(if b0.length+b1.length<5864062014805 then(spec_ReadDeed.j0 k a0 a1 (b0 ++ b1)) else(none))))) else(none)) else(spec_ReadDeed.j0 k a0 a1 b0))))=some (r1,r2,r3,r4):=h;clear h;replace H:=Option.bind_eq_some_iff.mp H;obtain⟨a1,l1,H⟩:=H;replace H:((some (([(⟨2,0,0⟩:S25),(⟨4,0,0⟩:S25)]:List (S25)):List (S25))).bind fun b0=>(if(a1.length:Int)=2 then(if 1<(a1.length:Int) then((spec_l1Digits.f k (rdOf ByteArray.empty a1 1)).bind fun b5=>((spec_l1Digits.f k (rdOf ByteArray.empty a1 1)).bind fun b3=>((some (([(⟨0,b5,0⟩:S25),(⟨1,b3,0⟩:S25)]:List (S25)):List (S25))).bind fun b1=>(if b0.length+b1.length<5864062014805 then(spec_ReadDeed.j0 k a0 a1 (b0 ++ b1)) else(none))))) else(none)) else(spec_ReadDeed.j0 k a0 a1 b0)))=some (r1,r2,r3,r4):=H;have A2:=zqm l1;clear l1;obtain⟨b0,g3⟩: ∃y_:List (S25),y_=(([(⟨2,0,0⟩:S25),(⟨4,0,0⟩:S25)]:List (S25))):=⟨_,rfl⟩;replace H:(if(a1.length:Int)=2 then(if 1<(a1.length:Int) then((spec_l1Digits.f k (rdOf ByteArray.empty a1 1)).bind fun b5=>((spec_l1Digits.f k (rdOf ByteArray.empty a1 1)).bind fun b3=>((some (([(⟨0,b5,0⟩:S25),(⟨1,b3,0⟩:S25)]:List (S25)):List (S25))).bind fun b1=>(if b0.length+b1.length<5864062014805 then(spec_ReadDeed.j0 k a0 a1 (b0 ++ b1)) else(none))))) else(none)) else(spec_ReadDeed.j0 k a0 a1 b0))=some (r1,r2,r3,r4):=zqy g3 H;have h3:=zqm g3;clear g3;have i9:=zqm H;clear H
 go_enter Tryd.func18,Tryd.ntmps18
 go_upto_if 14 with (first|((with_reducible refine gate_dst (N:=2) rfl ?_);refine box_event ?hg (N:=2) ?hd (cs:= #[.int .i64 0,.int .i64 0,.int .i64 0]) (t:=25) ?hr ?_;(case hd=>rfl);(case hg=>rfl);(case hr=> exact zq18);intro a3 hg w4 hbox hb;have l8:=zqm (below_step zq5 hb);have a2:=zqm (hbox);have r8:=zqm ((by rw [hg];exact(below_size zq5):w.heap.size≤a3));have a8:=zqm ((by rw [hg];exact(below_size zq5):w.heap.size≤a3));clear HB;have HB:=l8;clear l8 hb hbox hg)|((with_reducible refine gate_callee (f:=34) rfl ?_);refine goesL_ (some 8) rfl rfl Tryd.func34 zqk rfl #[.string a0,.int .u8 32] rfl zq2 ?_;(with_reducible refine(spec_l1Cut.calls k a0 32 a1 _ A2.out).mono ?_);rintro e w5 ⟨t2,rfl,l6,hb⟩;refine⟨_,rfl,?_⟩;have b2:=zqm (Kd.R_lower l6 (below_size zq22));replace a2:=zqm (blk_below (g:=a3) (o:= .cells #[.int .i64 0,.int .i64 0,.int .i64 0] 25 (0,0)) (zqe a2.out) hb);replace HB:=zqm (below_step zq22 hb);clear hb l6)|((with_reducible refine gate_dst (N:=11) rfl ?_);refine Kd.R_lit k25 _ 25 ?hg (N:=11) ?hd (xs:=([(⟨2,0,0⟩:S25),(⟨4,0,0⟩:S25)]:List (S25))) (inner:= [.int .i64 2,.int .i64 0,.int .i64 0,.int .i64 4,.int .i64 0,.int .i64 0]) (ok:=fun _=>True) (okp:=fun _=>True) ?hr ?hp (fun _ hk=>hk) trivial (Below.refl _ _) (Nat.le_refl _) (by simp) ?_;(case hd=>rfl);(case hg=>rfl);(case hr=> exact zq18);(case hp=>exact(Reps.c3 (show Kd.M k25 _ _ _ (⟨2,0,0⟩:S25) [.int .i64 2,.int .i64 0,.int .i64 0] from (k25_mkM _ _ _ (⟨2,0,0⟩:S25))) (Reps.c3 (show Kd.M k25 _ _ _ (⟨4,0,0⟩:S25) [.int .i64 4,.int .i64 0,.int .i64 0] from (k25_mkM _ _ _ (⟨4,0,0⟩:S25))) (Reps.none _ _))));intro o2 w6 g7 hb hg_ hnew_;clear hg_ hnew_;(first|rw [← h3.out] at g7|(simp only [Int.reduceToNat] at g7;rw [← h3.out] at g7));replace b2:=zqm (Kd.R_below (zqfR b2.out) hb);have b4:=zqm (Kd.R_lower (Kd.R_newB g7 (g:=a3) (o:= .cells #[.int .i64 0,.int .i64 0,.int .i64 0] 25 (0,0)) (zqe a2.out)) (below_size zq22));replace a2:=zqm (blk_below (g:=a3) (o:= .cells #[.int .i64 0,.int .i64 0,.int .i64 0] 25 (0,0)) (zqe a2.out) hb);replace HB:=zqm (below_step zq22 hb);clear hb g7;obtain⟨q6,q7,q8⟩:=Kd.R_slice b2.out;subst q8))
 (try simp only [Act.put,List.setIfInBounds_toArray,List.set_cons_zero,List.set_cons_succ])
 go_cut [5] (fun v5 wc=> ∃(kq:Nat) (c0:List (S25)),Aside0 (spec_ReadDeed.j0 kq a0 a1 c0=some (r1,r2,r3,r4))∧Aside0 (kq≤k)∧Aside0 (Kd.R Kd.string 9 wc w.heap.size (fun _=>True) (.slice q6 a1.length q7) a1)∧Aside0 (Kd.R k25 25 wc w.heap.size (fun k_=>k_≠a3) v5 c0)∧Aside0 (wc.heap[a3]? =some (.cells #[.int .i64 0,.int .i64 0,.int .i64 0] 25 (0,0)))∧Aside0 (Below w.heap.size w wc))
 case first=>
  have H:=i9.out;clear i9
  by_cases c9:(a1.length:Int)=2
  ·rw [if_pos c9] at H;have c5:((a1.length:Int)==2)=true:=beq_iff_eq.mpr c9;have g2:((a1.length:Int) !=2)=false:=bne_eq_false_iff_eq.mpr c9;clear c9;(first|rw [c5]|(simp only [i64_w,i32_w];rw [c5])|skip)
   by_cases e1:1<(a1.length:Int)
   ·rw [if_pos e1] at H;have f9:decide (1<(a1.length:Int))=true:=decide_eq_true e1;have g0:decide (1<a1.length)=true:=decide_eq_true (by omega);clear e1;replace H:=Option.bind_eq_some_iff.mp H;obtain⟨b5,i4,H⟩:=H;replace H:((spec_l1Digits.f k (rdOf ByteArray.empty a1 1)).bind fun b3=>((some (([(⟨0,b5,0⟩:S25),(⟨1,b3,0⟩:S25)]:List (S25)):List (S25))).bind fun b1=>(if b0.length+b1.length<5864062014805 then(spec_ReadDeed.j0 k a0 a1 (b0 ++ b1)) else(none))))=some (r1,r2,r3,r4):=H;have q0:=zqm i4;clear i4;replace H:=Option.bind_eq_some_iff.mp H;obtain⟨b3,i5,H⟩:=H;replace H:((some (([(⟨0,b5,0⟩:S25),(⟨1,b3,0⟩:S25)]:List (S25)):List (S25))).bind fun b1=>(if b0.length+b1.length<5864062014805 then(spec_ReadDeed.j0 k a0 a1 (b0 ++ b1)) else(none)))=some (r1,r2,r3,r4):=H;have q3:=zqm i5;clear i5;obtain⟨b1,g4⟩: ∃y_:List (S25),y_=(([(⟨0,b5,0⟩:S25),(⟨1,b3,0⟩:S25)]:List (S25))):=⟨_,rfl⟩;replace H:(if b0.length+b1.length<5864062014805 then(spec_ReadDeed.j0 k a0 a1 (b0 ++ b1)) else(none))=some (r1,r2,r3,r4):=zqy g4 H;have h4:=zqm g4;clear g4
    by_cases e2:b0.length+b1.length<5864062014805
    ·rw [if_pos e2] at H;have LMc13:=zqm e2;clear e2;obtain⟨j5,g5⟩: ∃y_:List (S25),y_=(b0 ++ b1):=⟨_,rfl⟩;replace H:(spec_ReadDeed.j0 k a0 a1 j5)=some (r1,r2,r3,r4):=zqy g5 H;have j9:=zqm g5;clear g5;have H':=zqm H;clear H;(try go_wp2);replace b2:=zqm (Kd.R_drew b2.out);replace b4:=zqm (Kd.R_drew b4.out);replace a2:=zqm (blk_drew a2.out);replace HB:=zqm (below_drew1 HB.out);have d7:0≤(1:Int):=(by omega);have d9:1<(a1.length:Int):=zqo;obtain⟨d3,m9,b6⟩:=Kd.at_string (Kd.R_reads' b2.out).2.2 1 d7 d9
     cases m9
     (try simp only [show (1:Int).toNat=1 from rfl,Nat.reduceMul,Nat.reduceEqDiff,Go.Addr.add,↓reduceIte] at b6);have s0:(1<a1.length)=True:=eq_true (by omega);(try rw [show ((1:Int)).toNat=1 from rfl] at b6);replace d7:=eq_true d7;replace d9:=eq_true d9;have d8:0≤(1:Int):=(by omega);have e0:1<(a1.length:Int):=zqo;obtain⟨k1,n0,b7⟩:=Kd.at_string (Kd.R_reads' b2.out).2.2 1 d8 e0;obtain rfl:d3=k1:=(by injection n0);(try simp only [show (1:Int).toNat=1 from rfl,Nat.reduceMul,Nat.reduceEqDiff,Go.Addr.add,↓reduceIte] at b7);have s1:(1<a1.length)=True:=eq_true (by omega);(try rw [show ((1:Int)).toNat=1 from rfl] at b7);replace d8:=eq_true d8;replace e0:=eq_true e0;refine start_ (n:=14) (S:=fun w'=>w'.cell? ⟨d3.block,d3.off+1,none⟩=some (.string (rdOf ByteArray.empty a1 1))∧w'.cell? ⟨d3.block,d3.off+1,none⟩=some (.string (rdOf ByteArray.empty a1 1))) (ds:= [12]) (zqb 14 0) zqk rfl rfl ⟨b6,b7⟩ (fun hHeld=>?_);refine with_tabW spec_ReadDeed.tab4 spec_ReadDeed.bits4 (fun HT_ HW_=>?_);generalize w6.drew=t6 at b2 b4 a2 HB b6 b7 hHeld ⊢;refine zqp 0 15 (zqb 14 1) HT_ ?_;refine zqp 1 16 (zqb 14 3) HT_ ?_;refine zqp 2 17 (zqb 14 7) HT_ ?_;refine zqp 6 21 (zqb 14 71) HT_ ?_;refine zqp 7 22 (zqb 14 199) HT_ ?_;refine zqw 3 18 (zqb 14 207) HT_ HW_ hHeld ?_;refine zqw 8 23 (zqb 14 463) HT_ HW_ hHeld ?_;refine one_ (i:=4) (N:=some 19) (zqb 14 479) rfl rfl (one_of HT_.out zqk) (by decide) (fun K hK=>?_);refine goes_ Tryd.func35 zqk rfl #[.string (rdOf ByteArray.empty a1 1)] (by rfl) rfl rfl zq2 ?_;(with_reducible refine(spec_l1Digits.calls k (rdOf ByteArray.empty a1 1) b5 _ q0.out).mono ?_);rintro e w' ⟨rfl,⟨nd,rfl⟩⟩;refine⟨_,rfl,?_⟩;refine hK.out _ _ ⟨hHeld.1,hHeld.2⟩ (fun hHeld=>?_);clear hK K;refine norm_ (a':=?_) ?_ ?_;rotate_left
     ·show Act.put _ (some 19) _=_;exact zqs
     refine zqp 5 20 (zqb 14 511) HT_ ?_;refine one_ (i:=9) (N:=some 24) (zqb 14 1023) rfl rfl (one_of HT_.out zqk) (by decide) (fun K hK=>?_);refine goes_ Tryd.func35 zqk rfl #[.string (rdOf ByteArray.empty a1 1)] (by rfl) rfl rfl zq2 ?_;(with_reducible refine(spec_l1Digits.calls k (rdOf ByteArray.empty a1 1) b3 _ q3.out).mono ?_);rintro e w' ⟨rfl,⟨nd,rfl⟩⟩;refine⟨_,rfl,?_⟩;refine hK.out _ _ ⟨hHeld.1,hHeld.2⟩ (fun hHeld=>?_);clear hK K;refine norm_ (a':=?_) ?_ ?_;rotate_left
     ·show Act.put _ (some 24) _=_;exact zqs
     refine zqp 10 25 (zqb 14 2047) HT_ ?_;refine one_ (i:=11) (N:=some 26) (zqb 14 4095) rfl rfl (one_of HT_.out zqk) (by decide) (fun K hK=>?_);refine Kd.R_lit_step k25 _ 25 ?hg (N:=26) ?hd (xs:=([(⟨0,b5,0⟩:S25),(⟨1,b3,0⟩:S25)]:List (S25))) (inner:= [.int .i64 0,.int .i64 b5,.int .i64 0,.int .i64 1,.int .i64 b3,.int .i64 0]) (ok:=fun _=>True) (okp:=fun _=>True) ?hr ?hp (fun _ hk=>hk) trivial (Below.refl _ _) (Nat.le_refl _) (by simp) ?_;(case hd=>rfl);(case hg=>rfl);(case hr=> exact zq18);(case hp=>exact(Reps.c3 (show Kd.M k25 _ _ _ (⟨0,b5,0⟩:S25) [.int .i64 0,.int .i64 b5,.int .i64 0] from (k25_mkM _ _ _ (⟨0,b5,0⟩:S25))) (Reps.c3 (show Kd.M k25 _ _ _ (⟨1,b3,0⟩:S25) [.int .i64 1,.int .i64 b3,.int .i64 0] from (k25_mkM _ _ _ (⟨1,b3,0⟩:S25))) (Reps.none _ _))));intro t3 t7 d6 hb hg_ hnew_;have m6:=(hb.cell (World.block_lt_of_cell? _ _ (hHeld.1))).trans (hHeld.1);have m7:=(hb.cell (World.block_lt_of_cell? _ _ (hHeld.2))).trans (hHeld.2);clear hg_ hnew_;(first|rw [← h4.out] at d6|(simp only [Int.reduceToNat] at d6;rw [← h4.out] at d6));replace b2:=zqm (Kd.R_below (zqfR b2.out) hb);have l9:=zqm (Kd.R_elder' (zqfR b4.out) (Kd.R_base d6) hb);have d2:=zqm (Kd.R_lower (Kd.R_newB (Kd.R_new' d6 (Kd.R_lt (zqfR b4.out))) (g:=a3) (o:= .cells #[.int .i64 0,.int .i64 0,.int .i64 0] 25 (0,0)) (zqe a2.out)) (below_size zq22));replace a2:=zqm (blk_below (g:=a3) (o:= .cells #[.int .i64 0,.int .i64 0,.int .i64 0] 25 (0,0)) (zqe a2.out) hb);replace HB:=zqm (below_step zq22 hb);clear b4;have b4:=l9;clear l9 hb d6;obtain⟨m5,m8,j2⟩:=Kd.R_slice d2.out;(first|subst j2|(injection j2 with l4 q9 l5;have r0:=l4.symm;have r5:=l5.symm;clear l4 q9 l5;subst r0;subst r5));refine hK.out _ _ ⟨m6,m7⟩ (fun hHeld=>?_);clear hK K;refine norm_ (a':=?_) ?_ ?_;rotate_left
     ·show Act.put _ (some 26) _=_;exact zqs
     refine last_ (i:=12) (N:=some 27) (zqb 14 8191) rfl rfl (one_of HT_.out zqk) (by decide) (fun K hK=>?_);refine Kd.R_append_rows_step k25 (w0:=w) w.heap.size (by rfl) (.tmp 15) (.tmp 26) 31 25 (.agg #[(.int .i64 0),(.int .i64 0),(.int .i64 0)]) 24 rfl Tryd.underlying31 info25 rfl (by decide) (by omega) o2 b0 b1 _ _ _ (fun k_=>some k_≠(.slice m5 b1.length m8:Value).ownBlock∧k_≠a3) (fun _=>False) rfl rfl ?aO ?aR (fun _ _ h=>h) (fun _ h=>h.elim) ?aF ?aB ?aS ?aL ?_;(case aR=> exact zq101);(case aB=> exact zq102);(case aF=>exact(fun k_ hk=>⟨Kd.fresh' (Kd.R_lt (zqfR d2.out)) k_ hk,Kd.freshB (g:=a3) (o:= .cells #[.int .i64 0,.int .i64 0,.int .i64 0] 25 (0,0)) (zqe a2.out) k_ hk⟩));(case aO=>exact(by refine zqfR ?_;exact Kd.R_mono b4.out (fun _ hk=>⟨hk.2,hk.1.2⟩)));(case aS=> exact zq95);(case aL=>have:=LMc13.out;omega);intro t4 t8 ho hb hg hat;rw [← j9.out] at ho;replace a2:=zqm (blk_grown (g:=a3) (o:= .cells #[.int .i64 0,.int .i64 0,.int .i64 0] 25 (0,0)) (zqe a2.out) hg (Kd.R_away b4.out (fun _ hk=>hk.1.2)));replace b2:=zqm (Kd.R_over' (zqfR b2.out) (Kd.R_typed (zqfR b4.out)) (by decide) hg);replace d2:=zqm (Kd.R_after (ok:=(fun k_=>k_≠a3)) (by refine zqfR ?_;exact Kd.R_mono d2.out (fun _ hk=>⟨hk.2,hk.1.2⟩)) hg hat);replace HB:=zqm (hb);have j7:=zqm (ho);clear b4;clear ho hb hg hat;refine hK.out _ _ ?_;clear hK K;refine norm_ (a':=?_) ?_ ?_;rotate_left
     ·show Act.put _ (some 27) _=_;exact zqs
     refine zqp 13 5 (zqb 14 16383) HT_ ?_;refine done_ (done_of HT_.out zqk) ?_;try go_wp2
     go_meet
     case rel=>exact⟨_,(j5),H',⟨zq61⟩,⟨zqfR b2.out⟩,⟨by refine zqfR ?_;exact Kd.R_mono j7.out (fun _ hk=>hk.2)⟩,⟨zqe a2.out⟩,⟨zq22⟩⟩
    ·rw [if_neg e2] at H;exact absurd H (by simp)
   ·rw [if_neg e1] at H;exact absurd H (by simp)
  ·rw [if_neg c9] at H;have c5:((a1.length:Int)==2)=false:=beq_eq_false_iff_ne.mpr c9;have g2:((a1.length:Int) !=2)=true:=bne_iff_ne.mpr c9;(first|rw [c5]|(simp only [i64_w,i32_w];rw [c5])|skip);have H':=zqm H;clear H
   go_wp2
   go_meet
   case rel=>exact⟨_,(b0),H',⟨zq61⟩,⟨zqfR b2.out⟩,⟨by refine zqfR ?_;exact Kd.R_mono b4.out (fun _ hk=>hk.2)⟩,⟨zqe a2.out⟩,⟨zq22⟩⟩
 case rest=>
  clear i9;(try clear c1);(try clear p1);(try clear q1);(try clear l7);(try clear m4);(try clear p2);(try clear c3);(try clear c9);(try clear c5);(try clear g2);(try clear e1);(try clear f9);(try clear g0);(try clear e2);(try clear l3);(try clear b6);(try clear b7);(try clear d7);(try clear d8);(try clear d9);(try clear e0);obtain⟨kq,c0,HA,f3,HO_4,HO_5,a2,HB⟩:=hcut
  cases kq with
  |zero=>exact absurd HA.out (by simp [spec_ReadDeed.j0])
  |succ e5=>
   have H:=HA.out;clear HA;simp only [spec_ReadDeed.j0] at H;have g8:=zqm H;clear H
   go_upto_if 30 with (fail)
   go_cut [5] (fun v5 wc=> ∃(kq:Nat) (a5:List (S25)),Aside0 (spec_ReadDeed.j1 kq a0 a5=some (r1,r2,r3,r4))∧Aside0 (kq≤e5)∧Aside0 (Kd.R k25 25 wc w.heap.size (fun k_=>k_≠a3) v5 a5)∧Aside0 (wc.heap[a3]? =some (.cells #[.int .i64 0,.int .i64 0,.int .i64 0] 25 (0,0)))∧Aside0 (Below w.heap.size w wc))
   case first=>
    have H:=g8.out;clear g8
    by_cases d5:(a1.length:Int)=3
    ·rw [if_pos d5] at H;have c4:((a1.length:Int)==3)=true:=beq_iff_eq.mpr d5;have g1:((a1.length:Int) !=3)=false:=bne_eq_false_iff_eq.mpr d5;clear d5;(first|rw [c4]|(simp only [i64_w,i32_w];rw [c4])|skip)
     by_cases f4:1<(a1.length:Int)
     ·rw [if_pos f4] at H;have h6:decide (1<(a1.length:Int))=true:=decide_eq_true f4;have h7:decide (1<a1.length)=true:=decide_eq_true (by omega);clear f4;replace H:=Option.bind_eq_some_iff.mp H;obtain⟨d1,i6,H⟩:=H;replace H:(if 2<(a1.length:Int) then((spec_l1Digits.f e5 (rdOf ByteArray.empty a1 2)).bind fun c6=>(if c0.length<5864062014805 then(spec_ReadDeed.j1 e5 a0 (c0 ++ [(⟨3,d1,c6⟩:S25)])) else(none))) else(none))=some (r1,r2,r3,r4):=H;have q4:=zqm i6;clear i6
      by_cases f5:2<(a1.length:Int)
      ·rw [if_pos f5] at H;have h8:decide (2<(a1.length:Int))=true:=decide_eq_true f5;have h9:decide (2<a1.length)=true:=decide_eq_true (by omega);clear f5;replace H:=Option.bind_eq_some_iff.mp H;obtain⟨c6,i7,H⟩:=H;replace H:(if c0.length<5864062014805 then(spec_ReadDeed.j1 e5 a0 (c0 ++ [(⟨3,d1,c6⟩:S25)])) else(none))=some (r1,r2,r3,r4):=H;have q5:=zqm i7;clear i7
       by_cases f6:c0.length<5864062014805
       ·rw [if_pos f6] at H;have LMc25:=zqm f6;clear f6;obtain⟨j6,g6⟩: ∃y_:List (S25),y_=(c0 ++ [(⟨3,d1,c6⟩:S25)]):=⟨_,rfl⟩;replace H:(spec_ReadDeed.j1 e5 a0 j6)=some (r1,r2,r3,r4):=zqy g6 H;have k0:=zqm g6;clear g6;have H':=zqm H;clear H;(try go_wp2);replace HO_4:=zqm (Kd.R_drew HO_4.out);replace HO_5:=zqm (Kd.R_drew HO_5.out);replace a2:=zqm (blk_drew a2.out);replace HB:=zqm (below_drew1 HB.out);have e6:0≤(1:Int):=(by omega);have e8:1<(a1.length:Int):=zqo;obtain⟨d4,n1,b8⟩:=Kd.at_string (Kd.R_reads' HO_4.out).2.2 1 e6 e8
        cases n1
        (try simp only [show (1:Int).toNat=1 from rfl,Nat.reduceMul,Nat.reduceEqDiff,Go.Addr.add,↓reduceIte] at b8);have s2:(1<a1.length)=True:=eq_true (by omega);(try rw [show ((1:Int)).toNat=1 from rfl] at b8);replace e6:=eq_true e6;replace e8:=eq_true e8;have e7:0≤(2:Int):=(by omega);have e9:2<(a1.length:Int):=zqo;obtain⟨k2,n2,b9⟩:=Kd.at_string (Kd.R_reads' HO_4.out).2.2 2 e7 e9;obtain rfl:d4=k2:=(by injection n2);(try simp only [show (2:Int).toNat=2 from rfl,Nat.reduceMul,Nat.reduceEqDiff,Go.Addr.add,↓reduceIte] at b9);have s3:(2<a1.length)=True:=eq_true (by omega);(try rw [show ((2:Int)).toNat=2 from rfl] at b9);replace e7:=eq_true e7;replace e9:=eq_true e9;refine start_ (n:=13) (S:=fun w'=>w'.cell? ⟨d4.block,d4.off+1,none⟩=some (.string (rdOf ByteArray.empty a1 1))∧w'.cell? ⟨d4.block,d4.off+2,none⟩=some (.string (rdOf ByteArray.empty a1 2))) (ds:= [10,11]) (zqb 13 0) zqk rfl rfl ⟨b8,b9⟩ (fun hHeld=>?_);refine with_tabW spec_ReadDeed.tab6 spec_ReadDeed.bits6 (fun HT_ HW_=>?_);generalize wc.drew=t9 at HO_4 HO_5 a2 HB b8 b9 hHeld ⊢;refine zqp 0 31 (zqb 13 1) HT_ ?_;refine zqp 1 32 (zqb 13 3) HT_ ?_;refine zqp 2 33 (zqb 13 7) HT_ ?_;refine zqp 5 36 (zqb 13 39) HT_ ?_;refine zqp 6 37 (zqb 13 103) HT_ ?_;refine zqw 3 34 (zqb 13 111) HT_ HW_ hHeld ?_;refine zqw 7 38 (zqb 13 239) HT_ HW_ hHeld ?_;refine one_ (i:=4) (N:=some 35) (zqb 13 255) rfl rfl (one_of HT_.out zqk) (by decide) (fun K hK=>?_);refine goes_ Tryd.func35 zqk rfl #[.string (rdOf ByteArray.empty a1 1)] (by rfl) rfl rfl zq2 ?_;(with_reducible refine(spec_l1Digits.calls e5 (rdOf ByteArray.empty a1 1) d1 _ q4.out).mono ?_);rintro e w' ⟨rfl,⟨nd,rfl⟩⟩;refine⟨_,rfl,?_⟩;refine hK.out _ _ ⟨hHeld.1,hHeld.2⟩ (fun hHeld=>?_);clear hK K;refine norm_ (a':=?_) ?_ ?_;rotate_left
        ·show Act.put _ (some 35) _=_;exact zqs
        refine one_ (i:=8) (N:=some 39) (zqb 13 511) rfl rfl (one_of HT_.out zqk) (by decide) (fun K hK=>?_);refine goes_ Tryd.func35 zqk rfl #[.string (rdOf ByteArray.empty a1 2)] (by rfl) rfl rfl zq2 ?_;(with_reducible refine(spec_l1Digits.calls e5 (rdOf ByteArray.empty a1 2) c6 _ q5.out).mono ?_);rintro e w' ⟨rfl,⟨nd,rfl⟩⟩;refine⟨_,rfl,?_⟩;refine hK.out _ _ ⟨hHeld.1,hHeld.2⟩ (fun hHeld=>?_);clear hK K;refine norm_ (a':=?_) ?_ ?_;rotate_left
        ·show Act.put _ (some 39) _=_;exact zqs
        refine zqp 9 40 (zqb 13 1023) HT_ ?_;refine last_ (i:=10) (N:=some 41) (zqb 13 2047) rfl rfl (one_of HT_.out zqk) (by decide) (fun K hK=>?_);refine value_ (w1:=?_) (v:=?_) (by rfl) rfl ?_ ?_;rotate_left 2
        ·go_simp
         constructor
         ·rfl
         ·rfl
        refine hK.out _ _ ?_;clear hK K;refine norm_ (a':=?_) ?_ ?_;rotate_left
        ·show Act.put _ (some 41) _=_;exact zqs
        refine last_ (i:=11) (N:=some 42) (zqb 13 4095) rfl rfl (one_of HT_.out zqk) (by decide) (fun K hK=>?_);refine Kd.R_append_step k25 (w0:=w) w.heap.size (by rfl) (.tmp 31) (.tmp 41) 31 25 (.agg #[(.int .i64 0),(.int .i64 0),(.int .i64 0)]) 24 rfl Tryd.underlying31 info25 rfl (by decide) (by omega) u5 c0 (⟨3,d1,c6⟩:S25) [.int .i64 3,.int .i64 d1,.int .i64 c6] (fun k_=>k_≠a3) (fun _=>False) rfl rfl ?aP (fun _ hk=>hk.elim) ?aF ?aO ?aB ?aS ?aL ?_;(case aP=>exact k25_mkM _ _ _ (⟨3,d1,c6⟩:S25));(case aB=> exact zq102);(case aF=>exact(fun k_ hk=>Kd.freshB (g:=a3) (o:= .cells #[.int .i64 0,.int .i64 0,.int .i64 0] 25 (0,0)) (zqe a2.out) k_ hk));(case aO=>exact(zqfR HO_5.out));(case aS=> exact zq95);(case aL=>have:=LMc25.out;omega);intro t5 u0 ho hb hg hat;rw [← k0.out] at ho;replace HO_4:=zqm (Kd.R_over' (zqfR HO_4.out) (Kd.R_typed (zqfR HO_5.out)) (by decide) hg);replace a2:=zqm (blk_grown (g:=a3) (o:= .cells #[.int .i64 0,.int .i64 0,.int .i64 0] 25 (0,0)) (zqe a2.out) hg (Kd.R_away HO_5.out (fun _ hk=>hk)));replace HB:=zqm (hb);have j8:=zqm (ho);clear HO_5;clear ho hb hg hat;refine hK.out _ _ ?_;clear hK K;refine norm_ (a':=?_) ?_ ?_;rotate_left
        ·show Act.put _ (some 42) _=_;exact zqs
        refine zqp 12 5 (zqb 13 8191) HT_ ?_;refine done_ (done_of HT_.out zqk) ?_;try go_wp2
        go_meet
        case rel=>exact⟨_,(j6),H',⟨by have:=f3.out;first|omega|exact Nat.le_refl _⟩,⟨zqfR j8.out⟩,⟨zqe a2.out⟩,⟨zq22⟩⟩
       ·rw [if_neg f6] at H;exact absurd H (by simp)
      ·rw [if_neg f5] at H;exact absurd H (by simp)
     ·rw [if_neg f4] at H;exact absurd H (by simp)
    ·rw [if_neg d5] at H;have c4:((a1.length:Int)==3)=false:=beq_eq_false_iff_ne.mpr d5;have g1:((a1.length:Int) !=3)=true:=bne_iff_ne.mpr d5;(first|rw [c4]|(simp only [i64_w,i32_w];rw [c4])|skip);have H':=zqm H;clear H
     go_wp2
     go_meet
     case rel=>exact⟨_,(c0),H',⟨by have:=f3.out;first|omega|exact Nat.le_refl _⟩,⟨zqfR HO_5.out⟩,⟨zqe a2.out⟩,⟨zq22⟩⟩
   case rest=>
    clear g8;(try clear c1);(try clear p1);(try clear q1);(try clear l7);(try clear m4);(try clear c2);(try clear p2);(try clear q2);(try clear r6);(try clear r7);(try clear c3);(try clear c9);(try clear c5);(try clear g2);(try clear e1);(try clear f9);(try clear g0);(try clear e2);(try clear l3);(try clear m0);(try clear m2);(try clear n8);(try clear o0);(try clear d5);(try clear c4);(try clear g1);(try clear m1);(try clear m3);(try clear n9);(try clear o1);(try clear f4);(try clear h6);(try clear h7);(try clear f5);(try clear h8);(try clear h9);(try clear f6);(try clear b6);(try clear b7);(try clear b8);(try clear b9);(try clear p1);(try clear d7);(try clear d8);(try clear p2);(try clear e6);(try clear e7);(try clear q1);(try clear d9);(try clear e0);(try clear e8);(try clear e9);obtain⟨kq,a5,HA,f8,HO_5,a2,HB⟩:=hcut
    cases kq with
    |zero=>exact absurd HA.out (by simp [spec_ReadDeed.j1])
    |succ j3=>
     have H:=HA.out;clear HA;simp only [spec_ReadDeed.j1] at H;have H':=zqm H;clear H
     go_wp2
     go_loopg [6] j3 (fun kq v6 w'=> ∃(a4:Int) (a9:Int) (a7:Int) (a6:Int),v6= .int .i64 a4∧Aside0 (spec_ReadDeed.l0 kq a0 a5 a4=some (r1,r2,r3,r4))∧Aside0 (kq≤j3)∧Aside0 (Kd.R k25 25 w' w.heap.size (fun k_=>k_≠a3) u5 a5)∧Aside0 (w'.heap[a3]? =some (.cells #[.int .i64 a9,.int .i64 a7,.int .i64 a6] 25 (0,0)))∧Aside0 (Below w.heap.size w w'))
     case atStart=>exact⟨(0),(0),(0),(0),zq15,H',⟨Nat.le_refl _⟩,⟨zqfR HO_5.out⟩,⟨zqe a2.out⟩,⟨zq22⟩⟩
     case round=>
      clear H';(try clear c1);(try clear p1);(try clear q1);(try clear l7);(try clear m4);(try clear c2);(try clear p2);(try clear q2);(try clear r6);(try clear r7);(try clear c3);(try clear c9);(try clear c5);(try clear g2);(try clear e1);(try clear f9);(try clear g0);(try clear e2);(try clear l3);(try clear m0);(try clear m2);(try clear n8);(try clear o0);(try clear d5);(try clear c4);(try clear g1);(try clear m1);(try clear m3);(try clear n9);(try clear o1);(try clear f4);(try clear h6);(try clear h7);(try clear f5);(try clear h8);(try clear h9);(try clear f6);(try clear b6);(try clear b7);(try clear b8);(try clear b9);(try clear p1);(try clear m0);(try clear d7);(try clear d8);(try clear p2);(try clear m1);(try clear e6);(try clear e7);(try clear q1);(try clear m2);(try clear d9);(try clear e0);(try clear q2);(try clear m3);(try clear e8);(try clear e9);obtain⟨a4,a9,a7,a6,rfl,HA,h2,HO_5,a2,HB⟩:=hrel
      cases gk with
      |zero=>exact absurd HA.out (by simp [spec_ReadDeed.l0])
      |succ k3=>
       have H:=HA.out;clear HA;simp only [spec_ReadDeed.l0] at H
       by_cases f7:a4<(a5.length:Int)
       ·rw [if_pos f7] at H;have k5:decide (a4<(a5.length:Int))=true:=decide_eq_true f7;clear f7
        by_cases e3:a0.toList=([]:List UInt8)
        ·rw [if_pos e3] at H;have k6:(a0.toList==([]:List UInt8))=true:=beq_iff_eq.mpr e3;have k7:(a0.toList !=([]:List UInt8))=false:=bne_eq_false_iff_eq.mpr e3;clear e3;have H':=zqm H;clear H;obtain⟨s4,s8,n4⟩:=Kd.R_slice HO_5.out;subst n4
         go_wp2
         go_roundg k3
         (case measure=> exact zq127);case rel=>exact⟨(wrap64 (a4+1)),(a9),(a7),(a6),zq15,H',⟨zq127⟩,⟨zqfR HO_5.out⟩,⟨zqe a2.out⟩,⟨zq22⟩⟩
        ·rw [if_neg e3] at H;have k6:(a0.toList==([]:List UInt8))=false:=beq_eq_false_iff_ne.mpr e3;have k7:(a0.toList !=([]:List UInt8))=true:=bne_iff_ne.mpr e3
         by_cases i0:0≤a4
         ·rw [if_pos i0] at H;have r9:decide (0≤a4)=true:=decide_eq_true i0;clear i0;replace H:=Option.bind_eq_some_iff.mp H;obtain⟨c7,i8,H⟩:=H;replace H:(if c7.toList=a0.toList then(some ((rd_T25 a5 a4).f0,(rd_T25 a5 a4).f1,(rd_T25 a5 a4).f2,true)) else(spec_ReadDeed.l0 k3 a0 a5 (wrap64 (a4+1))))=some (r1,r2,r3,r4):=H;have l2:=zqm i8;clear i8
          by_cases e4:c7.toList=a0.toList
          ·rw [if_pos e4] at H;have k8:(c7.toList==a0.toList)=true:=beq_iff_eq.mpr e4;have k9:(c7.toList !=a0.toList)=false:=bne_eq_false_iff_eq.mpr e4;clear e4;simp only [Option.some.injEq,Prod.mk.injEq] at H;obtain⟨rfl,rfl,rfl,rfl⟩:=H;obtain⟨s5,s9,n5⟩:=Kd.R_slice HO_5.out;subst n5;have c8:0≤(a4:Int):=zqo;have d0:a4<(a5.length:Int):=zqo;obtain⟨h5,g9,i1,i2,i3⟩:=at_T25 (Kd.R_reads' HO_5.out).2.2 a4 c8 d0
           cases g9
           replace c8:=eq_true c8;replace d0:=eq_true d0
           go_wp2_with (first|(go_at_call 10;(with_reducible refine(spec_DeedText.calls k3 ((rd_T25 a5 a4).f0) ((rd_T25 a5 a4).f1) ((rd_T25 a5 a4).f2) c7 _ l2.out).mono ?_);rintro e j4 ⟨rfl,hb⟩;replace HO_5:=zqm (Kd.R_below (zqfR HO_5.out) hb);replace a2:=zqm (blk_below (g:=a3) (o:= .cells #[.int .i64 a9,.int .i64 a7,.int .i64 a6] 25 (0,0)) (zqe a2.out) hb);replace HB:=zqm (below_step zq22 hb);clear hb;have h0:0≤(a4:Int):=zqo;have h1:a4<(a5.length:Int):=zqo;obtain⟨k4,n3,p7,p8,p9⟩:=at_T25 (Kd.R_reads' HO_5.out).2.2 a4 h0 h1;obtain rfl:h5=k4:=(by injection n3);replace h0:=eq_true h0;replace h1:=eq_true h1;have o3:j4.cell? ⟨a3,0,none⟩=some (.int .i64 a9):=(blk_cell a2.out 0).trans rfl;have o4:j4.cell? ⟨a3,1,none⟩=some (.int .i64 a7):=(blk_cell a2.out 1).trans rfl;have o5:j4.cell? ⟨a3,2,none⟩=some (.int .i64 a6):=(blk_cell a2.out 2).trans rfl;have o9:=blk_frozen a2.out 0;have p0:=blk_frozen a2.out 1;have p3:=blk_frozen a2.out 2))
           refine bodyPost_ret (results_ct rfl _ _ a3 25 #[.int .i64 ((rd_T25 a5 a4).f0),.int .i64 ((rd_T25 a5 a4).f1),.int .i64 ((rd_T25 a5 a4).f2)] (0,0) _ rfl (by refine zqe ?_;refine blk_put (cs:= #[.int .i64 ((rd_T25 a5 a4).f0),.int .i64 ((rd_T25 a5 a4).f1),.int .i64 a6]) ?_ 2 _ rfl;refine zqe ?_;refine blk_put (cs:= #[.int .i64 ((rd_T25 a5 a4).f0),.int .i64 a7,.int .i64 a6]) ?_ 1 _ rfl;refine zqe ?_;refine blk_put (cs:= #[.int .i64 a9,.int .i64 a7,.int .i64 a6]) ?_ 0 _ rfl;refine zqe ?_;exact a2.out) Tryd.underlying25 rfl zqk) rfl ?_;exact⟨zq23,zq22⟩
          ·rw [if_neg e4] at H;have k8:(c7.toList==a0.toList)=false:=beq_eq_false_iff_ne.mpr e4;have k9:(c7.toList !=a0.toList)=true:=bne_iff_ne.mpr e4;have H':=zqm H;clear H;obtain⟨s6,t0,n6⟩:=Kd.R_slice HO_5.out;subst n6;have c8:0≤(a4:Int):=zqo;have d0:a4<(a5.length:Int):=zqo;obtain⟨h5,g9,i1,i2,i3⟩:=at_T25 (Kd.R_reads' HO_5.out).2.2 a4 c8 d0
           cases g9
           replace c8:=eq_true c8;replace d0:=eq_true d0
           go_wp2_with (first|(go_at_call 10;(with_reducible refine(spec_DeedText.calls k3 ((rd_T25 a5 a4).f0) ((rd_T25 a5 a4).f1) ((rd_T25 a5 a4).f2) c7 _ l2.out).mono ?_);rintro e u1 ⟨rfl,hb⟩;replace HO_5:=zqm (Kd.R_below (zqfR HO_5.out) hb);replace a2:=zqm (blk_below (g:=a3) (o:= .cells #[.int .i64 a9,.int .i64 a7,.int .i64 a6] 25 (0,0)) (zqe a2.out) hb);replace HB:=zqm (below_step zq22 hb);clear hb))
           go_roundg k3
           (case measure=> exact zq127);case rel=>exact⟨(wrap64 (a4+1)),(a9),(a7),(a6),zq15,H',⟨zq127⟩,⟨zqfR HO_5.out⟩,⟨zqe a2.out⟩,⟨zq22⟩⟩
         ·rw [if_neg i0] at H;exact absurd H (by simp)
       ·rw [if_neg f7] at H;have k5:decide (a4<(a5.length:Int))=false:=decide_eq_false f7;clear f7;simp only [Option.some.injEq,Prod.mk.injEq] at H;obtain⟨rfl,rfl,rfl,rfl⟩:=H;obtain⟨s7,t1,n7⟩:=Kd.R_slice HO_5.out;subst n7;have o6:wr.cell? ⟨a3,0,none⟩=some (.int .i64 a9):=(blk_cell a2.out 0).trans rfl;have o7:wr.cell? ⟨a3,1,none⟩=some (.int .i64 a7):=(blk_cell a2.out 1).trans rfl;have o8:wr.cell? ⟨a3,2,none⟩=some (.int .i64 a6):=(blk_cell a2.out 2).trans rfl;have p4:=blk_frozen a2.out 0;have p5:=blk_frozen a2.out 1;have p6:=blk_frozen a2.out 2
        go_wp2
        refine bodyPost_ret (results_ct rfl _ _ a3 25 #[.int .i64 0,.int .i64 0,.int .i64 0] (0,0) _ rfl (by refine zqe ?_;refine blk_put (cs:= #[.int .i64 0,.int .i64 0,.int .i64 a6]) ?_ 2 _ rfl;refine zqe ?_;refine blk_put (cs:= #[.int .i64 0,.int .i64 a7,.int .i64 a6]) ?_ 1 _ rfl;refine zqe ?_;refine blk_put (cs:= #[.int .i64 a9,.int .i64 a7,.int .i64 a6]) ?_ 0 _ rfl;refine zqe ?_;exact a2.out) Tryd.underlying25 rfl zqk) rfl ?_;exact⟨zq23,zq22⟩
end Go.Proofs.YtddgcdpogpppgaaDoor.Print
end
section
namespace Go.Proofs.YtddgcdpogpppgaaDoor.Print
open Go.RowKit Go.Proofs.YtddgcdpogpppgaaDoorW.PrintWords Go.Proofs.YtddgcdpogpppgaaDoorW.PrintLast Go.Proofs.YtddgcdpogpppgaaDoorW.PrintMore
open Oml
theorem deedV_ofT {k a b : Int} {s : ByteArray} (h : deedT k a b = s) (hs : s.data.toList ≠ []) : deedV k a b = true := by
 cases hv:deedV k a b
 ·unfold deedT at h
  rw [hv,if_neg (by simp)] at h
  subst h
  exact absurd rfl hs
 ·rfl
theorem rd_miss {s : ByteArray} (h : ∀ k a b, deedV k a b = true → deedT k a b ≠ s) : rdD s = (0, 0, 0, false) := by
 unfold rdD
 rw [if_neg]
 intro e
 unfold rdB at e
 simp only [Bool.and_eq_true,decide_eq_true_eq] at e
 have e2:=ba_ext e.2
 exact h _ _ _ (deedV_ofT e2 e.1) e2
theorem rd_cases (s : ByteArray) : (∃ k a b, deedV k a b = true ∧ deedT k a b = s ∧ rdD s = (k, a, b, true)) ∨ (rdD s = (0, 0, 0, false) ∧ ∀ k a b, deedV k a b = true → deedT k a b ≠ s) := by
 by_cases h: ∃k a b,deedV k a b=true∧deedT k a b=s
 ·obtain⟨k,a,b,h1,h2⟩:=h
  exact .inl ⟨k,a,b,h1,h2,rd_hit h1 h2⟩
 ·have h': ∀k a b,deedV k a b=true→deedT k a b≠s:=fun k a b h1 h2=>h ⟨k,a,b,h1,h2⟩
  exact .inr ⟨rd_miss h',h'⟩
theorem bt_nat (t : ByteArray) (i : Nat) (h : i < t.data.toList.length) : bt t (i : Int) = ((t.data.toList[i]'h).toNat : Int) := by
 have h':i<t.size:=by rw [Lib.size_eq];exact h
 rw [← bt_at t (i:Int) (by simpa using h')]
 have e: ∀(j:Nat) (hj:j<t.size) (hk:j<t.data.toList.length),t[j]'hj=t.data.toList[j]'hk:=fun j hj hk=>by
  show t.data[j]=_
  rw [Array.getElem_toList]
 exact congrArg (fun u:UInt8=>(u.toNat:Int)) (e i h' h)
theorem spec_l1Cut.ev (s : ByteArray) (hs : s.size ≤ 1099511627776) : Ev (fun k => spec_l1Cut.f k s 32) (pcs s) := by
 unfold spec_l1Cut.f
 refine Ev.loop (g:=fun k (st:List ByteArray × Int) i=>spec_l1Cut.l0 k s 32 st.1 st.2 i) s.size
  (fun i st=> ∃f:Nat,st.2=(f:Int)∧f≤i∧st.1.length≤i∧st.1.map (·.data.toList) ++ cutK ((s.data.toList.drop f).take (i - f)) (s.data.toList.drop i)=cutK [] s.data.toList) (by omega) (fun st h=>?_) (fun i st hi h=>?_) ([],0) ⟨0,rfl,Nat.le_refl _,Nat.le_refl _,by simp⟩
 ·obtain⟨x,y⟩:=st
  obtain⟨f,hy,hf,hx,h⟩:=h
  simp only at hy hx h
  subst hy
  refine Ev.succ ?_
  simp only [spec_l1Cut.l0]
  refine Ev.ite_neg (by omega) (Ev.ite_pos (by omega) (Ev.ite_pos (by omega) (Ev.ite_pos (by omega) (Ev.eq (Ev.now _) ?_))))
  unfold pcs
  refine bas_ext ?_
  rw [← h,Int.toNat_natCast,List.map_append,List.map_cons,List.map_nil,Lib.extract_data]
  have e:s.data.toList.drop s.size= []:=by rw [Lib.size_eq];simp
  rw [e,cutK]
 ·obtain⟨x,y⟩:=st
  obtain⟨f,hy,hf,hx,h⟩:=h
  simp only at hy hx h
  subst hy
  have hil:i<s.data.toList.length:=by rw [← Lib.size_eq];exact hi
  have ed:s.data.toList.drop i=s.data.toList[i] :: s.data.toList.drop (i+1):=(List.getElem_cons_drop (h:=hil)).symm
  rw [ed,cutK] at h
  by_cases hc:s.data.toList[i]=32
  ·rw [if_pos hc] at h
   refine⟨(x ++ [s.extract f i],((i+1:Nat):Int)),⟨i+1,rfl,Nat.le_refl _,?_,?_⟩,fun K=>Ev.succ ?_⟩
   ·simp only [List.length_append,List.length_cons,List.length_nil];omega
   ·rw [List.map_append,List.map_cons,List.map_nil,Lib.extract_data,Nat.sub_self,List.take_zero,← h]
    simp
   ·simp only [spec_l1Cut.l0]
    refine Ev.ite_pos (by omega) (Ev.ite_pos (by omega) (Ev.ite_pos ?_ (Ev.ite_pos (by omega) (Ev.ite_pos (by omega) (Ev.ite_pos (by omega) (Ev.ite_pos (by omega) ?_))))))
    ·rw [bt_nat s i hil,hc];rfl
    ·have e:wrap64 ((i:Int)+1)=((i+1:Nat):Int):=wrap_nat (by omega)
     simp only [e,Int.toNat_natCast] at K ⊢
     exact K
  ·rw [if_neg hc] at h
   refine⟨(x,(f:Int)),⟨f,rfl,by omega,by simp only;omega,?_⟩,fun K=>Ev.succ ?_⟩
   ·rw [← h]
    have e:(s.data.toList.drop f).take (i+1 - f)=(s.data.toList.drop f).take (i - f) ++ [s.data.toList[i]]:=by
     rw [show i+1 - f=(i - f)+1 by omega,List.take_add_one]
     congr 1
     rw [List.getElem?_drop,show f+(i - f)=i by omega,List.getElem?_eq_getElem hil];rfl
    rw [e]
   ·simp only [spec_l1Cut.l0]
    refine Ev.ite_pos (by omega) (Ev.ite_pos (by omega) (Ev.ite_neg ?_ K))
    rw [bt_nat s i hil]
    intro e
    refine hc (UInt8.toNat_inj.1 ?_)
    have e2:(s.data.toList[i]).toNat=32:=by omega
    rw [e2];rfl
theorem dig_run (t : ByteArray) (ht : t.size ≤ 2) : ∀ m i x, i + m = t.size → ∃ d, Ev (fun k => spec_l1Digits.l0 k t x (i : Int)) d := by
 intro m
 induction m with
 |zero=>
  intro i x h
  refine⟨x,Ev.succ ?_⟩
  simp only [spec_l1Digits.l0]
  exact Ev.ite_neg (by omega) (Ev.now _)
 |succ m ih=>
  intro i x h
  by_cases h1:bt t i<48
  ·refine⟨-1,Ev.succ ?_⟩
   simp only [spec_l1Digits.l0]
   exact Ev.ite_pos (by omega) (Ev.ite_pos (by omega) (Ev.ite_pos h1 (Ev.now _)))
  by_cases h2:bt t i>57
  ·refine⟨-1,Ev.succ ?_⟩
   simp only [spec_l1Digits.l0]
   exact Ev.ite_pos (by omega) (Ev.ite_pos (by omega) (Ev.ite_neg h1 (Ev.ite_pos h2 (Ev.now _))))
  obtain⟨d,hd⟩:=ih (i+1) (wrap64 ((wrap64 (10*x))+(((bt t i) - 48) % 256))) (by omega)
  refine⟨d,Ev.succ ?_⟩
  simp only [spec_l1Digits.l0]
  have e:wrap64 ((i:Int)+1)=((i+1:Nat):Int):=wrap_nat (by omega)
  rw [e]
  exact Ev.ite_pos (by omega) (Ev.ite_pos (by omega) (Ev.ite_neg h1 (Ev.ite_neg h2 hd)))
theorem dig_any (t : ByteArray) : ∃ d, Ev (fun k => spec_l1Digits.f k t) d := by
 unfold spec_l1Digits.f
 rw [spec_l1In.ev]
 simp only [Option.bind_some,decide_eq_true_eq]
 have j1:Ev (fun k=>spec_l1Digits.j0 k t true) (-1):=by
  refine Ev.succ ?_
  simp only [spec_l1Digits.j0]
  exact Ev.ite_pos trivial (Ev.now _)
 by_cases h:1≤(t.size:Int)∧(t.size:Int)≤2
 ·obtain⟨d,hd⟩:=dig_run t (by omega) t.size 0 0 (by omega)
  have j0:Ev (fun k=>spec_l1Digits.j0 k t false) d:=by
   refine Ev.succ ?_
   simp only [spec_l1Digits.j0]
   exact Ev.ite_neg (by simp) hd
  by_cases h1:(t.size:Int)>1
  ·cases hb:(bt t 0==48)
   ·exact⟨d,Ev.ite_pos h (Ev.ite_pos h1 (Ev.ite_pos (by omega) j0))⟩
   ·exact⟨-1,Ev.ite_pos h (Ev.ite_pos h1 (Ev.ite_pos (by omega) j1))⟩
  ·exact⟨d,Ev.ite_pos h (Ev.ite_neg h1 j0)⟩
 ·exact⟨-1,Ev.ite_neg h j1⟩
def fndD (s : ByteArray) : List S25 → Int × Int × Int × Bool
 | []=>(0,0,0,false)
 |x :: r=>if s.data.toList≠ []∧(deedT x.f0 x.f1 x.f2).data.toList=s.data.toList then(x.f0,x.f1,x.f2,true) else fndD s r
theorem fnd_miss {s : ByteArray} (h : ∀ k a b, deedV k a b = true → deedT k a b ≠ s) : ∀ l, fndD s l = (0, 0, 0, false)
 | []=>rfl
 |x :: r=>by
  rw [fndD,if_neg (fun e=>h _ _ _ (deedV_ofT (ba_ext e.2) e.1) (ba_ext e.2)),fnd_miss h r]
theorem fnd_hit {s : ByteArray} {k a b : Int} (hv : deedV k a b = true) (h : deedT k a b = s) : ∀ l : List S25, (⟨k, a, b⟩ : S25) ∈ l → fndD s l = (k, a, b, true)
 | [],hm=>absurd hm (by simp)
 |x :: r,hm=>by
  rw [fndD]
  by_cases e:s.data.toList≠ []∧(deedT x.f0 x.f1 x.f2).data.toList=s.data.toList
  ·rw [if_pos e,← rd_hit hv h,← rd_hit (deedV_ofT (ba_ext e.2) e.1) (ba_ext e.2)]
  ·rw [if_neg e]
   rcases List.mem_cons.1 hm with e1|h1
   ·subst e1
    refine absurd ⟨?_,?_⟩ e
    ·intro e2
     exact deedT_ne.2 hv (by rw [h];exact ba_ext e2)
    ·rw [h]
   ·exact fnd_hit hv h r h1
theorem spec_ReadDeed.loop_ev (s : ByteArray) (l : List S25) (hl : l.length < 1048576) : ∀ m i, i + m = l.length → Ev (fun k => spec_ReadDeed.l0 k s l (i : Int)) (fndD s (l.drop i)) := by
 intro m
 induction m with
 |zero=>
  intro i h
  refine Ev.succ ?_
  simp only [spec_ReadDeed.l0]
  rw [List.drop_of_length_le (by omega)]
  exact Ev.ite_neg (by omega) (Ev.now _)
 |succ m ih=>
  intro i h
  have hi:i<l.length:=by omega
  have h2:=ih (i+1) (by omega)
  have e:wrap64 ((i:Int)+1)=((i+1:Nat):Int):=wrap_nat (by omega)
  have er:rd_T25 l (i:Int)=l[i]:=by simp [rd_T25,hi]
  rw [← List.getElem_cons_drop (h:=hi),fndD]
  refine Ev.succ ?_
  simp only [spec_ReadDeed.l0,e,er,ba_toList]
  refine Ev.ite_pos (by omega) ?_
  by_cases h3:s.data.toList= []
  ·rw [if_neg (fun e=>e.1 h3)]
   exact Ev.ite_pos h3 h2
  ·refine Ev.ite_neg h3 (Ev.ite_pos (by omega) (Ev.bind (spec_DeedText.ev _ _ _) ?_))
   by_cases h4:(deedT l[i].f0 l[i].f1 l[i].f2).data.toList=s.data.toList
   ·rw [if_pos ⟨h3,h4⟩]
    exact Ev.ite_pos h4 (Ev.now _)
   ·rw [if_neg (fun e=>h4 e.2)]
    exact Ev.ite_neg h4 h2
theorem spec_ReadDeed.ev (s : ByteArray) (hs : s.size ≤ 1099511627776) : Ev (fun k => spec_ReadDeed.f k s) (rdD s) := by
 unfold spec_ReadDeed.f
 refine Ev.bind (spec_l1Cut.ev s hs) (Ev.pbind rfl ?_)
 have fin: ∀l:List S25,l.length<1048576→fndD s l=rdD s→Ev (fun k=>spec_ReadDeed.j1 k s l) (rdD s):=fun l hl e=>by
  refine Ev.succ ?_
  simp only [spec_ReadDeed.j1]
  have h:=spec_ReadDeed.loop_ev s l hl l.length 0 (by omega)
  rw [List.drop_zero,e] at h
  exact h
 have rdo: ∀i:Nat,rdOf ByteArray.empty (pcs s) (i:Int)=(pcs s).getD i ByteArray.empty:=fun i=>by simp [rdOf]
 have rdo1:rdOf ByteArray.empty (pcs s) 1=(pcs s).getD 1 ByteArray.empty:=rdo 1
 have rdo2:rdOf ByteArray.empty (pcs s) 2=(pcs s).getD 2 ByteArray.empty:=rdo 2
 rw [rdo1]
 have kn: ∀j,∃d,Ev (fun k=>spec_l1Digits.f k ((pcs s).getD j ByteArray.empty)) d∧ ∀n,n<100→(pcs s).getD j ByteArray.empty=numT n→d=(n:Int):=fun j=>by
  by_cases h: ∃n,n<100∧(pcs s).getD j ByteArray.empty=numT n
  ·obtain⟨n,h1,h2⟩:=h
   refine⟨(n:Int),by rw [h2];exact digits_ev h1,fun m h3 h4=>?_⟩
   have h5:numT n=numT m:=h2.symm.trans h4
   have h6:=congrArg atoV h5
   rw [ato_tab ⟨n,h1⟩,ato_tab ⟨m,h3⟩] at h6
   exact h6
  ·obtain⟨d,hd⟩:=dig_any ((pcs s).getD j ByteArray.empty)
   exact⟨d,hd,fun n h1 h2=>absurd ⟨n,h1,h2⟩ h⟩
 obtain⟨d1,D1,e1⟩:=kn 1
 obtain⟨d2,D2,e2⟩:=kn 2
 have fnd: ∀l:List S25,(∀k a b,deedV k a b=true→deedT k a b=s→(⟨k,a,b⟩:S25) ∈ l)→fndD s l=rdD s:=fun l h=>by
  rcases rd_cases s with ⟨k,a,b,h1,h2,h3⟩|⟨h1,h2⟩
  ·rw [h3,fnd_hit h1 h2 l (h k a b h1 h2)]
  ·rw [h1,fnd_miss h2 l]
 have mem: ∀k a b,deedV k a b=true→deedT k a b=s→((k=2∧a=0∧b=0)∨(k=4∧a=0∧b=0))∨((pcs s).length=2∧((k=0∧a=d1∧b=0)∨(k=1∧a=d1∧b=0)))∨((pcs s).length=3∧k=3∧a=d1∧b=d2):=fun k a b hv h=>by
  subst h
  rcases deedV_iff.1 hv with ⟨rfl,h1,rfl⟩|⟨rfl,h1,rfl⟩|⟨rfl,rfl,rfl⟩|⟨rfl,h1,h2⟩|⟨rfl,rfl,rfl⟩
  ·obtain⟨x,rfl⟩: ∃x:Nat,a=(x:Int):=⟨a.toNat,by omega⟩
   have hp:=pcs_glue (n:=x) (by omega)
   rw [if_pos (by omega)] at hp
   exact .inr (.inl ⟨by rw [hp];rfl,.inl ⟨rfl,(e1 x (by omega) (by rw [hp];rfl)).symm,rfl⟩⟩)
  ·obtain⟨x,rfl⟩: ∃x:Nat,a=(x:Int):=⟨a.toNat,by omega⟩
   have hp:=pcs_times (n:=x) (by omega)
   exact .inr (.inl ⟨by rw [hp];rfl,.inr ⟨rfl,(e1 x (by omega) (by rw [hp];rfl)).symm,rfl⟩⟩)
  ·exact .inl (.inl ⟨rfl,rfl,rfl⟩)
  ·obtain⟨x,rfl⟩: ∃x:Nat,a=(x:Int):=⟨a.toNat,by omega⟩
   obtain⟨y,rfl⟩: ∃y:Nat,b=(y:Int):=⟨b.toNat,by omega⟩
   have hp:=pcs_part (n:=x) (m:=y) (by omega) (by omega)
   exact .inr (.inr ⟨by rw [hp];rfl,rfl,(e1 x (by omega) (by rw [hp];rfl)).symm,(e2 y (by omega) (by rw [hp];rfl)).symm⟩)
  ·exact .inl (.inr ⟨rfl,rfl,rfl⟩)
 by_cases h2:((pcs s).length:Int)=2
 ·refine Ev.ite_pos h2 (Ev.ite_pos (by omega) (Ev.bind D1 (Ev.bind D1 (Ev.pbind rfl (Ev.ite_pos (by simp) ?_)))))
  refine Ev.succ ?_
  simp only [spec_ReadDeed.j0]
  refine Ev.ite_neg (by omega) (fin _ (by simp) (fnd _ fun k a b hv h=>?_))
  rcases mem k a b hv h with (⟨rfl,rfl,rfl⟩|⟨rfl,rfl,rfl⟩)|⟨_,⟨rfl,rfl,rfl⟩|⟨rfl,rfl,rfl⟩⟩|⟨h3,_⟩
  ·simp
  ·simp
  ·simp
  ·simp
  ·omega
 ·refine Ev.ite_neg h2 (Ev.succ ?_)
  simp only [spec_ReadDeed.j0,rdo1,rdo2]
  by_cases h3:((pcs s).length:Int)=3
  ·refine Ev.ite_pos h3 (Ev.ite_pos (by omega) (Ev.bind D1 (Ev.ite_pos (by omega) (Ev.bind D2 (Ev.ite_pos (by simp) ?_)))))
   refine fin _ (by simp) (fnd _ fun k a b hv h=>?_)
   rcases mem k a b hv h with (⟨rfl,rfl,rfl⟩|⟨rfl,rfl,rfl⟩)|⟨h4,_⟩|⟨_,rfl,rfl,rfl⟩
   ·simp
   ·simp
   ·omega
   ·simp
  ·refine Ev.ite_neg h3 (fin _ (by simp) (fnd _ fun k a b hv h=>?_))
   rcases mem k a b hv h with (⟨rfl,rfl,rfl⟩|⟨rfl,rfl,rfl⟩)|⟨h4,_⟩|⟨h4,_⟩
   ·simp
   ·simp
   ·omega
   ·omega
end Go.Proofs.YtddgcdpogpppgaaDoor.Print
end
section
namespace Go.Proofs.YtddgcdpogpppgaaDoor.Print
open Go.RowKit Go.Proofs.YtddgcdpogpppgaaDoorW.PrintWords Go.Proofs.YtddgcdpogpppgaaDoorW.PrintLast Go.Proofs.YtddgcdpogpppgaaDoorW.PrintMore
def spec_l20Spoil.f (k : Nat) (s0_0 : List Int) (s0_1 : Int) (a1 : ByteArray) : Option (ByteArray × Int) := if (a1.size : Int) = 0 then (some ((⟨#[10]⟩ : ByteArray), s0_1)) else ((spec_l20Rd_pick.f k s0_0 s0_1 (a1.size : Int)).bind fun bt621 => (if 0 ≤ bt621.1 then (if bt621.1 ≤ (a1.size : Int) then ((some (([(⟨#[]⟩ : ByteArray), (⟨#[48]⟩ : ByteArray), (⟨#[32]⟩ : ByteArray), (⟨#[10]⟩ : ByteArray), (⟨#[45]⟩ : ByteArray), (⟨#[98, 97, 99, 107]⟩ : ByteArray)] : List ByteArray) : List ByteArray)).bind fun y623 => ((spec_l20Rd_pick.f k s0_0 bt621.2 6).bind fun bt626 => (if 0 ≤ bt626.1 then (if bt626.1 < (y623.length : Int) then (if (a1.extract 0 (bt621.1 : Int).toNat).size + (rdOf ByteArray.empty y623 bt626.1).size ≤ 9223372036854775807 then (if 0 ≤ (wrap64 (bt621.1 + 1)) then (if (wrap64 (bt621.1 + 1)) ≤ (a1.size : Int) then (if ((a1.extract 0 (bt621.1 : Int).toNat) ++ (rdOf ByteArray.empty y623 bt626.1)).size + (a1.extract ((wrap64 (bt621.1 + 1)) : Int).toNat a1.size).size ≤ 9223372036854775807 then (some (((a1.extract 0 (bt621.1 : Int).toNat) ++ (rdOf ByteArray.empty y623 bt626.1)) ++ (a1.extract ((wrap64 (bt621.1 + 1)) : Int).toNat a1.size), bt626.2)) else (none)) else (none)) else (none)) else (none)) else (none)) else (none)))) else (none)) else (none)))
def spec_l20Spoil.T4 : Bool × List (List Nat × List Nat) := (true, [([], []), ([], []), ([0, 1], [0, 1]), ([], []), ([], []), ([4], [4]), ([3, 5], [3, 5]), ([6], [6]), ([2, 7], [2, 7]), ([], []), ([], []), ([10], [10]), ([9, 11], [9, 11]), ([8, 12], [8, 12]), ([13, 5, 0, 1, 2, 3, 4, 5, 6, 7, 8, 9, 10, 11, 12, 13], [13])])
def spec_l20Spoil.B4 : List Nat := [0, 0, 3, 0, 0, 16, 56, 120, 255, 0, 0, 1024, 3584, 8191, 16383]
theorem spec_l20Spoil.tab4 : rtab .any (opsOf Tryd.f46 4) = spec_l20Spoil.T4 := by kernel_rfl
theorem spec_l20Spoil.bits4 : waitsOk spec_l20Spoil.T4.2 spec_l20Spoil.B4 = true := by kernel_rfl
set_option maxHeartbeats 8000000 in
set_option maxRecDepth 100000 in
theorem spec_l20Spoil.calls (k : Nat) (g : Nat) (s0_0 : List Int) (s0_1 : Int) (a1 : ByteArray) (r1 : ByteArray) (r2 : Int) (w0 w : World) (hI : IsS78 w0 w g s0_0 s0_1) (hB : Below w0.heap.size w0 w) (h : spec_l20Spoil.f k s0_0 s0_1 a1 = some (r1, r2)) :
  Calls Tryd.prog 46 #[.pointer (some ⟨g, 0, none⟩), .string a1] w fun e w' => e = .returned (.string r1) ∧ IsS78 w0 w' g s0_0 r2 ∧ Below w0.heap.size w0 w' ∧ KeepBut w w' g none := by
 have a5:=zqm hI;have HK:=zqm (KeepBut.refl w g none);have HL:=zqm hB.size;clear hI;have g4:=zqm hB.size;have HB:=zqm hB;clear hB;have H:(if(a1.size:Int)=0 then(some ((⟨#[10]⟩:ByteArray),s0_1)) else((spec_l20Rd_pick.f k s0_0 s0_1 (a1.size:Int)).bind fun a9=>(if 0≤a9.1 then(if a9.1≤(a1.size:Int) then((some (([(⟨#[]⟩:ByteArray),(⟨#[48]⟩:ByteArray),(⟨#[32]⟩:ByteArray),(⟨#[10]⟩:ByteArray),(⟨#[45]⟩:ByteArray),(⟨#[98,97,99,107]⟩:ByteArray)]:List ByteArray):List ByteArray)).bind fun a2=>((spec_l20Rd_pick.f k s0_0 a9.2 6).bind fun a7=>(if 0≤a7.1 then(if a7.1<(a2.length:Int) then(if(a1.extract 0 (a9.1:Int).toNat).size+(rdOf ByteArray.empty a2 a7.1).size≤9223372036854775807 then(if 0≤(wrap64 (a9.1+1)) then(if(wrap64 (a9.1+1))≤(a1.size:Int) then(if((a1.extract 0 (a9.1:Int).toNat) ++ (rdOf ByteArray.empty a2 a7.1)).size+(a1.extract ((wrap64 (a9.1+1)):Int).toNat a1.size).size≤9223372036854775807 then(some (((a1.extract 0 (a9.1:Int).toNat) ++ (rdOf ByteArray.empty a2 a7.1)) ++ (a1.extract ((wrap64 (a9.1+1)):Int).toNat a1.size),a7.2)) else(none)) else(none)) else(none)) else(none)) else(none)) else(none)))) else(none)) else(none))))=some (r1,r2):=h;clear h
 by_cases c3:(a1.size:Int)=0
 ·rw [if_pos c3] at H;have d7:((a1.size:Int)==0)=true:=beq_iff_eq.mpr c3;have d8:((a1.size:Int) !=0)=false:=bne_eq_false_iff_eq.mpr c3;clear c3;simp only [Option.some.injEq,Prod.mk.injEq] at H;obtain⟨rfl,rfl⟩:=H
  go_enter Tryd.func46,Tryd.ntmps46
  go_wp2
  go_ret
  exact⟨zq23,zq46,zq47,zq14⟩
 ·rw [if_neg c3] at H;have d7:((a1.size:Int)==0)=false:=beq_eq_false_iff_ne.mpr c3;have d8:((a1.size:Int) !=0)=true:=bne_iff_ne.mpr c3;replace H:=Option.bind_eq_some_iff.mp H;obtain⟨⟨a0,b0⟩,d2,H⟩:=H;replace H:(if 0≤a0 then(if a0≤(a1.size:Int) then((some (([(⟨#[]⟩:ByteArray),(⟨#[48]⟩:ByteArray),(⟨#[32]⟩:ByteArray),(⟨#[10]⟩:ByteArray),(⟨#[45]⟩:ByteArray),(⟨#[98,97,99,107]⟩:ByteArray)]:List ByteArray):List ByteArray)).bind fun a2=>((spec_l20Rd_pick.f k s0_0 b0 6).bind fun a7=>(if 0≤a7.1 then(if a7.1<(a2.length:Int) then(if(a1.extract 0 (a0:Int).toNat).size+(rdOf ByteArray.empty a2 a7.1).size≤9223372036854775807 then(if 0≤(wrap64 (a0+1)) then(if(wrap64 (a0+1))≤(a1.size:Int) then(if((a1.extract 0 (a0:Int).toNat) ++ (rdOf ByteArray.empty a2 a7.1)).size+(a1.extract ((wrap64 (a0+1)):Int).toNat a1.size).size≤9223372036854775807 then(some (((a1.extract 0 (a0:Int).toNat) ++ (rdOf ByteArray.empty a2 a7.1)) ++ (a1.extract ((wrap64 (a0+1)):Int).toNat a1.size),a7.2)) else(none)) else(none)) else(none)) else(none)) else(none)) else(none)))) else(none)) else(none))=some (r1,r2):=H;have A4:=zqm d2;clear d2
  by_cases c5:0≤a0
  ·rw [if_pos c5] at H;have f7:=eq_true c5;have f8:decide (0≤a0)=true:=decide_eq_true c5;clear c5
   by_cases c6:a0≤(a1.size:Int)
   ·rw [if_pos c6] at H;have f9:=eq_true c6;have g0:decide (a0≤(a1.size:Int))=true:=decide_eq_true c6;clear c6;obtain⟨a2,b8⟩: ∃y_:List ByteArray,y_=(([(⟨#[]⟩:ByteArray),(⟨#[48]⟩:ByteArray),(⟨#[32]⟩:ByteArray),(⟨#[10]⟩:ByteArray),(⟨#[45]⟩:ByteArray),(⟨#[98,97,99,107]⟩:ByteArray)]:List ByteArray)):=⟨_,rfl⟩;replace H:((spec_l20Rd_pick.f k s0_0 b0 6).bind fun a7=>(if 0≤a7.1 then(if a7.1<(a2.length:Int) then(if(a1.extract 0 (a0:Int).toNat).size+(rdOf ByteArray.empty a2 a7.1).size≤9223372036854775807 then(if 0≤(wrap64 (a0+1)) then(if(wrap64 (a0+1))≤(a1.size:Int) then(if((a1.extract 0 (a0:Int).toNat) ++ (rdOf ByteArray.empty a2 a7.1)).size+(a1.extract ((wrap64 (a0+1)):Int).toNat a1.size).size≤9223372036854775807 then(some (((a1.extract 0 (a0:Int).toNat) ++ (rdOf ByteArray.empty a2 a7.1)) ++ (a1.extract ((wrap64 (a0+1)):Int).toNat a1.size),a7.2)) else(none)) else(none)) else(none)) else(none)) else(none)) else(none)))=some (r1,r2):=zqy b8 H;have b7:=zqm b8;clear b8;replace H:=Option.bind_eq_some_iff.mp H;obtain⟨⟨a3,b6⟩,d3,H⟩:=H;replace H:(if 0≤a3 then(if a3<(a2.length:Int) then(if(a1.extract 0 (a0:Int).toNat).size+(rdOf ByteArray.empty a2 a3).size≤9223372036854775807 then(if 0≤(wrap64 (a0+1)) then(if(wrap64 (a0+1))≤(a1.size:Int) then(if((a1.extract 0 (a0:Int).toNat) ++ (rdOf ByteArray.empty a2 a3)).size+(a1.extract ((wrap64 (a0+1)):Int).toNat a1.size).size≤9223372036854775807 then(some (((a1.extract 0 (a0:Int).toNat) ++ (rdOf ByteArray.empty a2 a3)) ++ (a1.extract ((wrap64 (a0+1)):Int).toNat a1.size),b6)) else(none)) else(none)) else(none)) else(none)) else(none)) else(none))=some (r1,r2):=H;have A7:=zqm d3;clear d3
    by_cases c8:0≤a3
    ·rw [if_pos c8] at H;have g1:decide (0≤a3)=true:=decide_eq_true c8;clear c8
     by_cases c9:a3<(a2.length:Int)
     ·rw [if_pos c9] at H;have g2:decide (a3<(a2.length:Int))=true:=decide_eq_true c9;clear c9
      by_cases b9:(a1.extract 0 (a0:Int).toNat).size+(rdOf ByteArray.empty a2 a3).size≤9223372036854775807
      ·rw [if_pos b9] at H;have e6:=eq_true b9;have e7:decide ((a1.extract 0 (a0:Int).toNat).size+(rdOf ByteArray.empty a2 a3).size≤9223372036854775807)=true:=decide_eq_true b9;(try have e8:(9223372036854775807<(a1.extract 0 (a0:Int).toNat).size+(rdOf ByteArray.empty a2 a3).size)=False:=eq_false (Nat.not_lt.2 b9));obtain⟨a6,b1⟩: ∃j_:Int,(wrap64 (a0+1))=j_:=⟨_,rfl⟩;(replace H:(if 0≤(a6) then(if(a6)≤(a1.size:Int) then(if((a1.extract 0 (a0:Int).toNat) ++ (rdOf ByteArray.empty a2 a3)).size+(a1.extract ((a6):Int).toNat a1.size).size≤9223372036854775807 then(some (((a1.extract 0 (a0:Int).toNat) ++ (rdOf ByteArray.empty a2 a3)) ++ (a1.extract ((a6):Int).toNat a1.size),b6)) else(none)) else(none)) else(none))=some (r1,r2):=by first|(rw [b1] at H;exact H)|(simp only [b1] at H ⊢;exact H));(try rw [b1] at A4);(try rw [b1] at A7);have e4:(IntKind.i64.wrap (a0+1))=a6:=(i64_w _).trans b1
       by_cases c0:0≤(a6)
       ·rw [if_pos c0] at H;have e9:=eq_true c0;have f0:decide (0≤(a6))=true:=decide_eq_true c0;clear c0
        by_cases c1:(a6)≤(a1.size:Int)
        ·rw [if_pos c1] at H;have f1:=eq_true c1;have f2:decide ((a6)≤(a1.size:Int))=true:=decide_eq_true c1;clear c1
         by_cases c2:((a1.extract 0 (a0:Int).toNat) ++ (rdOf ByteArray.empty a2 a3)).size+(a1.extract ((a6):Int).toNat a1.size).size≤9223372036854775807
         ·rw [if_pos c2] at H;have f3:=eq_true c2;have f4:decide (((a1.extract 0 (a0:Int).toNat) ++ (rdOf ByteArray.empty a2 a3)).size+(a1.extract ((a6):Int).toNat a1.size).size≤9223372036854775807)=true:=decide_eq_true c2;(try have f5:(9223372036854775807<((a1.extract 0 (a0:Int).toNat) ++ (rdOf ByteArray.empty a2 a3)).size+(a1.extract ((a6):Int).toNat a1.size).size)=False:=eq_false (Nat.not_lt.2 c2));simp only [Option.some.injEq,Prod.mk.injEq] at H;obtain⟨rfl,rfl⟩:=H
          go_enter Tryd.func46,Tryd.ntmps46
          (try go_wp2_with (first|((with_reducible refine gate_callee (f:=45) rfl ?_);refine goesL_ (some 12) rfl rfl Tryd.func45 zqk rfl #[.pointer (some ⟨g,0,none⟩),.int .i64 (a1.size:Int)] rfl zq2 ?_;(with_reducible refine(spec_l20Rd_pick.calls k g s0_0 s0_1 (a1.size:Int) a0 b0 w0 _ ?side1 ?side2 A4.out).mono ?_);(case side1=> exact zq46);(case side2=> exact zq47);rintro e e5 ⟨rfl,hi,hb,hk⟩;refine⟨_,rfl,?_⟩;replace HK:=zqm (KeepBut.trans zq14 hk (.inl rfl));replace HB:=zqm (hb);replace a5:=zqm (hi);clear hb hk hi)));have pi628:(0≤(a3:Int))=True:=eq_true (zqo);have d1:(a3<(a2.length:Int))=True:=eq_true (zqo);replace a5:=zqm (IsS78.drew a5.out);replace HK:=zqm (keep_drew HK.out);replace HB:=zqm (below_drew1 HB.out);refine start_ (n:=15) (S:=fun w'=>True) (ds:= []) (zqb 15 0) zqk rfl rfl trivial (fun hHeld=>?_);refine with_tabW spec_l20Spoil.tab4 spec_l20Spoil.bits4 (fun HT_ HW_=>?_);generalize e5.drew=h6 at a5 HK HB hHeld ⊢;refine zqp 0 13 (zqb 15 1) HT_ ?_;refine zqp 1 14 (zqb 15 3) HT_ ?_;refine zqp 4 17 (zqb 15 19) HT_ ?_;refine zqp 9 22 (zqb 15 531) HT_ ?_;refine zqp 10 23 (zqb 15 1555) HT_ ?_;refine inv_at [2,3,5,6,7,8,11,12,13,14] (fun a0_ b a w'=> ∃(a4:Value) (adz_v624:Addr) (m6_:Value),a=putSel a0_ b [(2,15,.string (a1.extract 0 (a0:Int).toNat)),(3,16,a4),(5,18,.int .i64 a3),(6,19,m6_),(7,20,.string (rdOf ByteArray.empty a2 a3)),(8,21,.string ((a1.extract 0 (a0:Int).toNat) ++ (rdOf ByteArray.empty a2 a3))),(11,24,.int .i64 a6),(12,25,.string (a1.extract ((a6):Int).toNat a1.size)),(13,26,.string (((a1.extract 0 (a0:Int).toNat) ++ (rdOf ByteArray.empty a2 a3)) ++ (a1.extract ((a6):Int).toNat a1.size))),(14,4,.string (((a1.extract 0 (a0:Int).toNat) ++ (rdOf ByteArray.empty a2 a3)) ++ (a1.extract ((a6):Int).toNat a1.size)))]∧(b 5=false→IsS78 w0 w' g s0_0 b0)∧(KeepBut w w' g none)∧(Below w0.heap.size w0 w')∧(b 3=true→Kd.R Kd.string 9 w' w.heap.size (fun _=>True) a4 a2)∧(b 3=true→ ∃c_,(a4:Value)= .slice (some adz_v624) a2.length c_)∧(b 5=true→IsS78 w0 w' g s0_0 b6)∧(b 6=true→(m6_:Value)= .pointer (some (adz_v624.add (a3).toNat)))) HT_.out HW_.out zqk zqk ?_ ?_ ?_
          ·exact⟨.bool false,⟨0,0,none⟩,.bool false,by simp only [putSel,Bool.false_eq_true,if_false],fun _=>a5.out,HK.out,HB.out,fun h_=>absurd h_ (by decide),fun h_=>absurd h_ (by decide),fun h_=>absurd h_ (by decide),fun h_=>absurd h_ (by decide)⟩
          ·skip
           clear HB a5 HK;refine steps_cons ?_ ?_
           ·rintro b a w' ⟨a4,adz_v624,m6_,ha,Q_HI0,Q_HK,Q_HB,Q_HO625,Q_HA_HO625,Q_HI0_e5,Q_X6_⟩ hb_ hon hoff;refine⟨_,rfl,fun K hK=>?_⟩;(have g5:a.tmps[13]? =some (.string a1):=by rw [ha];exact(putSel_off rfl).trans rfl);(have g6:a.tmps[14]? =some (.int .i64 a0):=by rw [ha];exact(putSel_off rfl).trans rfl);replace ha:=zqm ha;have HK:=zqm Q_HK;have HB:=zqm Q_HB;refine value_ (w1:=w') (v:= .string (a1.extract 0 (a0:Int).toNat)) (by rfl) rfl ?_ ?_
            ·go_simp;(try simp only [i64_w])
             first|rfl|(have b2:(⟨#[40]⟩:ByteArray).size=1:=rfl;have b3:(⟨#[41]⟩:ByteArray).size=1:=rfl;have b4:(⟨#[33]⟩:ByteArray).size=1:=rfl;simp only [ByteArray.size_append,ByteArray.size_extract,decide_eq_true_eq] at*;omega)|skip
            refine hK.out _ _ ⟨a4,adz_v624,m6_,(by rw [ha.out];exact putSel_upk 0 hb_ rfl rfl rfl),Q_HI0,Q_HK,Q_HB,Q_HO625,Q_HA_HO625,Q_HI0_e5,Q_X6_⟩
           refine steps_cons ?_ ?_
           ·rintro b a w' ⟨a4,adz_v624,m6_,ha,Q_HI0,Q_HK,Q_HB,Q_HO625,Q_HA_HO625,Q_HI0_e5,Q_X6_⟩ hb_ hon hoff;refine⟨_,rfl,fun K hK=>?_⟩;replace ha:=zqm ha;have HK:=zqm Q_HK;have HB:=zqm Q_HB;refine Kd.R_lit_step Kd.string _ 9 ?hg (N:=16) ?hd (xs:=([(⟨#[]⟩:ByteArray),(⟨#[48]⟩:ByteArray),(⟨#[32]⟩:ByteArray),(⟨#[10]⟩:ByteArray),(⟨#[45]⟩:ByteArray),(⟨#[98,97,99,107]⟩:ByteArray)]:List ByteArray)) (inner:= [.string (⟨#[]⟩:ByteArray),.string (⟨#[48]⟩:ByteArray),.string (⟨#[32]⟩:ByteArray),.string (⟨#[10]⟩:ByteArray),.string (⟨#[45]⟩:ByteArray),.string (⟨#[98,97,99,107]⟩:ByteArray)]) (ok:=fun _=>True) (okp:=fun _=>True) ?hr ?hp (fun _ hk=>hk) trivial (Below.refl _ _) (Nat.le_refl _) (by simp) ?_;(case hd=>rfl);(case hg=>rfl);(case hr=> exact zq18);(case hp=>exact(Reps.one (show Kd.M Kd.string _ _ _ (⟨#[]⟩:ByteArray) [.string (⟨#[]⟩:ByteArray)] from rfl) (Reps.one (show Kd.M Kd.string _ _ _ (⟨#[48]⟩:ByteArray) [.string (⟨#[48]⟩:ByteArray)] from rfl) (Reps.one (show Kd.M Kd.string _ _ _ (⟨#[32]⟩:ByteArray) [.string (⟨#[32]⟩:ByteArray)] from rfl) (Reps.one (show Kd.M Kd.string _ _ _ (⟨#[10]⟩:ByteArray) [.string (⟨#[10]⟩:ByteArray)] from rfl) (Reps.one (show Kd.M Kd.string _ _ _ (⟨#[45]⟩:ByteArray) [.string (⟨#[45]⟩:ByteArray)] from rfl) (Reps.one (show Kd.M Kd.string _ _ _ (⟨#[98,97,99,107]⟩:ByteArray) [.string (⟨#[98,97,99,107]⟩:ByteArray)] from rfl) (Reps.none _ _))))))));intro a4 d0 b5 hb hg_ hnew_;clear hg_ hnew_;(first|rw [← b7.out] at b5|(simp only [Int.reduceToNat] at b5;rw [← b7.out] at b5));have c4:=zqm (Kd.R_lower b5 (keep_size (w:=w) (g:=g) (row:=none) zq14));have c7:=zqm (KeepBut.trans zq14 (KeepBut.of_below hb g none) (.inl rfl));have d6:=zqm (below_step zq5 hb);have z_HI0:=fun(h0_:b 5=false)=>(show IsS78 w0 d0 g s0_0 b0 from by first|exact(IsS78.below (by repeat(first|(with_reducible first|exact(Q_HI0 h0_)|apply IsS78.alloc|apply IsS78.drewN|apply IsS78.drew|apply IsS78.set_1)|exact(Q_HI0 h0_))) hb));have z_HI0_e5:=fun(h0_:b 5=true)=>(show IsS78 w0 d0 g s0_0 b6 from by first|exact(IsS78.below (by repeat(first|(with_reducible first|exact(Q_HI0_e5 h0_)|apply IsS78.alloc|apply IsS78.drewN|apply IsS78.drew|apply IsS78.set_1)|exact(Q_HI0_e5 h0_))) hb));clear HK HB;have a8:=c4;have HK:=c7;have HB:=d6;clear c4 c7 d6 hb b5;obtain⟨f6,d9,e0⟩:=Kd.R_slice a8.out;subst e0;obtain⟨ado19,fo19,_⟩:=Kd.at_string (Kd.R_reads' a8.out).2.2 0 (by decide) (by rw [b7.out];simp)
            cases fo19
            refine hK.out _ _ ⟨.slice (some ado19) a2.length d9,ado19,m6_,(by rw [ha.out];exact putSel_upk 1 hb_ rfl rfl rfl),z_HI0,zq14,zq5,fun _=>(by(with_reducible repeat(first|apply Kd.R_alloc|apply Kd.R_drewN|apply Kd.R_drew));exact a8.out),fun _=>⟨_,rfl⟩,z_HI0_e5,fun h0_=>absurd ((hoff 6 zqk).symm.trans h0_) (by decide)⟩
           refine steps_cons ?_ ?_
           ·rintro b a w' ⟨a4,adz_v624,m6_,ha,Q_HI0,Q_HK,Q_HB,Q_HO625,Q_HA_HO625,Q_HI0_e5,Q_X6_⟩ hb_ hon hoff;refine⟨_,rfl,fun K hK=>?_⟩;(have d4:a.tmps[17]? =some (.pointer (some ⟨g,0,none⟩)):=by rw [ha];exact(putSel_off rfl).trans rfl);replace ha:=zqm ha;have a5:=zqm (Q_HI0 hb_);have HK:=zqm Q_HK;have HB:=zqm Q_HB;refine goes_ Tryd.func45 zqk rfl #[.pointer (some ⟨g,0,none⟩),.int .i64 6] (by rfl) rfl rfl (by first|(simp only [List.map_toArray,List.map_cons,List.map_nil,Act.eval,Array.getD_eq_getD_getElem?,Option.getD_some,d4];done)|(simp only [List.map_toArray,List.map_cons,List.map_nil,Act.eval,Array.getD_eq_getD_getElem?,Option.getD_some,d4];rfl)) ?_;(with_reducible refine(spec_l20Rd_pick.calls k g s0_0 b0 6 a3 b6 w0 _ ?side1 ?side2 A7.out).mono ?_);(case side1=> exact zq46);(case side2=> exact zq47);rintro e d0 ⟨rfl,hi,hb,hk⟩;refine⟨_,rfl,?_⟩;have c4:=zqm (KeepBut.trans zq14 hk (.inl rfl));have d5:=zqm (hb);have c7:=zqm (hi);have z_HO625:=fun(h0_:b 3=true)=>(show Kd.R Kd.string 9 d0 w.heap.size (fun _=>True) a4 a2 from by first|exact(Kd.R_mono (Kd.R_keep (IsS78.apart (show IsS78 w0 _ g s0_0 b0 from by repeat(first|(with_reducible first|exact a5.out|apply IsS78.alloc|apply IsS78.drewN|apply IsS78.drew|apply IsS78.set_1)|exact a5.out)) zq119 (by decide)) hk (fun _ h=>h.2)) (fun _ h=>h.1))|exact Kd.R_mono (Kd.R_mono (Kd.R_keep (IsS78.apart (show IsS78 w0 _ g s0_0 b0 from zq46) zq119 (by decide)) hk (fun _ h=>h.2)) (fun _ h=>h.1)) (fun _ h_=>by first|trivial|exact h_|exact h_.1));clear HK HB a5;have HK:=c4;have HB:=d5;have a5:=c7;clear c4 d5 c7 hb hk hi;refine hK.out _ _ ⟨a4,adz_v624,m6_,(by rw [ha.out];exact putSel_upk 2 hb_ rfl rfl rfl),fun h0_=>absurd ((up_self b 5).symm.trans h0_) (by decide),zq14,zq47,z_HO625,Q_HA_HO625,fun _=>zq46,fun h0_=>absurd ((hoff 6 zqk).symm.trans h0_) (by decide)⟩
           refine steps_cons ?_ ?_
           ·rintro b a w' ⟨a4,adz_v624,m6_,ha,Q_HI0,Q_HK,Q_HB,Q_HO625,Q_HA_HO625,Q_HI0_e5,Q_X6_⟩ hb_ hon hoff;refine⟨_,rfl,fun K hK=>?_⟩;(have e2:a.tmps[16]? =some (a4):=by rw [ha];exact putSel_on (e:=(3,16,a4)) 1 rfl rfl (hon 3 zqk) rfl);(have g8:a.tmps[18]? =some (.int .i64 a3):=by rw [ha];exact putSel_on (e:=(5,18,.int .i64 a3)) 2 rfl rfl (hon 5 zqk) rfl);replace ha:=zqm ha;have HK:=zqm Q_HK;have HB:=zqm Q_HB;have a8:=zqm (Q_HO625 (hon 3 zqk));have HA_HO625:=zqm (Q_HA_HO625 (hon 3 zqk));have a5:=zqm (Q_HI0_e5 (hon 5 zqk));obtain⟨c_,hv_⟩:=HA_HO625.out;rw [hv_] at e2;refine value_ (w1:=w') (v:= .pointer (some (adz_v624.add (a3).toNat))) (by rfl) rfl ?_ ?_
            ·go_simp;(try simp only [i64_w])
             first|rfl|(have b2:(⟨#[40]⟩:ByteArray).size=1:=rfl;have b3:(⟨#[41]⟩:ByteArray).size=1:=rfl;have b4:(⟨#[33]⟩:ByteArray).size=1:=rfl;simp only [ByteArray.size_append,ByteArray.size_extract,decide_eq_true_eq] at*;omega)|skip
            refine hK.out _ _ ⟨a4,adz_v624,(.pointer (some (adz_v624.add (a3).toNat))),(by rw [ha.out];exact putSel_upk 3 hb_ rfl rfl rfl),fun h0_=>absurd ((hon 5 zqk).symm.trans h0_) (by decide),Q_HK,Q_HB,Q_HO625,Q_HA_HO625,Q_HI0_e5,fun _=>rfl⟩
           refine steps_cons ?_ ?_
           ·rintro b a w' ⟨a4,adz_v624,m6_,ha,Q_HI0,Q_HK,Q_HB,Q_HO625,Q_HA_HO625,Q_HI0_e5,Q_X6_⟩ hb_ hon hoff;refine⟨_,rfl,fun K hK=>?_⟩;(have e3:a.tmps[19]? =some (m6_):=by rw [ha];exact putSel_on (e:=(6,19,m6_)) 3 rfl rfl (hon 6 zqk) rfl);rw [Q_X6_ (hon 6 zqk)] at e3;replace ha:=zqm ha;have HK:=zqm Q_HK;have HB:=zqm Q_HB;have a8:=zqm (Q_HO625 (hon 3 zqk));have HA_HO625:=zqm (Q_HA_HO625 (hon 3 zqk));have a5:=zqm (Q_HI0_e5 (hon 5 zqk));obtain⟨c_,hv_⟩:=HA_HO625.out;have hF_:=a8.out;rw [hv_] at hF_;obtain⟨ad_,ea_,hx_⟩:=Kd.at_string (Kd.R_reads' hF_).2.2 a3 (of_eq_true pi628) (of_eq_true d1)
            cases ea_
            refine value_ (w1:=w') (v:= .string (rdOf ByteArray.empty a2 a3)) (by rfl) rfl ?_ ?_
            ·go_simp;(try simp only [i64_w])
             first|rfl|(have b2:(⟨#[40]⟩:ByteArray).size=1:=rfl;have b3:(⟨#[41]⟩:ByteArray).size=1:=rfl;have b4:(⟨#[33]⟩:ByteArray).size=1:=rfl;simp only [ByteArray.size_append,ByteArray.size_extract,decide_eq_true_eq] at*;omega)|skip
            refine hK.out _ _ ⟨a4,adz_v624,m6_,(by rw [ha.out];exact putSel_upk 4 hb_ rfl rfl rfl),fun h0_=>absurd ((hon 5 zqk).symm.trans h0_) (by decide),Q_HK,Q_HB,Q_HO625,Q_HA_HO625,Q_HI0_e5,Q_X6_⟩
           refine steps_cons ?_ ?_
           ·rintro b a w' ⟨a4,adz_v624,m6_,ha,Q_HI0,Q_HK,Q_HB,Q_HO625,Q_HA_HO625,Q_HI0_e5,Q_X6_⟩ hb_ hon hoff;refine⟨_,rfl,fun K hK=>?_⟩;(have g7:a.tmps[15]? =some (.string (a1.extract 0 (a0:Int).toNat)):=by rw [ha];exact putSel_on (e:=(2,15,.string (a1.extract 0 (a0:Int).toNat))) 0 rfl rfl (hon 2 zqk) rfl);(have g9:a.tmps[20]? =some (.string (rdOf ByteArray.empty a2 a3)):=by rw [ha];exact putSel_on (e:=(7,20,.string (rdOf ByteArray.empty a2 a3))) 4 rfl rfl (hon 7 zqk) rfl);replace ha:=zqm ha;have HK:=zqm Q_HK;have HB:=zqm Q_HB;have a8:=zqm (Q_HO625 (hon 3 zqk));have HA_HO625:=zqm (Q_HA_HO625 (hon 3 zqk));have a5:=zqm (Q_HI0_e5 (hon 5 zqk));refine value_ (w1:=w') (v:= .string ((a1.extract 0 (a0:Int).toNat) ++ (rdOf ByteArray.empty a2 a3))) (by rfl) rfl ?_ ?_
            ·go_simp;(try simp only [i64_w])
             first|rfl|(have b2:(⟨#[40]⟩:ByteArray).size=1:=rfl;have b3:(⟨#[41]⟩:ByteArray).size=1:=rfl;have b4:(⟨#[33]⟩:ByteArray).size=1:=rfl;simp only [ByteArray.size_append,ByteArray.size_extract,decide_eq_true_eq] at*;omega)|skip
            refine hK.out _ _ ⟨a4,adz_v624,m6_,(by rw [ha.out];exact putSel_upk 5 hb_ rfl rfl rfl),fun h0_=>absurd ((hon 5 zqk).symm.trans h0_) (by decide),Q_HK,Q_HB,Q_HO625,Q_HA_HO625,Q_HI0_e5,Q_X6_⟩
           refine steps_cons ?_ ?_
           ·rintro b a w' ⟨a4,adz_v624,m6_,ha,Q_HI0,Q_HK,Q_HB,Q_HO625,Q_HA_HO625,Q_HI0_e5,Q_X6_⟩ hb_ hon hoff;refine⟨_,rfl,fun K hK=>?_⟩;(have h2:a.tmps[23]? =some (.int .i64 a0):=by rw [ha];exact(putSel_off rfl).trans rfl);replace ha:=zqm ha;have HK:=zqm Q_HK;have HB:=zqm Q_HB;refine value_ (w1:=w') (v:= .int .i64 a6) (by rfl) rfl ?_ ?_
            ·go_simp;(try simp only [i64_w])
             first|rfl|(have b2:(⟨#[40]⟩:ByteArray).size=1:=rfl;have b3:(⟨#[41]⟩:ByteArray).size=1:=rfl;have b4:(⟨#[33]⟩:ByteArray).size=1:=rfl;simp only [ByteArray.size_append,ByteArray.size_extract,decide_eq_true_eq] at*;omega)|skip
            refine hK.out _ _ ⟨a4,adz_v624,m6_,(by rw [ha.out];exact putSel_upk 6 hb_ rfl rfl rfl),Q_HI0,Q_HK,Q_HB,Q_HO625,Q_HA_HO625,Q_HI0_e5,Q_X6_⟩
           refine steps_cons ?_ ?_
           ·rintro b a w' ⟨a4,adz_v624,m6_,ha,Q_HI0,Q_HK,Q_HB,Q_HO625,Q_HA_HO625,Q_HI0_e5,Q_X6_⟩ hb_ hon hoff;refine⟨_,rfl,fun K hK=>?_⟩;(have h1:a.tmps[22]? =some (.string a1):=by rw [ha];exact(putSel_off rfl).trans rfl);(have h3:a.tmps[24]? =some (.int .i64 a6):=by rw [ha];exact putSel_on (e:=(11,24,.int .i64 a6)) 6 rfl rfl (hon 11 zqk) rfl);replace ha:=zqm ha;have HK:=zqm Q_HK;have HB:=zqm Q_HB;refine value_ (w1:=w') (v:= .string (a1.extract ((a6):Int).toNat a1.size)) (by rfl) rfl ?_ ?_
            ·go_simp;(try simp only [i64_w])
             first|rfl|(have b2:(⟨#[40]⟩:ByteArray).size=1:=rfl;have b3:(⟨#[41]⟩:ByteArray).size=1:=rfl;have b4:(⟨#[33]⟩:ByteArray).size=1:=rfl;simp only [ByteArray.size_append,ByteArray.size_extract,decide_eq_true_eq] at*;omega)|skip
            refine hK.out _ _ ⟨a4,adz_v624,m6_,(by rw [ha.out];exact putSel_upk 7 hb_ rfl rfl rfl),Q_HI0,Q_HK,Q_HB,Q_HO625,Q_HA_HO625,Q_HI0_e5,Q_X6_⟩
           refine steps_cons ?_ ?_
           ·rintro b a w' ⟨a4,adz_v624,m6_,ha,Q_HI0,Q_HK,Q_HB,Q_HO625,Q_HA_HO625,Q_HI0_e5,Q_X6_⟩ hb_ hon hoff;refine⟨_,rfl,fun K hK=>?_⟩;(have h0:a.tmps[21]? =some (.string ((a1.extract 0 (a0:Int).toNat) ++ (rdOf ByteArray.empty a2 a3))):=by rw [ha];exact putSel_on (e:=(8,21,.string ((a1.extract 0 (a0:Int).toNat) ++ (rdOf ByteArray.empty a2 a3)))) 5 rfl rfl (hon 8 zqk) rfl);(have h4:a.tmps[25]? =some (.string (a1.extract ((a6):Int).toNat a1.size)):=by rw [ha];exact putSel_on (e:=(12,25,.string (a1.extract ((a6):Int).toNat a1.size))) 7 rfl rfl (hon 12 zqk) rfl);replace ha:=zqm ha;have HK:=zqm Q_HK;have HB:=zqm Q_HB;have a8:=zqm (Q_HO625 (hon 3 zqk));have HA_HO625:=zqm (Q_HA_HO625 (hon 3 zqk));have a5:=zqm (Q_HI0_e5 (hon 5 zqk));refine value_ (w1:=w') (v:= .string (((a1.extract 0 (a0:Int).toNat) ++ (rdOf ByteArray.empty a2 a3)) ++ (a1.extract ((a6):Int).toNat a1.size))) (by rfl) rfl ?_ ?_
            ·go_simp;(try simp only [i64_w])
             first|rfl|(have b2:(⟨#[40]⟩:ByteArray).size=1:=rfl;have b3:(⟨#[41]⟩:ByteArray).size=1:=rfl;have b4:(⟨#[33]⟩:ByteArray).size=1:=rfl;simp only [ByteArray.size_append,ByteArray.size_extract,decide_eq_true_eq] at*;omega)|skip
            refine hK.out _ _ ⟨a4,adz_v624,m6_,(by rw [ha.out];exact putSel_upk 8 hb_ rfl rfl rfl),fun h0_=>absurd ((hon 5 zqk).symm.trans h0_) (by decide),Q_HK,Q_HB,Q_HO625,Q_HA_HO625,Q_HI0_e5,Q_X6_⟩
           refine steps_cons ?_ ?_
           ·rintro b a w' ⟨a4,adz_v624,m6_,ha,Q_HI0,Q_HK,Q_HB,Q_HO625,Q_HA_HO625,Q_HI0_e5,Q_X6_⟩ hb_ hon hoff;refine⟨_,rfl,fun K hK=>?_⟩;(have h5:a.tmps[26]? =some (.string (((a1.extract 0 (a0:Int).toNat) ++ (rdOf ByteArray.empty a2 a3)) ++ (a1.extract ((a6):Int).toNat a1.size))):=by rw [ha];exact putSel_on (e:=(13,26,.string (((a1.extract 0 (a0:Int).toNat) ++ (rdOf ByteArray.empty a2 a3)) ++ (a1.extract ((a6):Int).toNat a1.size)))) 8 rfl rfl (hon 13 zqk) rfl);replace ha:=zqm ha;have HK:=zqm Q_HK;have HB:=zqm Q_HB;have a8:=zqm (Q_HO625 (hon 3 zqk));have HA_HO625:=zqm (Q_HA_HO625 (hon 3 zqk));have a5:=zqm (Q_HI0_e5 (hon 5 zqk));refine value_ (w1:=w') (v:= .string (((a1.extract 0 (a0:Int).toNat) ++ (rdOf ByteArray.empty a2 a3)) ++ (a1.extract ((a6):Int).toNat a1.size))) (by rfl) rfl ?_ ?_
            ·go_simp;(try simp only [i64_w])
             first|rfl|(have b2:(⟨#[40]⟩:ByteArray).size=1:=rfl;have b3:(⟨#[41]⟩:ByteArray).size=1:=rfl;have b4:(⟨#[33]⟩:ByteArray).size=1:=rfl;simp only [ByteArray.size_append,ByteArray.size_extract,decide_eq_true_eq] at*;omega)|skip
            refine hK.out _ _ ⟨a4,adz_v624,m6_,(by rw [ha.out];exact putSel_upk 9 hb_ rfl rfl rfl),fun h0_=>absurd ((hon 5 zqk).symm.trans h0_) (by decide),Q_HK,Q_HB,Q_HO625,Q_HA_HO625,Q_HI0_e5,Q_X6_⟩
           exact steps_nil
          rintro b a h7 hall ⟨a4,adz_v624,m6_,ha,Q_HI0,Q_HK,Q_HB,Q_HO625,Q_HA_HO625,Q_HI0_e5,Q_X6_⟩;clear HB a5 HK;have hb2_:=hall 2 zqk;have hb3_:=hall 3 zqk;have hb5_:=hall 5 zqk;have hb6_:=hall 6 zqk;have hb7_:=hall 7 zqk;have hb8_:=hall 8 zqk;have hb11_:=hall 11 zqk;have hb12_:=hall 12 zqk;have hb13_:=hall 13 zqk;have hb14_:=hall 14 zqk;subst ha;obtain rfl:=Q_X6_ hb6_;simp only [putSel,hb2_,hb3_,hb5_,hb6_,hb7_,hb8_,hb11_,hb12_,hb13_,hb14_,if_true,Act.put,List.setIfInBounds_toArray,List.set_cons_zero,List.set_cons_succ];clear Q_HI0;have HK:=zqm Q_HK;clear Q_HK;have HB:=zqm Q_HB;clear Q_HB;have a8:=zqm (Q_HO625 hb3_);clear Q_HO625;have HA_HO625:=zqm (Q_HA_HO625 hb3_);clear Q_HA_HO625;have a5:=zqm (Q_HI0_e5 hb5_);clear Q_HI0_e5 hall hb2_ hb3_ hb5_ hb6_ hb7_ hb8_ hb11_ hb12_ hb13_ hb14_;obtain⟨g3,e1⟩:=HA_HO625.out;clear HA_HO625;subst e1;try go_wp2
          go_ret
          exact⟨by first|rfl|(simp [errW_none,errW_some] <;> rfl)|(simp only [← b1];first|rfl|(simp [errW_none,errW_some] <;> rfl))|(simp [*,errW_none,errW_some] <;> rfl),zq46,zq47,zq14⟩
         ·rw [if_neg c2] at H;exact absurd H (by simp)
        ·rw [if_neg c1] at H;exact absurd H (by simp)
       ·rw [if_neg c0] at H;exact absurd H (by simp)
      ·rw [if_neg b9] at H;exact absurd H (by simp)
     ·rw [if_neg c9] at H;exact absurd H (by simp)
    ·rw [if_neg c8] at H;exact absurd H (by simp)
   ·rw [if_neg c6] at H;exact absurd H (by simp)
  ·rw [if_neg c5] at H;exact absurd H (by simp)
def spec_DrawReadDeed.f (k : Nat) (l0 : List Int) : Option (ByteArray) := (spec_l20Open.f l0).bind fun bt629 => ((spec_l20Logic.f k bt629.1 bt629.2 0).bind fun bt632 => ((spec_l20Deed.f k bt629.1 bt632.2.2 bt632.1 bt632.2.1).bind fun bt639 => ((spec_DeedText.f k bt639.1 bt639.2.1 bt639.2.2.1).bind fun t643 => ((spec_l20Rd_pick.f k bt629.1 bt639.2.2.2 3).bind fun bt644 => (if bt644.1 = 0 then ((spec_l20Spoil.f k bt629.1 bt644.2 t643).bind fun bt646 => (some bt646.1)) else (some t643))))))
set_option maxHeartbeats 8000000 in
set_option maxRecDepth 100000 in
theorem spec_DrawReadDeed.calls (k : Nat) (A0 : Option Addr) (c0 : Nat) (l0 : List Int) (r : ByteArray) (w : World) (hr0 : Kd.C (Kd.int .u8) w A0 l0.length l0) (hc0 : l0.length ≤ c0) (h : spec_DrawReadDeed.f k l0 = some r) :
  Calls Tryd.prog 27 #[.slice A0 l0.length c0] w fun e w' => e = .returned (.string r) ∧ Below w.heap.size w w' := by
 have d2:=zqm hr0;have d1:=zqm hc0;clear hr0 hc0;have HB:=zqm (Below.refl w.heap.size w);have H:((spec_l20Open.f l0).bind fun a8=>((spec_l20Logic.f k a8.1 a8.2 0).bind fun b6=>((spec_l20Deed.f k a8.1 b6.2.2 b6.1 b6.2.1).bind fun b4=>((spec_DeedText.f k b4.1 b4.2.1 b4.2.2.1).bind fun a6=>((spec_l20Rd_pick.f k a8.1 b4.2.2.2 3).bind fun c2=>(if c2.1=0 then((spec_l20Spoil.f k a8.1 c2.2 a6).bind fun c3=>(some c3.1)) else(some a6)))))))=some r:=h;clear h;replace H:=Option.bind_eq_some_iff.mp H;obtain⟨⟨a3,b7⟩,c4,H⟩:=H;(try dsimp only at H);have A2:=zqm c4;clear c4;replace H:=Option.bind_eq_some_iff.mp H;obtain⟨⟨a9,b0,a4⟩,c5,H⟩:=H;(try dsimp only at H);have A3:=zqm c5;clear c5;replace H:=Option.bind_eq_some_iff.mp H;obtain⟨⟨b1,b2,b3,a5⟩,c6,H⟩:=H;(try dsimp only at H);have A4:=zqm c6;clear c6;replace H:=Option.bind_eq_some_iff.mp H;obtain⟨a6,c8,H⟩:=H;(try dsimp only at H);have A5:=zqm c8;clear c8;replace H:=Option.bind_eq_some_iff.mp H;obtain⟨⟨a7,b5⟩,c9,H⟩:=H;(try dsimp only at H);have A6:=zqm c9;clear c9
 by_cases c7:a7=0
 ·rw [if_pos c7] at H;have d7:(a7==0)=true:=beq_iff_eq.mpr c7;have d8:(a7 !=0)=false:=bne_eq_false_iff_eq.mpr c7;clear c7;replace H:=Option.bind_eq_some_iff.mp H;obtain⟨⟨e7,e8⟩,d0,H⟩:=H;(try dsimp only at H);have A8:=zqm d0;clear d0;obtain rfl:=Option.some.inj H
  go_enter Tryd.func27,Tryd.ntmps27
  go_wp2_with (first|((with_reducible refine gate_callee (f:=41) rfl ?_);refine goesL_ (some 6) rfl rfl Tryd.func41 zqk rfl #[.slice A0 l0.length c0] rfl zq2 ?_;(with_reducible refine(spec_l20Open.calls _ _ l0 a3 b7 w _ ?side1 ?side2 ?side3 A2.out).mono ?_);(case side1=> exact zq5);(case side2=>exact d2.out);(case side3=>exact d1.out);rintro e w9 ⟨g631,rfl,hi,hb,hb2⟩;refine⟨_,rfl,?_⟩;replace HB:=zqm (hb);have a0:=zqm (hi);clear hb hb2 hi)|((with_reducible refine gate_callee (f:=43) rfl ?_);refine goesL_ (some 9) rfl rfl Tryd.func43 zqk rfl #[.pointer (some ⟨g631,0,none⟩),.int .i64 0] rfl zq2 ?_;(with_reducible refine(spec_l20Logic.calls k g631 a3 b7 0 a9 b0 a4 w _ ?side1 ?side2 A3.out).mono ?_);(case side1=> exact zq17);(case side2=> exact zq16);rintro e f1 ⟨e9,f0,rfl,b8,b9,hi,hb,hk⟩;refine⟨_,rfl,?_⟩;have a2:=zqm (Kd.S_lower b8 (below_size zq16));have a1:=zqm (Kd.Q_lower b9 (below_size zq16));replace HB:=zqm (hb);replace a0:=zqm (hi);clear hb hk hi b8 b9;obtain⟨d3,d9,e3⟩:=Kd.S_slice a2.out;subst e3;obtain⟨d4,e0,e4,_⟩:=Kd.Q_slice a1.out;subst e4)|((with_reducible refine gate_callee (f:=42) rfl ?_);refine goesL_ (some 10) rfl rfl Tryd.func42 zqk rfl #[.pointer (some ⟨g631,0,none⟩),.agg #[.slice d3 a9.length d9,.slice d4 b0.length e0]] rfl zq2 ?_;(with_reducible refine(spec_l20Deed.calls k g631 a3 a4 _ _ a9 _ _ b0 b1 b2 b3 a5 w _ ?side1 ?side2 ?side3 ?side4 ?side5 ?side6 ?side7 A4.out).mono ?_);(case side1=> exact zq17);(case side2=> exact zq16);(case side3=> exact zq68);(case side4=>exact(Kd.S_reads' a2.out).2.1);(case side5=> exact zq100);(case side6=>exact(Kd.Q_reads' a1.out).2.1);(case side7=>exact far_slice (IsS78.own_neQ a0.out a1.out (by decide)));rintro e f2 ⟨rfl,hi,hb,hk⟩;refine⟨_,rfl,?_⟩;replace a2:=zqm (Kd.S_mono (Kd.S_keep (IsS78.apartS (show IsS78 w _ g631 a3 a4 from zq17) (zqfS a2.out) (by decide)) hk (fun _ h=>h.2)) (fun _ h=>h.1));replace a1:=zqm (Kd.Q_mono (Kd.Q_keep (IsS78.apartQ (show IsS78 w _ g631 a3 a4 from zq17) (zqfQ a1.out) (by decide)) hk (fun _ h=>h.2)) (fun _ h=>h.1));replace HB:=zqm (hb);replace a0:=zqm (hi);clear hb hk hi)|((with_reducible refine gate_callee (f:=10) rfl ?_);refine goesL_ (some 11) rfl rfl Tryd.func10 zqk rfl #[.agg #[.int .i64 b1,.int .i64 b2,.int .i64 b3]] rfl zq2 ?_;(with_reducible refine(spec_DeedText.calls k b1 b2 b3 a6 _ A5.out).mono ?_);rintro e f3 ⟨rfl,hb⟩;refine⟨_,rfl,?_⟩;replace a2:=zqm (Kd.S_below (zqfS a2.out) hb);replace a1:=zqm (Kd.Q_below (zqfQ a1.out) hb);have c1:=zqm (IsS78.below zq17 hb);replace HB:=zqm (below_step zq16 hb);clear a0;have a0:=c1;clear c1 hb)|((with_reducible refine gate_callee (f:=45) rfl ?_);refine goesL_ (some 13) rfl rfl Tryd.func45 zqk rfl #[.pointer (some ⟨g631,0,none⟩),.int .i64 3] rfl zq2 ?_;(with_reducible refine(spec_l20Rd_pick.calls k g631 a3 a5 3 a7 b5 w _ ?side1 ?side2 A6.out).mono ?_);(case side1=> exact zq17);(case side2=> exact zq16);rintro e f4 ⟨rfl,hi,hb,hk⟩;refine⟨_,rfl,?_⟩;replace a2:=zqm (Kd.S_mono (Kd.S_keep (IsS78.apartS (show IsS78 w _ g631 a3 a5 from zq17) (zqfS a2.out) (by decide)) hk (fun _ h=>h.2)) (fun _ h=>h.1));replace a1:=zqm (Kd.Q_mono (Kd.Q_keep (IsS78.apartQ (show IsS78 w _ g631 a3 a5 from zq17) (zqfQ a1.out) (by decide)) hk (fun _ h=>h.2)) (fun _ h=>h.1));replace HB:=zqm (hb);replace a0:=zqm (hi);clear hb hk hi)|((with_reducible refine gate_callee (f:=46) rfl ?_);refine goesL_ (some 17) rfl rfl Tryd.func46 zqk rfl #[.pointer (some ⟨g631,0,none⟩),.string a6] rfl zq2 ?_;(with_reducible refine(spec_l20Spoil.calls k g631 a3 b5 a6 e7 e8 w _ ?side1 ?side2 A8.out).mono ?_);(case side1=> exact zq17);(case side2=> exact zq16);rintro e f5 ⟨rfl,hi,hb,hk⟩;refine⟨_,rfl,?_⟩;replace a2:=zqm (Kd.S_mono (Kd.S_keep (IsS78.apartS (show IsS78 w _ g631 a3 b5 from zq17) (zqfS a2.out) (by decide)) hk (fun _ h=>h.2)) (fun _ h=>h.1));replace a1:=zqm (Kd.Q_mono (Kd.Q_keep (IsS78.apartQ (show IsS78 w _ g631 a3 b5 from zq17) (zqfQ a1.out) (by decide)) hk (fun _ h=>h.2)) (fun _ h=>h.1));replace HB:=zqm (hb);replace a0:=zqm (hi);clear hb hk hi))
  go_ret
  exact⟨zq23,zq16⟩
 ·rw [if_neg c7] at H;have d7:(a7==0)=false:=beq_eq_false_iff_ne.mpr c7;have d8:(a7 !=0)=true:=bne_iff_ne.mpr c7;obtain rfl:=Option.some.inj H
  go_enter Tryd.func27,Tryd.ntmps27
  go_wp2_with (first|((with_reducible refine gate_callee (f:=41) rfl ?_);refine goesL_ (some 6) rfl rfl Tryd.func41 zqk rfl #[.slice A0 l0.length c0] rfl zq2 ?_;(with_reducible refine(spec_l20Open.calls _ _ l0 a3 b7 w _ ?side1 ?side2 ?side3 A2.out).mono ?_);(case side1=> exact zq5);(case side2=>exact d2.out);(case side3=>exact d1.out);rintro e f6 ⟨g631,rfl,hi,hb,hb2⟩;refine⟨_,rfl,?_⟩;replace HB:=zqm (hb);have a0:=zqm (hi);clear hb hb2 hi)|((with_reducible refine gate_callee (f:=43) rfl ?_);refine goesL_ (some 9) rfl rfl Tryd.func43 zqk rfl #[.pointer (some ⟨g631,0,none⟩),.int .i64 0] rfl zq2 ?_;(with_reducible refine(spec_l20Logic.calls k g631 a3 b7 0 a9 b0 a4 w _ ?side1 ?side2 A3.out).mono ?_);(case side1=> exact zq17);(case side2=> exact zq16);rintro e f7 ⟨e9,f0,rfl,b8,b9,hi,hb,hk⟩;refine⟨_,rfl,?_⟩;have a2:=zqm (Kd.S_lower b8 (below_size zq16));have a1:=zqm (Kd.Q_lower b9 (below_size zq16));replace HB:=zqm (hb);replace a0:=zqm (hi);clear hb hk hi b8 b9;obtain⟨d5,e1,e5⟩:=Kd.S_slice a2.out;subst e5;obtain⟨d6,e2,e6,_⟩:=Kd.Q_slice a1.out;subst e6)|((with_reducible refine gate_callee (f:=42) rfl ?_);refine goesL_ (some 10) rfl rfl Tryd.func42 zqk rfl #[.pointer (some ⟨g631,0,none⟩),.agg #[.slice d5 a9.length e1,.slice d6 b0.length e2]] rfl zq2 ?_;(with_reducible refine(spec_l20Deed.calls k g631 a3 a4 _ _ a9 _ _ b0 b1 b2 b3 a5 w _ ?side1 ?side2 ?side3 ?side4 ?side5 ?side6 ?side7 A4.out).mono ?_);(case side1=> exact zq17);(case side2=> exact zq16);(case side3=> exact zq68);(case side4=>exact(Kd.S_reads' a2.out).2.1);(case side5=> exact zq100);(case side6=>exact(Kd.Q_reads' a1.out).2.1);(case side7=>exact far_slice (IsS78.own_neQ a0.out a1.out (by decide)));rintro e f8 ⟨rfl,hi,hb,hk⟩;refine⟨_,rfl,?_⟩;replace a2:=zqm (Kd.S_mono (Kd.S_keep (IsS78.apartS (show IsS78 w _ g631 a3 a4 from zq17) (zqfS a2.out) (by decide)) hk (fun _ h=>h.2)) (fun _ h=>h.1));replace a1:=zqm (Kd.Q_mono (Kd.Q_keep (IsS78.apartQ (show IsS78 w _ g631 a3 a4 from zq17) (zqfQ a1.out) (by decide)) hk (fun _ h=>h.2)) (fun _ h=>h.1));replace HB:=zqm (hb);replace a0:=zqm (hi);clear hb hk hi)|((with_reducible refine gate_callee (f:=10) rfl ?_);refine goesL_ (some 11) rfl rfl Tryd.func10 zqk rfl #[.agg #[.int .i64 b1,.int .i64 b2,.int .i64 b3]] rfl zq2 ?_;(with_reducible refine(spec_DeedText.calls k b1 b2 b3 a6 _ A5.out).mono ?_);rintro e f9 ⟨rfl,hb⟩;refine⟨_,rfl,?_⟩;replace a2:=zqm (Kd.S_below (zqfS a2.out) hb);replace a1:=zqm (Kd.Q_below (zqfQ a1.out) hb);have c1:=zqm (IsS78.below zq17 hb);replace HB:=zqm (below_step zq16 hb);clear a0;have a0:=c1;clear c1 hb)|((with_reducible refine gate_callee (f:=45) rfl ?_);refine goesL_ (some 13) rfl rfl Tryd.func45 zqk rfl #[.pointer (some ⟨g631,0,none⟩),.int .i64 3] rfl zq2 ?_;(with_reducible refine(spec_l20Rd_pick.calls k g631 a3 a5 3 a7 b5 w _ ?side1 ?side2 A6.out).mono ?_);(case side1=> exact zq17);(case side2=> exact zq16);rintro e g0 ⟨rfl,hi,hb,hk⟩;refine⟨_,rfl,?_⟩;replace a2:=zqm (Kd.S_mono (Kd.S_keep (IsS78.apartS (show IsS78 w _ g631 a3 a5 from zq17) (zqfS a2.out) (by decide)) hk (fun _ h=>h.2)) (fun _ h=>h.1));replace a1:=zqm (Kd.Q_mono (Kd.Q_keep (IsS78.apartQ (show IsS78 w _ g631 a3 a5 from zq17) (zqfQ a1.out) (by decide)) hk (fun _ h=>h.2)) (fun _ h=>h.1));replace HB:=zqm (hb);replace a0:=zqm (hi);clear hb hk hi))
  go_ret
  exact⟨zq23,zq16⟩
end Go.Proofs.YtddgcdpogpppgaaDoor.Print
end
section
namespace Go.Proofs.YtddgcdpogpppgaaDoor.Print
open Go.RowKit Go.Proofs.YtddgcdpogpppgaaDoorW.PrintWords Go.Proofs.YtddgcdpogpppgaaDoorW.PrintLast Go.Proofs.YtddgcdpogpppgaaDoorW.PrintMore
open Oml
section
section
variable {b : List Int} (hb : Bytes b) (hl : b.length ≤ 2000)
include hb hl
theorem spoil_ev {p : Int} (h0 : 0 ≤ p) (h1 : p ≤ 999999800) (t : ByteArray) (ht : t.size ≤ 16777216) : ∃ s q, Ev (fun m => spec_l20Spoil.f m b p t) (s, q) ∧ s.size ≤ t.size + 4 := by
 unfold spec_l20Spoil.f
 by_cases h:(t.size:Int)=0
 ·refine⟨⟨#[10]⟩,p,Ev.ite_pos h (Ev.now _),?_⟩
  show 1≤_
  omega
 ·obtain⟨v1,e1,a1,b1⟩:=pick_ev hb hl (p:=p) h0 (by omega) (t.size:Int)
  obtain⟨v2,e2,a2,b2⟩:=pick_ev hb hl (p:=p+1) (by omega) (by omega) 6
  have c1:=b1 (by omega)
  have c2:=b2 (by decide)
  obtain⟨y,hy⟩: ∃y,rdOf ByteArray.empty [(⟨#[]⟩:ByteArray),(⟨#[48]⟩:ByteArray),(⟨#[32]⟩:ByteArray),(⟨#[10]⟩:ByteArray),(⟨#[45]⟩:ByteArray),(⟨#[98,97,99,107]⟩:ByteArray)] v2=y:=⟨_,rfl⟩
  have hys:y.size≤4:=by
   rw [← hy]
   have hv:v2=0∨v2=1∨v2=2∨v2=3∨v2=4∨v2=5:=by omega
   rcases hv with rfl|rfl|rfl|rfl|rfl|rfl <;> decide
  have w1:wrap64 (v1+1)=v1+1:=by unfold wrap64;omega
  have s1:(t.extract 0 v1.toNat).size=v1.toNat:=by rw [ByteArray.size_extract];omega
  have s2:(t.extract (v1+1).toNat t.size).size=t.size - (v1+1).toNat:=by rw [ByteArray.size_extract];omega
  have s3:(t.extract 0 v1.toNat ++ y).size=v1.toNat+y.size:=by rw [ByteArray.size_append,s1]
  refine⟨(t.extract 0 v1.toNat ++ y) ++ t.extract (v1+1).toNat t.size,p+1+1,Ev.ite_neg h (Ev.bind e1 (Ev.ite_pos a1 (Ev.ite_pos (by omega) (Ev.pbind rfl (Ev.bind e2 ?_))))),?_⟩
  ·refine Ev.ite_pos a2 (Ev.ite_pos c2 ?_)
   simp only [hy,w1,s1,s2,s3]
   exact Ev.ite_pos (by omega) (Ev.ite_pos (by omega) (Ev.ite_pos (by omega) (Ev.ite_pos (by omega) (Ev.now _))))
  ·rw [ByteArray.size_append,s3,s2]
   omega
end
theorem drawn_text {l : List Int} (h : Bytes l) : ∃ s, Ev (fun m => spec_DrawReadDeed.f m l) s ∧ s.size ≤ 14 := by
 obtain⟨b,hb,hl,e⟩:=open_ev h
 obtain⟨U,N,q,e2,h1,h2⟩:=logic_ev hb hl (p:=0) (by omega) (by omega) 0
 obtain⟨k,a,c,q2,e3,h3,h4⟩:=deed_draw hb hl (p:=q) (by omega) (by omega) U N
 obtain⟨v,e4,_,_⟩:=pick_ev hb hl (p:=q2) (by omega) (by omega) 3
 have ht:=deedT_size k a c
 obtain⟨s,q3,e5,h5⟩:=spoil_ev hb hl (p:=q2+1) (by omega) (by omega) (deedT k a c) (by omega)
 unfold spec_DrawReadDeed.f
 by_cases h0:v=0
 ·exact⟨s,Ev.pbind e (Ev.bind e2 (Ev.bind e3 (Ev.bind (spec_DeedText.ev k a c) (Ev.bind e4 (Ev.ite_pos h0 (Ev.bind e5 (Ev.now _))))))),by omega⟩
 ·exact⟨deedT k a c,Ev.pbind e (Ev.bind e2 (Ev.bind e3 (Ev.bind (spec_DeedText.ev k a c) (Ev.bind e4 (Ev.ite_neg h0 (Ev.now _)))))),by omega⟩
theorem rd_space {s : ByteArray} (h : (rdD s).2.2.2 = true) : (rdD (s ++ ⟨#[32]⟩)).2.2.2 = false := by
 rcases rd_cases (s ++ ⟨#[32]⟩) with ⟨k,a,b,h1,h2,_⟩|⟨h1,_⟩
 ·exfalso
  have last: ∀n,n<100→ ∃z,(numL n).getLast? =some z∧z≠32:=fun n hn=>by
   cases hg:(numL n).getLast? with
   |none=>have:=num_pos n;rw [List.getLast?_eq_none_iff.1 hg] at this;exact absurd this (by simp)
   |some z=>exact⟨z,rfl,fun e=>num_tab ⟨n,hn⟩ (by rw [← e];exact List.mem_of_getLast? hg)⟩
  have hne:(deedL k a b).getLast?≠some 32:=by
   unfold deedL
   rcases deedV_iff.1 h1 with ⟨rfl,h4,rfl⟩|⟨rfl,h4,rfl⟩|⟨rfl,rfl,rfl⟩|⟨rfl,h4,h5⟩|⟨rfl,rfl,rfl⟩
   ·obtain⟨z,h6,h7⟩:=last a.toNat (by omega)
    rw [if_pos rfl,List.getLast?_append,h6];simpa using h7
   ·obtain⟨z,h6,h7⟩:=last a.toNat (by omega)
    rw [if_neg (by decide),if_pos rfl,List.getLast?_append,h6];simpa using h7
   ·decide
   ·obtain⟨z,h6,h7⟩:=last b.toNat (by omega)
    rw [if_neg (by decide),if_neg (by decide),if_neg (by decide),if_pos rfl,List.getLast?_append,h6];simpa using h7
   ·decide
  refine hne ?_
  have h3:=congrArg (fun x:ByteArray=>x.data.toList) h2
  unfold deedT at h3
  rw [if_pos h1] at h3
  have h4:deedL k a b=s.data.toList ++ [32]:=by
   refine Eq.trans ?_ (h3.trans ?_)
   ·rfl
   ·simp [ByteArray.data_append]
  rw [h4,List.getLast?_append];rfl
 ·rw [h1]
theorem rd_text {s : ByteArray} (h : (rdD s).2.2.2 = true) : deedT (rdD s).1 (rdD s).2.1 (rdD s).2.2.1 = s := by
 rcases rd_cases s with ⟨k,a,b,h1,h2,h3⟩|⟨h1,_⟩
 ·rw [h3];exact h2
 ·rw [h1] at h;exact absurd h (by simp)
theorem rd_zero {s : ByteArray} (h : (rdD s).2.2.2 = false) : rdD s = (0, 0, 0, false) := by
 rcases rd_cases s with ⟨k,a,b,h1,h2,h3⟩|⟨h1,_⟩
 ·rw [h3] at h;exact absurd h (by simp)
 ·exact h1
end
set_option maxHeartbeats 4000000 in
set_option maxRecDepth 100000 in
theorem laws_FnReadDeed.holds (A : Option Addr) (c : Nat) (l : List Int) (w : World) (ad : Addr) (cw : Nat) (hW : WordsAt w ad cw) (hE : ErrsAt w) (hr : Kd.C (Kd.int .u8) w A l.length l) (hc : l.length ≤ c) (hby : Bytes l) :
 Calls Tryd.prog 8 #[.slice A l.length c] w fun e w'=>e= .returned (.bool true)∧Below w.heap.size w w':=by
 have hu25:=Tryd.underlying25
 have HW:=zqm hW
 have HE:=zqm hE
 have HR:=zqm hr
 have HC:=zqm hc
 have HB:=zqm (Below.refl w.heap.size w)
 by_cases hl:1048576<l.length
 ·clear hW hE hr hc hby
  have p0:((1048576:Int)<(l.length:Int))=True:=eq_true (by omega)
  have p0':decide ((1048576:Int)<(l.length:Int))=true:=decide_eq_true (by omega)
  have p0n:(1048576<l.length)=True:=eq_true hl
  have p0n':decide (1048576<l.length)=true:=decide_eq_true hl
  clear hl
  go_enter Tryd.func8,Tryd.ntmps8
  go_wp2_with (first|fail)
  go_ret
  exact⟨rfl,zq32⟩
 ·have p0:((1048576:Int)<(l.length:Int))=False:=eq_false (by omega)
  have p0':decide ((1048576:Int)<(l.length:Int))=false:=decide_eq_false (by omega)
  have p0n:(1048576<l.length)=False:=eq_false hl
  have p0n':decide (1048576<l.length)=false:=decide_eq_false hl
  obtain⟨s,h1,hss⟩:=drawn_text hby
  obtain⟨K,h1⟩:=h1.rounds
  obtain⟨m,hm⟩:=(spec_ReadDeed.ev s (by omega)).rounds
  obtain⟨KA,hal⟩:=alive_run.rounds
  have HAL:=zqm hal
  have H1:=zqm h1
  have hrd:=fun w (h1:WordsAt w ad cw) (h2:ErrsAt w)=>read_calls s w ad cw h1 h2 (by omega)
  have hre:=fun w (h1:WordsAt w ad cw) (h2:ErrsAt w)=>read_calls (s ++ ⟨#[32]⟩) w ad cw h1 h2 (by rw [ByteArray.size_append];show s.size+1<_;omega)
  have sz1:(9223372036854775807<s.size+1)=False:=eq_false (by omega)
  have tok1:True:=trivial
  clear h1 hal
  clear hW hE hr hc hby hl
  cases ho:(rdD s).2.2.2 with
  |false=>
   have e:=rd_zero ho
   rw [e] at hm hrd
   have HM:=zqm hm
   have HRD:=zqm hrd
   clear hm hrd hre ho e hss
   go_enter Tryd.func8,Tryd.ntmps8
   go_wp2_with (first|(go_at_call 27;(with_reducible refine(spec_DrawReadDeed.calls K A c l s _ HR.out HC.out H1.out).mono ?_);rintro e w' ⟨rfl,hb⟩;have n0_:=zqm (below_step HB.out hb);clear HB;have HB:=n0_;clear n0_;clear hb HR)|(have _t:=tok1;go_at_call 19;(with_reducible refine(HRD.out _ (HW.out.below HB.out) (HE.out.below HB.out)).mono ?_);rintro e w' ⟨rfl,hb⟩;have n0_:=zqm (below_step HB.out hb);clear HB;have HB:=n0_;clear n0_;clear hb;clear tok1 _t;have tok2:True:=trivial)|((with_reducible refine gate_dst (N:=4) rfl ?_);refine box_event ?hg (N:=4) ?hd (cs:= #[.int .i64 0,.int .i64 0,.int .i64 0]) (t:=25) ?hr ?_;(case hd=>rfl);(case hg=>rfl);(case hr=> exact zq18);intro g4 hg_ wb4 hbox hb;have HBo:=HB;have n0_:=zqm (below_step HB.out hb);clear HB;have HB:=n0_;clear n0_;have HX:=zqm hbox;have HXW:=zqm (show w.heap.size≤g4 from zq136);clear HBo hbox hb hg_)|((with_reducible refine gate_store (t:=25) (p:=4) rfl ?_);have hc0_:wb4.cell? ⟨g4,0,none⟩=some (.int .i64 0):=(blk_cell HX.out 0).trans rfl;have hf0_:=blk_frozen HX.out 0;have hc1_:wb4.cell? ⟨g4,1,none⟩=some (.int .i64 0):=(blk_cell HX.out 1).trans rfl;have hf1_:=blk_frozen HX.out 1;have hc2_:wb4.cell? ⟨g4,2,none⟩=some (.int .i64 0):=(blk_cell HX.out 2).trans rfl;have hf2_:=blk_frozen HX.out 2;refine store_event (t:=25) (p:=4) (v:=?vo_4) (w1:=((wb4.setCell ⟨g4,0,none⟩ (.int .i64 0)).setCell ⟨g4,1,none⟩ (.int .i64 0)).setCell ⟨g4,2,none⟩ (.int .i64 0)) ?hg ?ho ?hn ?hr ?_;(case ho=>rfl);(case hg=>rfl);(case hn=>rfl);(case hr=> exact zq18);intro ws4 hw;clear hc0_ hc1_ hc2_ hf0_ hf1_ hf2_;have n0_:=zqm ((by rw [hw];exact below_set (below_set (below_set HB.out HXW.out) HXW.out) HXW.out:Below w.heap.size w ws4));have n1_:=zqm ((by rw [hw];exact blk_put (blk_put (blk_put HX.out 0 _ rfl) 1 _ rfl) 2 _ rfl:ws4.heap[g4]? =some (.cells #[.int .i64 0,.int .i64 0,.int .i64 0] 25 (0,0))));clear HB HX;have HB:=n0_;have HX:=n1_;clear n0_ n1_;clear hw)|(go_at_call 18;(with_reducible refine(spec_ReadDeed.calls m s 0 0 0 false _ HM.out).mono ?_);rintro e w' ⟨rfl,hb⟩;have n0_:=zqm (below_step HB.out hb);have n1_:=zqm (blk_below HX.out hb);clear HB HX;have HB:=n0_;have HX:=n1_;clear n0_ n1_;clear hb)|((with_reducible refine gate_dst (N:=6) rfl ?_);refine box_event ?hg (N:=6) ?hd (cs:= #[.int .i64 0,.int .i64 0,.int .i64 0]) (t:=25) ?hr ?_;(case hd=>rfl);(case hg=>rfl);(case hr=> exact zq18);intro g6 hg_ wb6 hbox hb;have HNE:=zqm (show g4≠g6 from zq142);have HBo:=HB;have n0_:=zqm (below_step HB.out hb);have n1_:=zqm (blk_below HX.out hb);clear HB HX;have HB:=n0_;have HX:=n1_;clear n0_ n1_;have HY:=zqm hbox;have HYW:=zqm (show w.heap.size≤g6 from zq136);clear HBo hbox hb hg_)|((with_reducible refine gate_store (t:=25) (p:=6) rfl ?_);have hc0_:wb6.cell? ⟨g6,0,none⟩=some (.int .i64 0):=(blk_cell HY.out 0).trans rfl;have hf0_:=blk_frozen HY.out 0;have hc1_:wb6.cell? ⟨g6,1,none⟩=some (.int .i64 0):=(blk_cell HY.out 1).trans rfl;have hf1_:=blk_frozen HY.out 1;have hc2_:wb6.cell? ⟨g6,2,none⟩=some (.int .i64 0):=(blk_cell HY.out 2).trans rfl;have hf2_:=blk_frozen HY.out 2;refine store_event (t:=25) (p:=6) (v:=?vo_6) (w1:=((wb6.setCell ⟨g6,0,none⟩ (.int .i64 0)).setCell ⟨g6,1,none⟩ (.int .i64 0)).setCell ⟨g6,2,none⟩ (.int .i64 0)) ?hg ?ho ?hn ?hr ?_;(case ho=>rfl);(case hg=>rfl);(case hn=>rfl);(case hr=> exact zq18);intro ws6 hw;clear hc0_ hc1_ hc2_ hf0_ hf1_ hf2_;have n0_:=zqm ((by rw [hw];exact below_set (below_set (below_set HB.out HYW.out) HYW.out) HYW.out:Below w.heap.size w ws6));have n1_:=zqm ((by rw [hw];exact blk_put (blk_put (blk_put HY.out 0 _ rfl) 1 _ rfl) 2 _ rfl:ws6.heap[g6]? =some (.cells #[.int .i64 0,.int .i64 0,.int .i64 0] 25 (0,0))));have n2_:=zqm ((by rw [hw];exact blk_far (blk_far (blk_far HX.out HNE.out _) HNE.out _) HNE.out _:ws6.heap[g4]? =some (.cells #[.int .i64 0,.int .i64 0,.int .i64 0] 25 (0,0))));clear HB HY HX;have HB:=n0_;have HY:=n1_;have HX:=n2_;clear n0_ n1_ n2_;clear hw;have hx0:ws6.cell? ⟨g4,0,none⟩=some (.int .i64 0):=(blk_cell HX.out 0).trans rfl;have hx1:ws6.cell? ⟨g4,1,none⟩=some (.int .i64 0):=(blk_cell HX.out 1).trans rfl;have hx2:ws6.cell? ⟨g4,2,none⟩=some (.int .i64 0):=(blk_cell HX.out 2).trans rfl;have hy0:ws6.cell? ⟨g6,0,none⟩=some (.int .i64 0):=(blk_cell HY.out 0).trans rfl;have hy1:ws6.cell? ⟨g6,1,none⟩=some (.int .i64 0):=(blk_cell HY.out 1).trans rfl;have hy2:ws6.cell? ⟨g6,2,none⟩=some (.int .i64 0):=(blk_cell HY.out 2).trans rfl)|(go_at_call 26;(with_reducible refine(laws_alive.calls KA true _ HAL.out).mono ?_);rintro e w' ⟨rfl,hb⟩;clear hx0 hx1 hx2 hy0 hy1 hy2;have n0_:=zqm (below_step HB.out hb);clear HB;have HB:=n0_;clear n0_;clear hb))
   go_ret
   exact⟨rfl,zq32⟩
  |true=>
   have hx:=rd_text ho
   have hf:=rd_space ho
   obtain⟨⟨k,a,b,o⟩,hr⟩: ∃x,x=rdD s:=⟨_,rfl⟩
   obtain⟨⟨k2,a2,b2,o2⟩,hr2⟩: ∃x,x=rdD (s ++ ⟨#[32]⟩):=⟨_,rfl⟩
   rw [← hr] at hm hrd ho hx
   rw [← hr2] at hre hf
   obtain rfl:o=true:=ho
   obtain rfl:o2=false:=hf
   have hd:=fun w (h:WordsAt w ad cw)=>deed_calls k a b w ad cw h
   rw [show deedT k a b=s from hx] at hd
   have HD:=zqm hd
   have HM:=zqm hm
   have HRD:=zqm hrd
   have HRE:=zqm hre
   clear hm hrd hre hd hx hr hr2 hss
   go_enter Tryd.func8,Tryd.ntmps8
   go_wp2_with (first|(go_at_call 27;(with_reducible refine(spec_DrawReadDeed.calls K A c l s _ HR.out HC.out H1.out).mono ?_);rintro e w' ⟨rfl,hb⟩;have n0_:=zqm (below_step HB.out hb);clear HB;have HB:=n0_;clear n0_;clear hb HR)|(have _t:=tok1;go_at_call 19;(with_reducible refine(HRD.out _ (HW.out.below HB.out) (HE.out.below HB.out)).mono ?_);rintro e w' ⟨rfl,hb⟩;have n0_:=zqm (below_step HB.out hb);clear HB;have HB:=n0_;clear n0_;clear hb;clear tok1 _t;have tok2:True:=trivial)|((with_reducible refine gate_dst (N:=4) rfl ?_);refine box_event ?hg (N:=4) ?hd (cs:= #[.int .i64 0,.int .i64 0,.int .i64 0]) (t:=25) ?hr ?_;(case hd=>rfl);(case hg=>rfl);(case hr=> exact zq18);intro g4 hg_ wb4 hbox hb;have HBo:=HB;have n0_:=zqm (below_step HB.out hb);clear HB;have HB:=n0_;clear n0_;have HX:=zqm hbox;have HXW:=zqm (show w.heap.size≤g4 from zq136);clear HBo hbox hb hg_)|((with_reducible refine gate_store (t:=25) (p:=4) rfl ?_);have hc0_:wb4.cell? ⟨g4,0,none⟩=some (.int .i64 0):=(blk_cell HX.out 0).trans rfl;have hf0_:=blk_frozen HX.out 0;have hc1_:wb4.cell? ⟨g4,1,none⟩=some (.int .i64 0):=(blk_cell HX.out 1).trans rfl;have hf1_:=blk_frozen HX.out 1;have hc2_:wb4.cell? ⟨g4,2,none⟩=some (.int .i64 0):=(blk_cell HX.out 2).trans rfl;have hf2_:=blk_frozen HX.out 2;refine store_event (t:=25) (p:=4) (v:=?vo_4) (w1:=((wb4.setCell ⟨g4,0,none⟩ (.int .i64 k)).setCell ⟨g4,1,none⟩ (.int .i64 a)).setCell ⟨g4,2,none⟩ (.int .i64 b)) ?hg ?ho ?hn ?hr ?_;(case ho=>rfl);(case hg=>rfl);(case hn=>rfl);(case hr=> exact zq18);intro ws4 hw;clear hc0_ hc1_ hc2_ hf0_ hf1_ hf2_;have n0_:=zqm ((by rw [hw];exact below_set (below_set (below_set HB.out HXW.out) HXW.out) HXW.out:Below w.heap.size w ws4));have n1_:=zqm ((by rw [hw];exact blk_put (blk_put (blk_put HX.out 0 _ rfl) 1 _ rfl) 2 _ rfl:ws4.heap[g4]? =some (.cells #[.int .i64 k,.int .i64 a,.int .i64 b] 25 (0,0))));clear HB HX;have HB:=n0_;have HX:=n1_;clear n0_ n1_;clear hw)|(go_at_call 18;(with_reducible refine(spec_ReadDeed.calls m s k a b true _ HM.out).mono ?_);rintro e w' ⟨rfl,hb⟩;have n0_:=zqm (below_step HB.out hb);have n1_:=zqm (blk_below HX.out hb);clear HB HX;have HB:=n0_;have HX:=n1_;clear n0_ n1_;clear hb)|((with_reducible refine gate_dst (N:=6) rfl ?_);refine box_event ?hg (N:=6) ?hd (cs:= #[.int .i64 0,.int .i64 0,.int .i64 0]) (t:=25) ?hr ?_;(case hd=>rfl);(case hg=>rfl);(case hr=> exact zq18);intro g6 hg_ wb6 hbox hb;have HNE:=zqm (show g4≠g6 from zq142);have HBo:=HB;have n0_:=zqm (below_step HB.out hb);have n1_:=zqm (blk_below HX.out hb);clear HB HX;have HB:=n0_;have HX:=n1_;clear n0_ n1_;have HY:=zqm hbox;have HYW:=zqm (show w.heap.size≤g6 from zq136);clear HBo hbox hb hg_)|((with_reducible refine gate_store (t:=25) (p:=6) rfl ?_);have hc0_:wb6.cell? ⟨g6,0,none⟩=some (.int .i64 0):=(blk_cell HY.out 0).trans rfl;have hf0_:=blk_frozen HY.out 0;have hc1_:wb6.cell? ⟨g6,1,none⟩=some (.int .i64 0):=(blk_cell HY.out 1).trans rfl;have hf1_:=blk_frozen HY.out 1;have hc2_:wb6.cell? ⟨g6,2,none⟩=some (.int .i64 0):=(blk_cell HY.out 2).trans rfl;have hf2_:=blk_frozen HY.out 2;refine store_event (t:=25) (p:=6) (v:=?vo_6) (w1:=((wb6.setCell ⟨g6,0,none⟩ (.int .i64 k)).setCell ⟨g6,1,none⟩ (.int .i64 a)).setCell ⟨g6,2,none⟩ (.int .i64 b)) ?hg ?ho ?hn ?hr ?_;(case ho=>rfl);(case hg=>rfl);(case hn=>rfl);(case hr=> exact zq18);intro ws6 hw;clear hc0_ hc1_ hc2_ hf0_ hf1_ hf2_;have n0_:=zqm ((by rw [hw];exact below_set (below_set (below_set HB.out HYW.out) HYW.out) HYW.out:Below w.heap.size w ws6));have n1_:=zqm ((by rw [hw];exact blk_put (blk_put (blk_put HY.out 0 _ rfl) 1 _ rfl) 2 _ rfl:ws6.heap[g6]? =some (.cells #[.int .i64 k,.int .i64 a,.int .i64 b] 25 (0,0))));have n2_:=zqm ((by rw [hw];exact blk_far (blk_far (blk_far HX.out HNE.out _) HNE.out _) HNE.out _:ws6.heap[g4]? =some (.cells #[.int .i64 k,.int .i64 a,.int .i64 b] 25 (0,0))));clear HB HY HX;have HB:=n0_;have HY:=n1_;have HX:=n2_;clear n0_ n1_ n2_;clear hw;have hx0:ws6.cell? ⟨g4,0,none⟩=some (.int .i64 k):=(blk_cell HX.out 0).trans rfl;have hx1:ws6.cell? ⟨g4,1,none⟩=some (.int .i64 a):=(blk_cell HX.out 1).trans rfl;have hx2:ws6.cell? ⟨g4,2,none⟩=some (.int .i64 b):=(blk_cell HX.out 2).trans rfl;have hy0:ws6.cell? ⟨g6,0,none⟩=some (.int .i64 k):=(blk_cell HY.out 0).trans rfl;have hy1:ws6.cell? ⟨g6,1,none⟩=some (.int .i64 a):=(blk_cell HY.out 1).trans rfl;have hy2:ws6.cell? ⟨g6,2,none⟩=some (.int .i64 b):=(blk_cell HY.out 2).trans rfl)|(have _t:=tok2;go_at_call 19;(with_reducible refine(HRE.out _ (HW.out.below HB.out) (HE.out.below HB.out)).mono ?_);rintro e w' ⟨rfl,hb⟩;clear hx0 hx1 hx2 hy0 hy1 hy2;have n0_:=zqm (below_step HB.out hb);have n1_:=zqm (blk_below HX.out hb);clear HB HX;have HB:=n0_;have HX:=n1_;clear n0_ n1_;clear hb;clear tok2 _t;have tok3:True:=trivial)|((with_reducible refine gate_dst (N:=8) rfl ?_);refine box_event ?hg (N:=8) ?hd (cs:= #[.int .i64 0,.int .i64 0,.int .i64 0]) (t:=25) ?hr ?_;(case hd=>rfl);(case hg=>rfl);(case hr=> exact zq18);intro g8 hg_ wb8 hbox hb;have HNF:=zqm (show g4≠g8 from zq142);have HBo:=HB;have n0_:=zqm (below_step HB.out hb);have n1_:=zqm (blk_below HX.out hb);clear HB HX;have HB:=n0_;have HX:=n1_;clear n0_ n1_;have HZ:=zqm hbox;have HZW:=zqm (show w.heap.size≤g8 from zq136);clear HBo hbox hb hg_)|((with_reducible refine gate_store (t:=25) (p:=8) rfl ?_);have hc0_:wb8.cell? ⟨g8,0,none⟩=some (.int .i64 0):=(blk_cell HZ.out 0).trans rfl;have hf0_:=blk_frozen HZ.out 0;have hc1_:wb8.cell? ⟨g8,1,none⟩=some (.int .i64 0):=(blk_cell HZ.out 1).trans rfl;have hf1_:=blk_frozen HZ.out 1;have hc2_:wb8.cell? ⟨g8,2,none⟩=some (.int .i64 0):=(blk_cell HZ.out 2).trans rfl;have hf2_:=blk_frozen HZ.out 2;refine store_event (t:=25) (p:=8) (v:=?vo_8) (w1:=((wb8.setCell ⟨g8,0,none⟩ (.int .i64 k2)).setCell ⟨g8,1,none⟩ (.int .i64 a2)).setCell ⟨g8,2,none⟩ (.int .i64 b2)) ?hg ?ho ?hn ?hr ?_;(case ho=>rfl);(case hg=>rfl);(case hn=>rfl);(case hr=> exact zq18);intro ws8 hw;clear hc0_ hc1_ hc2_ hf0_ hf1_ hf2_;have n0_:=zqm ((by rw [hw];exact below_set (below_set (below_set HB.out HZW.out) HZW.out) HZW.out:Below w.heap.size w ws8));have n1_:=zqm ((by rw [hw];exact blk_put (blk_put (blk_put HZ.out 0 _ rfl) 1 _ rfl) 2 _ rfl:ws8.heap[g8]? =some (.cells #[.int .i64 k2,.int .i64 a2,.int .i64 b2] 25 (0,0))));have n2_:=zqm ((by rw [hw];exact blk_far (blk_far (blk_far HX.out HNF.out _) HNF.out _) HNF.out _:ws8.heap[g4]? =some (.cells #[.int .i64 k,.int .i64 a,.int .i64 b] 25 (0,0))));clear HB HZ HX;have HB:=n0_;have HZ:=n1_;have HX:=n2_;clear n0_ n1_ n2_;clear hw;have hx0:ws8.cell? ⟨g4,0,none⟩=some (.int .i64 k):=(blk_cell HX.out 0).trans rfl;have hx1:ws8.cell? ⟨g4,1,none⟩=some (.int .i64 a):=(blk_cell HX.out 1).trans rfl;have hx2:ws8.cell? ⟨g4,2,none⟩=some (.int .i64 b):=(blk_cell HX.out 2).trans rfl)|(go_at_call 12;(with_reducible refine(HD.out _ (HW.out.below HB.out)).mono ?_);rintro e w' ⟨rfl,hb⟩;clear hx0 hx1 hx2;have n0_:=zqm (below_step HB.out hb);clear HB;have HB:=n0_;clear n0_;clear hb))
   go_ret
   exact⟨rfl,zq32⟩
end Go.Proofs.YtddgcdpogpppgaaDoor.Print
end
