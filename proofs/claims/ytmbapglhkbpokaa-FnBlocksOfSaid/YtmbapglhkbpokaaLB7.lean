/- Part 7 of what is common to several claims of this seat: BlocksOfL. -/
import Derived.Test.YtmbapglhkbpokaaLB6
import Derived.Below
import Derived.Deep.Draws
import Derived.Deep.AppendLies
import Derived.Maps.AppendAt
import Derived.OwnWalk
import Derived.Laws.BytesArg
import Derived.Laws.MakeOwn
import Derived.Laws.OwnMore
import Derived.Deep.OwnRows
import Derived.Tactics
import Derived.Lib.ConvBytes
import Derived.Laws.Slices
import Derived.WalkKit
import Derived.KernelRfl
import Derived.RowKit3
import Derived.Deep.LoopGhost
import Derived.Deep.QuietTactic
import Derived.BigQuiet
import Derived.WideLaws
import Derived.Deep.DeepCutAuto
import Derived.Deep.CutBlock
import Derived.Deep.RegionHeld3
import Derived.Laws.Rows
import Derived.Lib.AppendStr
import Derived.ArgAppend
import Derived.Laws.IdiomCopy
import Derived.RowKit
import Derived.OrdersHeld
import Derived.Laws.BitsLemmas
import Derived.Test.YtmbapglhkbpokaaProg
import Derived.Laws.Bits64b
import Derived.Maps.OwnOps
import Derived.Maps.Views
set_option linter.all false
section
namespace Go.Proofs.Ytmbapglhkbpokaa.Print
open Go.RowKit Go.Proofs.YtmbapglhkbpokaaW.PrintWords Go.Proofs.YtmbapglhkbpokaaW.PrintLast Go.Proofs.YtmbapglhkbpokaaW.PrintMore
open Oml
section
theorem mapLaw : Maps.Keyed Try.prog 3 := Maps.int_keyed Try.underlying3
theorem mapZero (w : World) : (zeroValue 3).run Try.prog w = .ok (.int .i64 0) w := by kernel_rfl
theorem ownsMap_below {H : Type} {P : Program} {k : TypeId} {R : Value → Option (DataW H × List MemPlace)} {b n : Nat} {D : DataW H} {w w1 : World} (h : w.ownsMap P k R b n D) (hb : Below w.heap.size w w1) : w1.ownsMap P k R b n D := by
 obtain⟨es,clock,h1,F,hs,hD⟩:=h
 exact⟨es,clock,blk_below h1 hb,F,hs,hD⟩
theorem ownsMap_new {P : Program} {k : TypeId} {R : Value → Option (DataW Unit × List MemPlace)} {w : World} {m : Nat} (h : w.heap[m]? = some (.map #[] 0)) : w.ownsMap P k R m 0 (.map []) := by
 obtain⟨es,clock,h1,F,hs,hD⟩:=World.ownsMap_made (H:=Unit) w P k R
 have h2:(w.alloc (.map #[] 0)).heap[w.heap.size]? =some (.map #[] 0):=(MapKept.heap_alloc w _).1
 rw [h2] at h1
 injection h1 with h1
 injection h1 with e1 e2
 subst e1;subst e2
 exact⟨#[],0,h,F,hs,hD⟩
theorem map_event {P : Program} {ops : Array Oper} {rest : List Oper} {o : Oper} {a : Act} {Q : Exit → Act → World → Prop} {W : World} (hgd : o.guard = none) {N : Tmp} (_hd : o.dst = some N)
 (hrun:(execOp a.eval o).run P W= .ok (.value (.map (some W.heap.size))) (W.alloc (.map #[] 0)))
 (h: ∀g,g=W.heap.size→ ∀w1,w1.heap[g]? =some (.map #[] 0)→Below W.heap.size W w1→wpList P ops Q rest (a.put o.dst (.map (some g))) w1):wpList P ops Q (o :: rest) a W:=
 Kd.event_run hgd hrun (h _ rfl _ (blk_new W _) (below_alloc (Below.refl _ _) _))
def plD (l : List Nat) : Nat → DataW Unit
 | 0 => .map []
 | k + 1 => (plD l k).put (.int .i64 (l.getD k 0 : Nat)) (.lit (.int .i64 (k : Nat)))
theorem put_isMap {D : DataW Unit} {k : Lit} {d : DataW Unit} (h : Maps.IsMap D) : Maps.IsMap (D.put k d) := by
 obtain ⟨es, rfl⟩ := h
 exact ⟨_, rfl⟩
theorem plD_isMap (l : List Nat) : ∀ k, Maps.IsMap (plD l k)
 | 0 => ⟨[], rfl⟩
 | k + 1 => put_isMap (plD_isMap l k)
theorem plD_at (l : List Nat) (hl : ∀ i j, i < l.length → j < l.length → l.getD i 0 = l.getD j 0 → i = j) (z : DataW Unit) : ∀ k, k ≤ l.length → ∀ i, i < k → (plD l k).atKey (.int .i64 (l.getD i 0 : Nat)) z = .lit (.int .i64 (i : Nat))
 |0,_,i,hi=>absurd hi (by omega)
 |k+1,hk,i,hi=>by
  show ((plD l k).put _ _).atKey _ _=_
  by_cases e:i=k
  ·subst e
   exact Maps.atKey_put_same (plD_isMap l i) (by first|trivial|exact⟨_,_,rfl⟩|simp [WideAt.IsKeyLit]) _ _
  ·rw [Maps.atKey_put_other (fun h=>e (hl i k (by omega) (by omega) (by injection h with _ h;omega))) _ _]
   exact plD_at l hl z k (by omega) i (by omega)
theorem part_rd {U : List (List Int)} {s : Nat} {x : Int} : rd (filI U.length fun a => s.testBit a) x = ((partE U s x.toNat : Nat) : Int) := filI_at U.length (fun a => s.testBit a) x.toNat
theorem part_ll (U : List (List Int)) (s : Nat) : (filI U.length fun a => s.testBit a).length = (partL U s).length := filI_len _ _
theorem part_c1 (s : Nat) (hs : s < 4611686018427387904) (gS : Nat) (b : Nat) (h1 : b ≤ 64) (w : World) (hU : w.heap[gS]? = some (.cells #[.int .i64 (s : Int)] 3 (0, 0))) :
 Calls Try.prog 33 #[.int .i64 (b:Int),.pointer (some ⟨gS,0,none⟩)] w fun e w'=>e= .returned (.bool (s.testBit b))∧Below w.heap.size w w':=by
 have HH:=zqm (fun W=>has_calls s hs (i:=(b:Int)) (by omega) (by omega) W)
 have x0:w.cell? ⟨gS,0,none⟩=some (.int .i64 (s:Int)):=(blk_cell hU 0).trans rfl
 clear hU hs h1
 go_enter Try.func33,Try.ntmps33
 go_wp2_with (go_at_call 34;(with_reducible refine(HH.out _).mono ?_);rintro e w' ⟨rfl,⟨⟨nd,rfl⟩⟩⟩)
 go_ret
 exact⟨rfl,by repeat(first|exact Below.refl _ _|apply pw_below_drewN|apply below_drew1)⟩
structure PartJ (w : World) (g : Nat) (U : List (List Int)) (N : List Int) (v : Adr) (s gG gL gP : Nat) (A : Option Addr) (c mB : Nat) : Prop where
 view:View w g U N v
 bG:w.heap[gG]? =some (.cells #[.pointer (some ⟨g,0,none⟩)] 39 (0,0))
 bL:w.heap[gL]? =some (.cells #[.slice A (filI U.length fun a=>s.testBit a).length c] 24 (0,0))
 bP:w.heap[gP]? =some (.cells #[.map (some mB)] 54 (0,0))
 rows:Kd.C (Kd.int .i64) w A (filI U.length fun a=>s.testBit a).length (filI U.length fun a=>s.testBit a)
 map:w.ownsMap (H:=Unit) Try.prog 3 (plainElem Try.prog 3) mB (partL U s).length (plD (partL U s) (partL U s).length)
theorem PartJ.below {w w1 : World} {g : Nat} {U : List (List Int)} {N : List Int} {v : Adr} {s gG gL gP : Nat} {A : Option Addr} {c mB : Nat} (h : PartJ w g U N v s gG gL gP A c mB) (hb : Below w.heap.size w w1) : PartJ w1 g U N v s gG gL gP A c mB :=
 ⟨h.view.below hb,blk_below h.bG hb,blk_below h.bL hb,blk_below h.bP hb,Kd.C_below h.rows hb,ownsMap_below h.map hb⟩
section
variable {w : World} {g : Nat} {U : List (List Int)} {N : List Int} {v : Adr} {s gG gL gP : Nat} {A : Option Addr} {c mB : Nat}
theorem part_in {x : Int} (h0 : 0 ≤ x) (h1 : x < ((partL U s).length : Int)) : In U ((partE U s x.toNat : Nat) : Int) := ⟨by omega, by have := (partE_in (U := U) (t := s) (i := x.toNat) (by omega)).1; omega⟩
set_option maxHeartbeats 1000000 in
theorem part_c2 (L : Logic U N) (hJ : PartJ w g U N v s gG gL gP A c mB) (x y : Int) (hx0 : 0 ≤ x) (hx1 : x < ((partL U s).length : Int)) (hy0 : 0 ≤ y) (hy1 : y < ((partL U s).length : Int)) :
 Calls Try.prog 36 #[.int .i64 x,.int .i64 y,.pointer (some ⟨gG,0,none⟩),.pointer (some ⟨gL,0,none⟩)] w fun e w'=>e= .returned (.bool (leB U (partE U s x.toNat) (partE U s y.toNat)))∧Drawn0 w w':=by
 have hu70:=Try.underlying43
 have IA:=part_in hx0 hx1
 have IB:=part_in hy0 hy1
 obtain⟨ad,rfl,hrx⟩:=Kd.at_int hJ.rows x hx0 (by rw [part_ll];exact hx1)
 obtain⟨ad2,e2,hry⟩:=Kd.at_int hJ.rows y hy0 (by rw [part_ll];exact hy1)
 injection e2 with e2
 subst e2
 rw [part_rd] at hrx hry
 have hle:leB U (partE U s x.toNat) (partE U s y.toNat)=(at2 U ((partE U s x.toNat:Nat):Int).toNat ((partE U s y.toNat:Nat):Int).toNat==1):=rfl
 rw [hle]
 generalize ((partE U s x.toNat:Nat):Int)=a at hrx hry IA IB ⊢
 generalize ((partE U s y.toNat:Nat):Int)=b at hrx hry IA IB ⊢
 have HV:=zqm hJ.view
 have Ia:=zqm IA
 have Ib:=zqm IB
 have cG:w.cell? ⟨gG,0,none⟩=some (.pointer (some ⟨g,0,none⟩)):=(blk_cell hJ.bG 0).trans rfl
 have hn:=part_ll U s
 have cL:w.cell? ⟨gL,0,none⟩=some (.slice (some ad) (partL U s).length c):=by rw [← hn];exact(blk_cell hJ.bL 0).trans rfl
 generalize (partL U s).length=n at hx1 hy1 hn cL
 clear hJ IA IB hle hn
 have hf0:=HV.out.f0
 have b0_:=eq_true Ia.out.1;have c0_:=eq_true Ia.out.2
 have b1_:=eq_true Ib.out.1;have c1_:=eq_true Ib.out.2
 have d0_:=eq_true hx0;have d1_:=eq_true hx1
 have d2_:=eq_true hy0;have d3_:=eq_true hy1
 have r0_:=HV.out.u a Ia.out
 have r1_:=HV.out.u2 a b Ia.out Ib.out
 clear hx0 hx1 hy0 hy1
 go_enter Try.func36,Try.ntmps36
 go_wp2_with fail
 go_quiet (fail)
 go_wp2
 go_ret
 exact⟨rfl,⟨⟨_,rfl⟩⟩⟩
set_option maxHeartbeats 1000000 in
theorem part_c3 (L : Logic U N) (hcl : ∀ a b : Nat, a < U.length → b < U.length → s.testBit a = true → s.testBit b = true → s.testBit (andI U a b).toNat = true ∧ s.testBit (orI U a b).toNat = true ∧ s.testBit (notI N a).toNat = true)
 (hJ:PartJ w g U N v s gG gL gP A c mB) (x:Int) (hx0:0≤x) (hx1:x<((partL U s).length:Int)):
 Calls Try.prog 37 #[.int .i64 x,.pointer (some ⟨gP,0,none⟩),.pointer (some ⟨gG,0,none⟩),.pointer (some ⟨gL,0,none⟩)] w fun e w'=>e= .returned (.int .i64 (partAt U s (notI N ((partE U s x.toNat:Nat):Int)).toNat))∧Drawn0 w w':=by
 have hu70:=Try.underlying43
 have IA:=part_in hx0 hx1
 have hpe:=partE_in (U:=U) (t:=s) (i:=x.toNat) (by omega)
 obtain⟨ad,rfl,hrx⟩:=Kd.at_int hJ.rows x hx0 (by rw [part_ll];exact hx1)
 rw [part_rd] at hrx
 have hbit:=(hcl _ _ hpe.1 hpe.1 hpe.2 hpe.2).2.2
 have IN:=L.in_not IA
 obtain⟨j,hj,ej⟩:=part_idx (U:=U) (t:=s) (a:=(notI N ((partE U s x.toNat:Nat):Int)).toNat) (by have:=IN.1;have:=IN.2;omega) hbit
 have hnb:notI N ((partE U s x.toNat:Nat):Int)=((partE U s j:Nat):Int):=by have:=IN.1;omega
 rw [hnb,Int.toNat_natCast,partAt_eq hj]
 have hrun: ∀n,(Instr.lookup 54 (.map (some mB)) (.int .i64 ((partE U s j:Nat):Int)) false).run Try.prog (w.drewN n)= .ok (.int .i64 (j:Int)) (w.drewN n):=fun n=>by
  have hlt:partE U s j<4096:=by have:=(partE_in (U:=U) (t:=s) hj).1;have:=L.small;omega
  obtain⟨k,h1,h2,_⟩:=(ownsMap_below hJ.map (pw_below_drewN (Below.refl _ _) n)).lookup_int (t:=54) (e:=3) mapLaw Try.underlying54 Try.underlying3 (mapZero _) (key:= .int .i64 ((partE U s j:Nat):Int)) (Maps.keyOf_int_mk Try.underlying3 (WalkArith.wf_i64 (by omega)))
  rw [show ((partE U s j:Nat):Int)=(((partL U s).getD j 0:Nat):Int) from rfl,plD_at (partL U s) (fun i j hi hj e=>partE_inj hi hj e) _ _ (Nat.le_refl _) j hj] at h2
  injection h2 with h2
  injection h2 with _ h2
  rw [h2]
  exact h1
 generalize ((partE U s x.toNat:Nat):Int)=a at hrx IA IN hnb
 generalize ((partE U s j:Nat):Int)=b at hnb hrun
 have HV:=zqm hJ.view
 have Ia:=zqm IA
 have cG:w.cell? ⟨gG,0,none⟩=some (.pointer (some ⟨g,0,none⟩)):=(blk_cell hJ.bG 0).trans rfl
 have cP:w.cell? ⟨gP,0,none⟩=some (.map (some mB)):=(blk_cell hJ.bP 0).trans rfl
 have hn:=part_ll U s
 have cL:w.cell? ⟨gL,0,none⟩=some (.slice (some ad) (partL U s).length c):=by rw [← hn];exact(blk_cell hJ.bL 0).trans rfl
 generalize (partL U s).length=n at hx1 hn cL
 have hf3:=HV.out.f3
 have b0_:=eq_true Ia.out.1;have c0_:=eq_true Ia.out.2
 have d0_:=eq_true hx0;have d1_:=eq_true hx1
 have r0_:=HV.out.n a Ia.out
 rw [hnb] at r0_
 clear hJ IA IN hnb hn hx0 hx1 hbit hpe hj ej hcl
 go_enter Try.func37,Try.ntmps37
 go_wp2_with fail
 go_quiet (fail)
 go_wp2
 go_ret
 exact⟨rfl,⟨⟨_,rfl⟩⟩⟩
end
end
structure PartI (w0 : World) (g : Nat) (U : List (List Int)) (N : List Int) (v : Adr) (s gG gS gr : Nat) (W : World) : Prop where
 hb:Below w0.heap.size w0 W
 view:View W g U N v
 bG:W.heap[gG]? =some (.cells #[.pointer (some ⟨g,0,none⟩)] 39 (0,0))
 bS:W.heap[gS]? =some (.cells #[.int .i64 (s:Int)] 3 (0,0))
 bR:W.heap[gr]? =some (.cells #[.slice none 0 0,.slice none 0 0] 26 (0,0))
theorem PartI.below {w0 : World} {g : Nat} {U : List (List Int)} {N : List Int} {v : Adr} {s gG gS gr : Nat} {W W1 : World} (h : PartI w0 g U N v s gG gS gr W) (hb : Below W.heap.size W W1) : PartI w0 g U N v s gG gS gr W1 :=
 ⟨below_step h.hb hb,h.view.below hb,blk_below h.bG hb,blk_below h.bS hb,blk_below h.bR hb⟩
def impl_PartOf.f (l0_0 : List (List Int)) (l0_1 : List Int) (a1 : Int) : Option ((List (List Int)) × List Int) := if (logicB l0_0 l0_1 && (setOk l0_0 a1 && cloB l0_0 l0_1 a1.toNat)) = true then some (partU l0_0 a1.toNat, partN l0_0 l0_1 a1.toNat) else none
def partP (U : List (List Int)) (s : Nat) (x y : Int) : Option Bool := if (0 ≤ x ∧ x < ((partL U s).length : Int)) ∧ (0 ≤ y ∧ y < ((partL U s).length : Int)) then some (leB U (partE U s x.toNat) (partE U s y.toNat)) else none
def partQ (U : List (List Int)) (N : List Int) (s : Nat) (x : Int) : Int := partAt U s (notI N ((partE U s x.toNat : Nat) : Int)).toNat
def partD (U : List (List Int)) (s : Nat) (x : Int) : Bool := decide (0 ≤ x) && decide (x < ((partL U s).length : Int))
theorem part_made {U : List (List Int)} {N : List Int} (hs : U.length ≤ 12) (s : Nat) : Ev (fun k => impl_made.f (partP U s) (partQ U N s) (partD U s) k ((partL U s).length : Int) 0 0) (partU U s, partN U N s) := by
 have hl:(partL U s).length≤4096:=by have:=filN_len U.length (fun a=>s.testBit a);unfold partL;omega
 exact made_ev (R:=fun i k=>leB U (partE U s i) (partE U s k)) hl (fun a b ha hb=>by unfold partP;rw [if_pos (by omega)];rfl) (fun a ha=>by unfold partD;rw [decide_eq_true (by omega),decide_eq_true (by omega)];rfl)
theorem part_grown {W w1 : World} {g gP mB : Nat} {t : TypeId} {cs : Array Value} {k : TypeId} {Rr : Value → Option (DataW Unit × List MemPlace)} {n : Nat} {D : DataW Unit} {P : Program} (h : W.heap[gP]? = some (.cells cs t (0, 0))) (hm : W.ownsMap P k Rr mB n D) (hg : W.grownBy w1 (some mB)) : w1.heap[gP]? = some (.cells cs t (0, 0)) :=
 blk_grown h hg (fun e=>by
  obtain⟨es,clock,h1,_⟩:=hm
  injection e with e
  rw [e,h1] at h
  injection h with h;cases h)
def impl_PartOf.T2 : Bool × List (List Nat × List Nat) := (true, [([], []), ([], []), ([0, 1], [0, 1]), ([2], [2]), ([3, 2], [3]), ([4], [4]), ([4], [4]), ([5, 6, 4, 4], [4, 5, 6]), ([4], [4]), ([7, 8, 4], [4, 7, 8]), ([4, 9], [4, 9])])
def impl_PartOf.B2 : List Nat := [0, 0, 3, 7, 15, 31, 31, 127, 31, 511, 1023]
theorem impl_PartOf.tab2 : rtab .any (opsOf Try.f13 2) = impl_PartOf.T2 := by kernel_rfl
theorem impl_PartOf.bits2 : waitsOk impl_PartOf.T2.2 impl_PartOf.B2 = true := by kernel_rfl
set_option maxHeartbeats 8000000 in
set_option maxRecDepth 100000 in
theorem impl_PartOf.calls (A0_0 : Option Addr) (c0_0 : Nat) (l0_0 : List (List Int)) (A0_1 : Option Addr) (c0_1 : Nat) (l0_1 : List Int) (a1 : Int) (r1 : List (List Int)) (r2 : List Int) (w : World) (hr0_0 : Kd.C (Kd.slice 3 (Kd.int .i64)) w A0_0 l0_0.length l0_0) (hc0_0 : l0_0.length ≤ c0_0) (hr0_1 : Kd.C (Kd.int .i64) w A0_1 l0_1.length l0_1) (hc0_1 : l0_1.length ≤ c0_1) (h : impl_PartOf.f l0_0 l0_1 a1 = some (r1, r2)) :
 Calls Try.prog 13 #[.agg #[.slice A0_0 l0_0.length c0_0,.slice A0_1 l0_1.length c0_1],.int .i64 a1] w fun e w'=> ∃v0_ v1_:Value,e= .returned (.agg #[v0_,v1_])∧Kd.S (Kd.slice 3 (Kd.int .i64)) 24 w' w.heap.size (fun k_=>some k_≠(v1_:Value).ownBlock) v0_ r1∧Kd.R (Kd.int .i64) 3 w' w.heap.size (fun _=>True) v1_ r2∧Below w.heap.size w w':=by
 obtain⟨k,hF⟩:=told_facts l0_0
 have hu30:=Try.underlying26
 have hu70:=Try.underlying43
 have HF:=zqm hF
 have HR0:=zqm hr0_0
 have HC0:=zqm hc0_0
 have HR1:=zqm hr0_1
 have HC1:=zqm hc0_1
 clear hr0_0 hc0_0 hr0_1 hc0_1 hF
 unfold impl_PartOf.f at h
 split at h
 case isFalse=>exact absurd h (by simp)
 case isTrue hc=>
 obtain⟨rfl,rfl⟩:=Prod.mk.inj (Option.some.inj h)
 rw [Bool.and_eq_true,Bool.and_eq_true] at hc
 obtain⟨hL,hin,hcl⟩:=hc
 have HLB:=zqm hL
 have HLg:=zqm (logicB_iff.1 hL)
 have HSM:=zqm (logicB_iff.1 hL).small
 have HIN:=zqm hin
 have HCL:=zqm (cloB_iff.1 hcl)
 unfold setOk at hin
 simp only [Bool.and_eq_true,decide_eq_true_eq] at hin
 obtain⟨s,rfl⟩: ∃s:Nat,a1=(s:Int):=⟨a1.toNat,by omega⟩
 rw [Int.toNat_natCast] at HCL
 have HSZ:=zqm (show s<2 ^ l0_0.length by have:=hin.2;omega)
 have HS62:=zqm (show s<4611686018427387904 by have h1:=two_pow_le (show l0_0.length≤40 by have:=HSM.out;omega);have:=HSZ.out;omega)
 obtain⟨K,hK⟩:=(part_made (N:=l0_1) HSM.out s).rounds
 have HMADE:=zqm hK
 rw [Int.toNat_natCast]
 clear h hL hin hcl hK
 go_enter Try.func13,Try.ntmps13
 go_wp2_with (first|((with_reducible refine gate_dst (N:=2) rfl ?_);refine box_event ?hg (N:=2) ?hd (cs:= #[.slice A0_0 l0_0.length c0_0,.slice A0_1 l0_1.length c0_1]) (t:=26) ?hr ?_;(case hd=>rfl);(case hg=>rfl);(case hr=> exact zq15);intro ga hg w1 hbox hb;have HB:=zqm hb;have HX:=zqm hbox;clear hbox hb hg)|((with_reducible refine gate_dst (N:=3) rfl ?_);refine box_event ?hg (N:=3) ?hd (cs:= #[.int .i64 (s:Int)]) (t:=3) ?hr ?_;(case hd=>rfl);(case hg=>rfl);(case hr=> exact zq15);intro gS hg w2 hbox hb;have n0_:=zqm (below_step HB.out hb);have n1_:=zqm (blk_below HX.out hb);have n2_:=zqm (hbox);clear HB HX;have HB:=n0_;have HX:=n1_;have BS:=n2_;clear n0_ n1_ n2_;clear hbox hb hg)|((with_reducible refine gate_dst (N:=4) rfl ?_);refine box_event ?hg (N:=4) ?hd (cs:= #[.slice none 0 0,.slice none 0 0]) (t:=26) ?hr ?_;(case hd=>rfl);(case hg=>rfl);(case hr=> exact zq15);intro gr hg w3 hbox hb;have GR:=zqm (show w.heap.size≤gr from by rw [hg];exact below_size HB.out);have n0_:=zqm (below_step HB.out hb);have n1_:=zqm (blk_below HX.out hb);have n2_:=zqm (blk_below BS.out hb);have n3_:=zqm (hbox);clear HB HX BS;have HB:=n0_;have HX:=n1_;have BS:=n2_;have BR:=n3_;clear n0_ n1_ n2_ n3_;clear hbox hb hg;have hx0:w3.cell? ⟨ga,0,none⟩=some (.slice A0_0 l0_0.length c0_0):=(blk_cell HX.out 0).trans rfl;have hx1:w3.cell? ⟨ga,1,none⟩=some (.slice A0_1 l0_1.length c0_1):=(blk_cell HX.out 1).trans rfl)|(go_at_call 18;(with_reducible refine(told_y k _ _ l0_0 _ _ l0_1 _ ?s1 ?s2 ?s3 ?s4 HF.out HLB.out).mono ?_);(case s1=> exact zq127);(case s2=>exact HC0.out);(case s3=> exact zq153);(case s4=>exact HC1.out);rintro e w4 ⟨g,v,rfl,hv,hge,hb⟩;have n0_:=zqm (below_step HB.out hb);have n1_:=zqm (blk_below BS.out hb);have n2_:=zqm (blk_below BR.out hb);have n3_:=zqm (hv);clear HB BS BR;have HB:=n0_;have BS:=n1_;have BR:=n2_;have HV:=n3_;clear n0_ n1_ n2_ n3_;clear hv hge hb hx0 hx1 HX)|((with_reducible refine gate_dst (N:=5) rfl ?_);refine box_event ?hg (N:=5) ?hd (cs:= #[.pointer none]) (t:=39) ?hr ?_;(case hd=>rfl);(case hg=>rfl);(case hr=> exact zq15);intro gG hg w5 hbox hb;have GG:=zqm (show w4.heap.size≤gG from zq178);have RB:=zqm hb;have RX:=zqm hbox;clear hbox hb hg;have hcG:w5.cell? ⟨gG,0,none⟩=some (.pointer none):=(blk_cell RX.out 0).trans rfl;have hfG:=blk_frozen RX.out 0))
 have RB2:=zqm (show Below w4.heap.size w4 (w5.setCell ⟨gG,0,none⟩ (.pointer (some ⟨g,0,none⟩))) from below_set RB.out GG.out)
 have HI:=zqm (show PartI w g l0_0 l0_1 v s gG gS gr (w5.setCell ⟨gG,0,none⟩ (.pointer (some ⟨g,0,none⟩))) from ⟨below_step HB.out RB2.out,HV.out.below RB2.out,one_setCell RX.out,blk_below BS.out RB2.out,blk_below BR.out RB2.out⟩)
 clear hcG hfG RB RX RB2 GG HB HV BS BR HF HR0 HC0 HR1 HC1
 generalize (w5.setCell ⟨gG,0,none⟩ (.pointer (some ⟨g,0,none⟩)))=w6 at HI ⊢
 refine start_ (n:=11) (S:=(fun w'=>w'.cell? ⟨gG,0,none⟩=some (.pointer (some ⟨g,0,none⟩))∧w'.cell? ⟨gS,0,none⟩=some (.int .i64 (s:Int)))) (ds:= []) (zqb 11 0) zqk rfl rfl ⟨(blk_cell (HI.out.below (below_drew1 (Below.refl _ _))).bG 0).trans rfl,(blk_cell (HI.out.below (below_drew1 (Below.refl _ _))).bS 0).trans rfl⟩ (fun hHeld=>?_)
 refine with_tabW impl_PartOf.tab2 impl_PartOf.bits2 (fun HT_ HW_=>?_)
 have HI7:=zqm (HI.out.below (below_drew1 (Below.refl _ _)))
 clear HI
 generalize w6.drew=w7 at HI7 hHeld ⊢
 refine zqw 0 12 (zqb 11 1) HT_ HW_ hHeld ?_
 refine zqw 1 13 (zqb 11 3) HT_ HW_ hHeld ?_
 refine one_ (i:=2) (N:=some 14) (zqb 11 7) rfl rfl (one_of HT_.out zqk) (by decide) (fun K hK=>?_)
 refine goes_ Try.func26 zqk rfl #[.pointer (some ⟨g,0,none⟩),.int .i64 (s:Int)] (by rfl) rfl rfl zq126 ?_
 refine(isset_calls g l0_0 l0_1 v _ HLg.out HI7.out.view (s:Int)).mono ?_
 rintro e w8 ⟨he,hb⟩
 rw [HIN.out] at he
 subst he
 refine⟨_,rfl,?_⟩
 have HI8:=zqm (HI7.out.below hb)
 refine hK.out _ _ ⟨(blk_cell HI8.out.bG 0).trans rfl,(blk_cell HI8.out.bS 0).trans rfl⟩ (fun hHeld8=>?_)
 clear hK K hb HI7
 refine norm_ (a':=?_) ?_ ?_
 rotate_left
 ·show Act.put _ (some 14) _=_
  simp only [Act.put,List.setIfInBounds_toArray,List.set_cons_zero,List.set_cons_succ,i64_w,i32_w]
  rfl
 refine zqp 3 15 (zqb 11 15) HT_ ?_
 refine zqp 4 16 (zqb 11 31) HT_ ?_
 refine zqw 5 17 (zqb 11 63) HT_ HW_ hHeld8 ?_
 refine zqw 6 18 (zqb 11 127) HT_ HW_ hHeld8 ?_
 refine zqw 8 20 (zqb 11 383) HT_ HW_ hHeld8 ?_
 refine one_ (i:=7) (N:=some 19) (zqb 11 511) rfl rfl (one_of HT_.out zqk) (by decide) (fun K hK=>?_)
 refine goes_ Try.func27 zqk rfl #[.pointer (some ⟨g,0,none⟩),.int .i64 (s:Int)] (by rfl) rfl rfl zq126 ?_
 refine(closed_calls g l0_0 l0_1 v _ HLg.out HI8.out.view s HSZ.out HCL.out).mono ?_
 rintro e w9 ⟨rfl,hb⟩
 refine⟨_,rfl,?_⟩
 have HI9:=zqm (HI8.out.below hb)
 refine hK.out _ _ ⟨(blk_cell HI9.out.bG 0).trans rfl,(blk_cell HI9.out.bS 0).trans rfl⟩ (fun hHeld9=>?_)
 clear hK K hb HI8
 refine norm_ (a':=?_) ?_ ?_
 rotate_left
 ·show Act.put _ (some 19) _=_
  simp only [Act.put,List.setIfInBounds_toArray,List.set_cons_zero,List.set_cons_succ,i64_w,i32_w]
  rfl
 refine zqp 9 21 (zqb 11 1023) HT_ ?_
 refine zqp 10 22 (zqb 11 2047) HT_ ?_
 refine done_ (done_of HT_.out zqk) ?_
 have hcG2:w9.cell? ⟨gG,0,none⟩=some (.pointer (some ⟨g,0,none⟩)):=(blk_cell HI9.out.bG 0).trans rfl
 go_wp2_with (first|(go_at_call 30;(with_reducible refine(all_calls g l0_0 l0_1 v _ HSM.out ?sV 33 _ #[.pointer (some ⟨gS,0,none⟩)] Try.func33 zqk rfl (fun a=>s.testBit a) ?sT).mono ?_);(case sV=>exact HI9.out.view);(case sT=>exact fun a ha W hW=>part_c1 s HS62.out gS a (by have:=HSM.out;omega) W (blk_below HI9.out.bS hW));rintro e w10 ⟨vl,rfl,ho,hb⟩;obtain⟨Al,cl,rfl⟩:=Kd.R_slice ho;have HR10:=zqm (Kd.R_reads' ho).2.2;have HI10:=zqm (HI9.out.below hb);clear ho hb hcG2 HI9)|((with_reducible refine gate_dst (N:=6) rfl ?_);refine box_event ?hg (N:=6) ?hd (cs:= #[.slice none 0 0]) (t:=24) ?hr ?_;(case hd=>rfl);(case hg=>rfl);(case hr=> exact zq15);intro gL hg w11 hbox hb;have GL:=zqm (show w10.heap.size≤gL from zq178);have RB:=zqm hb;have RX:=zqm hbox;clear hbox hb hg;have hcL:w11.cell? ⟨gL,0,none⟩=some (.slice none 0 0):=(blk_cell RX.out 0).trans rfl;have hfL:=blk_frozen RX.out 0)|((with_reducible refine gate_dst (N:=27) rfl ?_);have RB2:=zqm (show Below w10.heap.size w10 (w11.setCell ⟨gL,0,none⟩ (.slice Al (filI l0_0.length fun a=>s.testBit a).length cl)) from below_set RB.out GL.out);have HI12:=zqm (HI10.out.below RB2.out);have BL12:=zqm (show (w11.setCell ⟨gL,0,none⟩ (.slice Al (filI l0_0.length fun a=>s.testBit a).length cl)).heap[gL]? =some (.cells #[.slice Al (filI l0_0.length fun a=>s.testBit a).length cl] 24 (0,0)) from one_setCell RX.out);have HR12:=zqm (Kd.C_below HR10.out RB2.out);clear hcL hfL RB RX RB2 GL HI10 HR10;generalize (w11.setCell ⟨gL,0,none⟩ (.slice Al (filI l0_0.length fun a=>s.testBit a).length cl))=w12 at HI12 BL12 HR12 ⊢;refine map_event ?hg (N:=27) ?hd ?hr ?_;(case hd=>rfl);(case hg=>rfl);(case hr=>(go_simp;rw [run_makeMap];rfl));intro mB hg w13 hbox hb;have GM:=zqm (show w12.heap.size≤mB from zq178);have HN13:=zqm hb;have HM13:=zqm (ownsMap_new (P:=Try.prog) (k:=3) (R:=plainElem Try.prog 3) hbox);clear hbox hb hg)|((with_reducible refine gate_dst (N:=7) rfl ?_);refine box_event ?hg (N:=7) ?hd (cs:= #[.map none]) (t:=54) ?hr ?_;(case hd=>rfl);(case hg=>rfl);(case hr=> exact zq15);intro gP hg w14 hbox hb;have GP:=zqm (show w12.heap.size≤gP from by rw [hg];exact below_size HN13.out);have NP:=zqm (show mB≠gP from by have:=HM13.out.lt;omega);have HN14:=zqm (below_step HN13.out hb);have HM14:=zqm (ownsMap_below HM13.out hb);have BP14:=zqm hbox;clear hbox hb hg HN13 HM13;have hcP:w14.cell? ⟨gP,0,none⟩=some (.map none):=(blk_cell BP14.out 0).trans rfl;have hfP:=blk_frozen BP14.out 0;have HN15:=zqm (show Below w12.heap.size w12 (w14.setCell ⟨gP,0,none⟩ (.map (some mB))) from below_set HN14.out GP.out);have hcL2:(w14.setCell ⟨gP,0,none⟩ (.map (some mB))).cell? ⟨gL,0,none⟩=some (.slice Al (filI l0_0.length fun a=>s.testBit a).length cl):=(blk_cell (blk_below BL12.out HN15.out) 0).trans rfl))
 have HM15:=zqm (show (w14.setCell ⟨gP,0,none⟩ (.map (some mB))).ownsMap (H:=Unit) Try.prog 3 (plainElem Try.prog 3) mB 0 (plD (partL l0_0 s) 0) from by
  obtain⟨es,clock,h1,F_,hs_,hD⟩:=HM14.out
  exact⟨es,clock,(Below.heap_setCell w14 ⟨gP,0,none⟩ (.map (some mB)) mB NP.out).trans h1,F_,hs_,hD⟩)
 have BP15:=zqm (show (w14.setCell ⟨gP,0,none⟩ (.map (some mB))).heap[gP]? =some (.cells #[.map (some mB)] 54 (0,0)) from one_setCell BP14.out)
 have HLN:=zqm (part_ll l0_0 s)
 have HLE:=zqm (show (partL l0_0 s).length≤12 from by have h1:=filN_len l0_0.length (fun a=>s.testBit a);have:=HSM.out;unfold partL;omega)
 go_loopg [30] ((partL l0_0 s).length+1) (fun kq v30 W=> ∃i:Nat,v30= .int .i64 i∧Aside0 (i+kq=(partL l0_0 s).length+1)∧Aside0 (i≤(partL l0_0 s).length)∧Aside0 (Below w12.heap.size w12 W)∧Aside0 (W.heap[gP]? =some (.cells #[.map (some mB)] 54 (0,0)))∧Aside0 (W.ownsMap (H:=Unit) Try.prog 3 (plainElem Try.prog 3) mB i (plD (partL l0_0 s) i)))
 case atStart=>exact⟨0,rfl,⟨by omega⟩,⟨by omega⟩,HN15,BP15,HM15⟩
 case round=>
  clear HN15 BP15 HM15 hcL2 hcP hfP BP14 HM14 HN14
  obtain⟨i,rfl,HK,HK2,HN,BP,HM⟩:=hrel
  have hcP:wr.cell? ⟨gP,0,none⟩=some (.map (some mB)):=(blk_cell BP.out 0).trans rfl
  have hln:=HLN.out
  cases gk with
  |zero=>exact absurd HK.out (by have:=HK2.out;omega)
  |succ kn=>
  by_cases hlt:i<(partL l0_0 s).length
  ·have HLT:=zqm hlt
   have p1:(i<(filI l0_0.length fun a=>s.testBit a).length)=True:=eq_true (by rw [hln];exact hlt)
   have p1':decide (i<(filI l0_0.length fun a=>s.testBit a).length)=true:=decide_eq_true (by rw [hln];exact hlt)
   obtain⟨ad,rfl,hrx⟩:=Kd.at_int (Kd.C_below HR12.out HN.out) (i:Int) (by omega) (by rw [hln];omega)
   rw [part_rd,Int.toNat_natCast] at hrx
   have HPE:=zqm (show partE l0_0 s i<4096 from by have:=(partE_in (U:=l0_0) (t:=s) hlt).1;have:=HSM.out;omega)
   obtain⟨pe,hpe⟩: ∃pe:Int,pe=((partE l0_0 s i:Nat):Int):=⟨_,rfl⟩
   rw [← hpe] at hrx
   have HQ:=zqm hpe
   clear hlt hln hpe
   go_wp2_with (at_mapUpdate;refine wpList_mapUpdate_own _ rfl _ _ _ 54 rfl 3 3 mapLaw Try.underlying54 _ mB i (plD (partL l0_0 s) i) rfl HM.out (by have:=HLT.out;have:=HLE.out;unfold maxLen;omega) _ _ (.int .i64 pe) rfl rfl (Maps.keyOf_int_mk Try.underlying3 (WalkArith.wf_i64 (by rw [HQ.out];have:=HPE.out;omega))) (.lit (.int .i64 (i:Nat))) [] (plainElem_int Try.underlying3 (WalkArith.wf_i64 (by have:=HLT.out;have:=HLE.out;omega))) ?_;intro w17 hown1 hgrow1)
   go_roundg kn
   case measure=>omega
   case rel=>exact⟨i+1,by first|go_num|(rw [wrap_small (by omega) (by have:=HLT.out;have:=HLE.out;omega)];go_num),⟨by have:=HK.out;omega⟩,⟨by have:=HLT.out;omega⟩,⟨by repeat(first|exact HN.out.grown hgrow1 (below_size HN.out) (fun k_ hk_=>by cases hk_;exact GM.out)|apply pw_below_drewN|apply below_drew1)⟩,⟨by refine zqe ?_;exact part_grown (g:=0) BP.out HM.out hgrow1⟩,⟨by rw [show plD (partL l0_0 s) (i+1)=(plD (partL l0_0 s) i).put (.int .i64 pe) (.lit (.int .i64 (i:Nat))) from by rw [HQ.out];rfl];first|exact hown1|exact ownsMap_below hown1 (pw_below_drewN (Below.refl _ _) _)⟩⟩
  ·have p1:(i<(filI l0_0.length fun a=>s.testBit a).length)=False:=eq_false (by rw [hln];exact hlt)
   have p1':decide (i<(filI l0_0.length fun a=>s.testBit a).length)=false:=decide_eq_false (by rw [hln];exact hlt)
   obtain rfl:i=(partL l0_0 s).length:=by have:=HK2.out;omega
   have HJ:=zqm (show PartJ wr g l0_0 l0_1 v s gG gL gP Al cl mB from ⟨HI12.out.view.below HN.out,blk_below HI12.out.bG HN.out,blk_below BL12.out HN.out,BP.out,Kd.C_below HR12.out HN.out,HM.out⟩)
   have HB:=zqm (below_step HI12.out.hb HN.out)
   have BK:=zqm (blk_below HI12.out.bR HN.out)
   have hcL:wr.cell? ⟨gL,0,none⟩=some (.slice Al (filI l0_0.length fun a=>s.testBit a).length cl):=(blk_cell HJ.out.bL 0).trans rfl
   have HLN2:=zqm hln
   obtain⟨nn,hnn⟩: ∃nn:Nat,nn=(filI l0_0.length fun a=>s.testBit a).length:=⟨_,rfl⟩
   rw [← hnn] at hcL p1 p1'
   clear hlt hln HN BP HM HI12 BL12 HR12 hcP
   have HNN:=zqm (show (nn:Int)=((partL l0_0 s).length:Int) from by rw [hnn,HLN2.out])
   try rw [← hnn]
   clear hnn
   go_wp2_with fail
   refine(impl_made.calls (partP l0_0 s) (partQ l0_0 l0_1 s) (partD l0_0 s) K (nn:Int) 0 36 37 _ _ #[.pointer (some ⟨gG,0,none⟩),.pointer (some ⟨gL,0,none⟩)] #[.pointer (some ⟨gP,0,none⟩),.pointer (some ⟨gG,0,none⟩),.pointer (some ⟨gL,0,none⟩)] Try.func36 zqk rfl Try.func37 zqk rfl (partU l0_0 s) (partN l0_0 l0_1 s) _ ?hu ?hv (by rw [HNN.out];exact HMADE.out)).mono ?_
   case hu=>
    intro x y b W he hW
    unfold partP at he
    split at he
    case isFalse=>exact absurd he (by simp)
    case isTrue hr=>
    obtain rfl:=Option.some.inj he
    exact part_c2 HLg.out (HJ.out.below hW) x y hr.1.1 hr.1.2 hr.2.1 hr.2.2
   case hv=>
    intro x W he hW
    unfold partD at he
    rw [Bool.and_eq_true,decide_eq_true_eq,decide_eq_true_eq] at he
    exact part_c3 HLg.out HCL.out (HJ.out.below hW) x he.1 he.2
   rintro e w18 ⟨v0_,v1_,rfl,hs,hr,hb⟩
   obtain⟨A0,c0,rfl⟩:=Kd.R_slice (Kd.S_R hs)
   obtain⟨A1,c1,rfl⟩:=Kd.R_slice hr
   have HS:=zqm (Kd.S_lower hs (below_size HB.out))
   have HR:=zqm (Kd.R_lower hr (below_size HB.out))
   have n0_:=zqm (below_step HB.out hb)
   have n1_:=zqm (blk_below BK.out hb)
   clear HB BK hs hr hb HJ hcL p1 p1'
   have HB:=n0_
   have BK:=n1_
   clear n0_ n1_
   have hk0:w18.cell? ⟨gr,0,none⟩=some (.slice none 0 0):=(blk_cell BK.out 0).trans rfl
   have hk1:w18.cell? ⟨gr,1,none⟩=some (.slice none 0 0):=(blk_cell BK.out 1).trans rfl
   have hkf0:=blk_frozen BK.out 0
   have hkf1:=blk_frozen BK.out 1
   go_wp2
   refine bodyPost_ret (results_cell_row rfl _ _ gr 26 #[.slice A0 (partU l0_0 s).length c0,.slice A1 (partN l0_0 l0_1 s).length c1] (0,0) _ rfl (by refine zqe ?_;refine blk_put (cs:= #[.slice A0 (partU l0_0 s).length c0,.slice none 0 0]) ?_ 1 _ rfl;refine blk_put (cs:= #[.slice none 0 0,.slice none 0 0]) ?_ 0 _ rfl;exact BK.out) Try.underlying26 rfl zqk) rfl ?_
   exact⟨_,_,rfl,Kd.S_mono (Kd.S_far (p:=⟨gr,1,none⟩) (Kd.S_far (p:=⟨gr,0,none⟩) (Kd.S_types HS.out BK.out (by decide)) (fun _ hk=>hk.2) _) (fun _ hk=>hk.2) _) (fun _ hk=>hk.1),Kd.R_mono (Kd.R_far (p:=⟨gr,1,none⟩) (Kd.R_far (p:=⟨gr,0,none⟩) (Kd.R_types HR.out BK.out (by decide)) (fun _ hk=>hk.2) _) (fun _ hk=>hk.2) _) (fun _ _=>trivial),by repeat(first|(with_reducible first|exact HB.out|apply below_alloc|apply pw_below_drewN|apply below_drew1|refine below_set ?_ GR.out)|exact HB.out)⟩
end Go.Proofs.Ytmbapglhkbpokaa.Print
end
section
namespace Go.Proofs.Ytmbapglhkbpokaa.Print
open Go.RowKit Go.Proofs.YtmbapglhkbpokaaW.PrintWords Go.Proofs.YtmbapglhkbpokaaW.PrintLast Go.Proofs.YtmbapglhkbpokaaW.PrintMore
section
attribute [local go_sem] max2_int min2_int max_two min_two max_three min_three max_four min_four
mutual
def laws_FnBlocksOf.l0 : Nat → List Int → Int → Int → Int → List (List Int) → List Int → Option (Bool)
 | 0, _, _, _, _, _, _ => none
 | k + 1, x4, x5, x6, x7, x576000, x576001 => if x7 < (x4.length : Int) then (if 0 ≤ x7 then ((spec_KeepsOk.f k x576000 x576001).bind fun t587 => (if t587 = true then ((impl_SubOk.f x576000 x576001 (rd x4 x7)).bind fun t589 => (if t589 = true then ((impl_PartOf.f x576000 x576001 (rd x4 x7)).bind fun bt591 => ((impl_BooleanOk.f bt591.1 bt591.2).bind fun t597 => (if t597 = true then (laws_FnBlocksOf.l0 k x4 (Go.bits .or .i64 x5 (rd x4 x7)) (Go.bits .and .i64 x6 (rd x4 x7)) (wrap64 (x7 + 1)) x576000 x576001) else (some false)))) else (some false))) else (laws_FnBlocksOf.l0 k x4 (Go.bits .or .i64 x5 (rd x4 x7)) (Go.bits .and .i64 x6 (rd x4 x7)) (wrap64 (x7 + 1)) x576000 x576001))) else (none)) else ((spec_CentreOf.f k x576000 x576001).bind fun t598 => (laws_FnBlocksOf.l1 k x4 x5 x6 0 t598 0 x576000 x576001))
def laws_FnBlocksOf.l1 : Nat → List Int → Int → Int → Int → List Int → Int → List (List Int) → List Int → Option (Bool)
 | 0, _, _, _, _, _, _, _, _ => none
 | k + 1, x4, x5, x6, x8, x9, x10, x576000, x576001 => if x10 < (x9.length : Int) then (if 0 ≤ x10 then (if 0 ≤ (rd x9 x10) then (laws_FnBlocksOf.l1 k x4 x5 x6 (wrap64 (x8 + (shl .i64 1 (rd x9 x10)))) x9 (wrap64 (x10 + 1)) x576000 x576001) else (none)) else (none)) else (if x5 = (wrap64 ((shl .i64 1 (x576001.length : Int)) - 1)) then (if x6 = x8 then ((laws_ascend.f k x4).bind fun t602 => (some t602)) else (some false)) else (some false))
end
def laws_FnBlocksOf.f (k : Nat) (l0 : List Int) : Option (Bool) := if (l0.length : Int) > 1048576 then (some true) else ((spec_DrawBlocksOf.f k l0).bind fun bt569 => ((impl_BlocksOf.f bt569.1 bt569.2).bind fun t576 => ((spec_BlocksOf.f k bt569.1 bt569.2).bind fun t579 => ((laws_sameInts.f k t576 t579).bind fun t582 => (if t582 = true then (if (t576.length : Int) = 0 then ((impl_LogicOk.f bt569.1 bt569.2).bind fun t583 => (if t583 = true then (some false) else ((laws_alive.f k).bind fun t584 => (some t584)))) else (laws_FnBlocksOf.l0 k t576 0 (wrap64 ((shl .i64 1 (bt569.2.length : Int)) - 1)) 0 bt569.1 bt569.2)) else (some false))))))
def laws_FnBlocksOf.T16 : Bool × List (List Nat × List Nat) := (true, [([], []), ([0], [0]), ([1, 1], [1]), ([2], [2]), ([2], [2]), ([2], [2]), ([4, 5, 2], [2, 4, 5]), ([6, 2], [2, 6]), ([3, 7, 2, 2], [2, 3, 7]), ([8, 2], [2, 8]), ([9, 8, 2], [2, 9]), ([10], [10]), ([10], [10]), ([10], [10]), ([12, 13, 10], [10, 12, 13]), ([14, 10], [10, 14]), ([11, 15, 10, 10], [10, 11, 15]), ([16, 16, 10], [10, 16]), ([17, 10], [10, 17]), ([10, 18, 2], [2, 10, 18]), ([2, 19], [2, 19])])
def laws_FnBlocksOf.B16 : List Nat := [0, 1, 3, 7, 7, 7, 55, 119, 255, 511, 1023, 2047, 2047, 2047, 14335, 30719, 65535, 131071, 262143, 524287, 1048575]
theorem laws_FnBlocksOf.tab16 : rtab .any (opsOf Try.f3 16) = laws_FnBlocksOf.T16 := by kernel_rfl
theorem laws_FnBlocksOf.bits16 : waitsOk laws_FnBlocksOf.T16.2 laws_FnBlocksOf.B16 = true := by kernel_rfl
set_option maxHeartbeats 8000000 in
set_option maxRecDepth 100000 in
theorem laws_FnBlocksOf.calls (k : Nat) (A0 : Option Addr) (c0 : Nat) (l0 : List Int) (r : Bool) (hrt : r = true) (w : World) (hr0 : Kd.C (Kd.int .u8) w A0 l0.length l0) (hc0 : l0.length ≤ c0) (h : laws_FnBlocksOf.f k l0 = some r) :
  Calls Try.prog 3 #[.slice A0 l0.length c0] w fun e w' => e = .returned (.bool r) ∧ Below w.heap.size w w' := by
 have hu26:=Try.underlying26;have q3:=zqm hr0;have q1:=zqm hc0;clear hr0 hc0;have HB:=zqm (Below.refl w.heap.size w);have H:(if(l0.length:Int)>1048576 then(some true) else((spec_DrawBlocksOf.f k l0).bind fun d7=>((impl_BlocksOf.f d7.1 d7.2).bind fun a4=>((spec_BlocksOf.f k d7.1 d7.2).bind fun e9=>((laws_sameInts.f k a4 e9).bind fun i6=>(if i6=true then(if(a4.length:Int)=0 then((impl_LogicOk.f d7.1 d7.2).bind fun i7=>(if i7=true then(some false) else((laws_alive.f k).bind fun i8=>(some i8)))) else(laws_FnBlocksOf.l0 k a4 0 (wrap64 ((shl .i64 1 (d7.2.length:Int)) - 1)) 0 d7.1 d7.2)) else(some false)))))))=some r:=h;clear h
 by_cases c2:(l0.length:Int)>1048576
 ·rw [if_pos c2] at H;have n4:decide (1048576<(l0.length:Int))=true:=decide_eq_true c2;have n5:decide (1048576<l0.length)=true:=decide_eq_true (by omega);clear c2;obtain rfl:=Option.some.inj H
  go_enter Try.func3,Try.ntmps3
  go_wp2
  go_ret
  exact⟨zq17,zq2⟩
 ·rw [if_neg c2] at H;have n4:decide (1048576<(l0.length:Int))=false:=decide_eq_false c2;have n5:decide (1048576<l0.length)=false:=decide_eq_false (by omega);clear c2;replace H:=Option.bind_eq_some_iff.mp H;obtain⟨⟨a3,a1⟩,p3,H⟩:=H;(try dsimp only at H);have A3:=zqm p3;clear p3;replace H:=Option.bind_eq_some_iff.mp H;obtain⟨a4,p4,H⟩:=H;(try dsimp only at H);have A4:=zqm p4;clear p4;replace H:=Option.bind_eq_some_iff.mp H;obtain⟨e9,p7,H⟩:=H;(try dsimp only at H);have A5:=zqm p7;clear p7;replace H:=Option.bind_eq_some_iff.mp H;obtain⟨i6,p9,H⟩:=H;(try dsimp only at H);have A6:=zqm p9;clear p9
  by_cases c7:i6=true
  ·subst c7;rw [if_pos rfl] at H
   by_cases c8:(a4.length:Int)=0
   ·rw [if_pos c8] at H;have n6:((a4.length:Int)==0)=true:=beq_iff_eq.mpr c8;have n7:((a4.length:Int) !=0)=false:=bne_eq_false_iff_eq.mpr c8;clear c8;replace H:=Option.bind_eq_some_iff.mp H;obtain⟨i7,q0,H⟩:=H;(try dsimp only at H);have A9:=zqm q0;clear q0
    by_cases g3:i7=true
    ·subst g3;rw [if_pos rfl] at H;exact absurd ((Option.some.inj H).trans hrt) (by decide)
    ·replace g3:=Bool.eq_false_iff.mpr g3;subst g3;rw [if_neg (show¬(false=true) by decide)] at H;replace H:=Option.bind_eq_some_iff.mp H;obtain⟨i8,m7,H⟩:=H;(try dsimp only at H);have w4:=zqm m7;clear m7;obtain rfl:=Option.some.inj H
     go_enter Try.func3,Try.ntmps3
     go_wp2_with (first|((with_reducible refine gate_callee (f:=4) rfl ?_);refine goesL_ (some 15) rfl rfl Try.func4 zqk rfl #[.slice A0 l0.length c0] rfl zq5 ?_;(with_reducible refine(spec_DrawBlocksOf.calls k _ _ l0 a3 a1 _ ?side1 ?side2 A3.out).mono ?_);(case side1=> exact zq114);(case side2=>exact q1.out);rintro e z1 ⟨t8,t9,rfl,b4,e3,hb⟩;refine⟨_,rfl,?_⟩;have a7:=zqm (Kd.S_lower b4 (below_size zq2));have a5:=zqm (Kd.Q_lower e3 (below_size zq2));replace HB:=zqm (below_step zq2 hb);clear hb b4 e3)|((with_reducible refine gate_dst (N:=3) rfl ?_);refine box_event ?hg (N:=3) ?hd (cs:= #[.slice none 0 0,.slice none 0 0]) (t:=26) ?hr ?_;(case hd=>rfl);(case hg=>rfl);(case hr=> exact zq15);intro a2 hg q4 hbox hb;replace a7:=zqm (Kd.S_below (zqfS a7.out) hb);replace a5:=zqm (Kd.Q_below (zqfQ a5.out) hb);have d6:=zqm (below_step zq2 hb);have a0:=zqm (hbox);have o3:=zqm ((by rw [hg];exact(below_size zq2):w.heap.size≤a2));have b0:=zqm ((by rw [hg];exact(below_size zq2):w.heap.size≤a2));clear HB;have HB:=d6;clear d6 hb hbox hg;obtain⟨c9,b8,s5⟩:=Kd.S_slice a7.out;subst s5;have j5:q4.cell? ⟨a2,0,none⟩=some (.slice none 0 0):=(blk_cell a0.out 0).trans rfl;have j6:q4.cell? ⟨a2,1,none⟩=some (.slice none 0 0):=(blk_cell a0.out 1).trans rfl;have l3:=blk_frozen a0.out 0;have l4:=blk_frozen a0.out 1;obtain⟨d0,b9,s6,_⟩:=Kd.Q_slice a5.out;subst s6)|((with_reducible refine gate_callee (f:=5) rfl ?_);refine goesL_ (some 17) rfl rfl Try.func5 zqk rfl #[.agg #[.slice c9 a3.length b8,.slice d0 a1.length b9]] rfl zq5 ?_;(with_reducible refine(impl_BlocksOf.calls _ _ a3 _ _ a1 a4 _ ?side1 ?side2 ?side3 ?side4 A4.out).mono ?_);(case side1=>refine(Kd.S_reads' (e:=24) (base:=w.heap.size) (ok:=fun k_=>some k_≠(.slice d0 a1.length b9:Value).ownBlock) (n:=a3.length) (c:=b8) ?_).2.2;exact zq76);(case side2=> exact zq161);(case side3=>refine(Kd.Q_reads' (e:=3) (base:=w.heap.size) (ok:=fun k_=>True) (n:=a1.length) (c:=b9) ?_).2.2;exact zq44);(case side4=> exact zq160);rintro e q6 ⟨u0,rfl,b4,hb⟩;refine⟨_,rfl,?_⟩;replace a7:=zqm (Kd.S_elder' zq76 (Kd.R_base b4) hb);have d9:=zqm (Kd.Q_elder' zq44 (Kd.R_base b4) hb);have b5:=zqm (Kd.R_lower (Kd.R_new' b4 (Kd.Q_lt zq44)) (below_size zq11));replace a0:=zqm (blk_below (g:=a2) (o:= .cells #[.slice c9 a3.length b8,.slice d0 a1.length b9] 26 (0,0)) (by refine zqe ?_;refine blk_put (cs:= #[.slice c9 a3.length b8,.slice none 0 0]) ?_ 1 _ rfl;refine zqe ?_;refine blk_put (cs:= #[.slice none 0 0,.slice none 0 0]) ?_ 0 _ rfl;refine zqe ?_;exact a0.out) hb);replace HB:=zqm (below_step zq11 hb);clear a5;have a5:=d9;clear d9 hb b4;have j7:q6.cell? ⟨a2,0,none⟩=some (.slice c9 a3.length b8):=(blk_cell a0.out 0).trans rfl;have j8:q6.cell? ⟨a2,1,none⟩=some (.slice d0 a1.length b9):=(blk_cell a0.out 1).trans rfl;have l5:=blk_frozen a0.out 0;have l6:=blk_frozen a0.out 1)|((with_reducible refine gate_callee (f:=7) rfl ?_);refine goesL_ (some 20) rfl rfl Try.func7 zqk rfl #[.agg #[.slice c9 a3.length b8,.slice d0 a1.length b9]] rfl zq5 ?_;(with_reducible refine(spec_BlocksOf.calls k _ _ a3 _ _ a1 e9 _ ?side1 ?side2 ?side3 ?side4 A5.out).mono ?_);(case side1=> exact zq71);(case side2=> exact zq161);(case side3=> exact zq70);(case side4=> exact zq160);rintro e q7 ⟨u1,rfl,b4,hb⟩;refine⟨_,rfl,?_⟩;replace a7:=zqm (Kd.S_elder' (zqfS a7.out) (Kd.R_base b4) hb);have d9:=zqm (Kd.Q_elder' (zqfQ a5.out) (Kd.R_base b4) hb);have d6:=zqm (Kd.R_elder' (zqfR b5.out) (Kd.R_base b4) hb);have d1:=zqm (Kd.R_lower (Kd.R_new' (Kd.R_new' b4 (Kd.Q_lt (zqfQ a5.out))) (Kd.R_lt (zqfR b5.out))) (below_size zq11));replace a0:=zqm (blk_below (g:=a2) (o:= .cells #[.slice c9 a3.length b8,.slice d0 a1.length b9] 26 (0,0)) (zqe a0.out) hb);replace HB:=zqm (below_step zq11 hb);clear a5 b5;have a5:=d9;have b5:=d6;clear d9 d6 hb b4;obtain⟨r1,r7,s7⟩:=Kd.R_slice b5.out;subst s7;obtain⟨r2,r8,s8⟩:=Kd.R_slice d1.out;subst s8)|((with_reducible refine gate_callee (f:=6) rfl ?_);refine goesL_ (some 21) rfl rfl Try.func6 zqk rfl #[.slice r1 a4.length r7,.slice r2 e9.length r8] rfl zq5 ?_;(with_reducible refine(laws_sameInts.calls k _ _ a4 _ _ e9 true _ ?side1 ?side2 ?side3 ?side4 A6.out).mono ?_);(case side1=> exact zq107);(case side2=>exact(Kd.R_reads' b5.out).2.1);(case side3=> exact zq108);(case side4=>exact(Kd.R_reads' d1.out).2.1);rintro e w' ⟨rfl,⟨nd,rfl⟩⟩;refine⟨_,rfl,?_⟩;have j9:q7.cell? ⟨a2,0,none⟩=some (.slice c9 a3.length b8):=(blk_cell a0.out 0).trans rfl;have k0:q7.cell? ⟨a2,1,none⟩=some (.slice d0 a1.length b9):=(blk_cell a0.out 1).trans rfl;have l7:=blk_frozen a0.out 0;have l8:=blk_frozen a0.out 1)|((with_reducible refine gate_callee (f:=8) rfl ?_);refine goesL_ (some 27) rfl rfl Try.func8 zqk rfl #[.agg #[.slice c9 a3.length b8,.slice d0 a1.length b9]] rfl zq5 ?_;(with_reducible refine(impl_LogicOk.calls _ _ a3 _ _ a1 false _ ?side1 ?side2 ?side3 ?side4 A9.out).mono ?_);(case side1=> exact zq71);(case side2=> exact zq161);(case side3=> exact zq70);(case side4=> exact zq160);rintro e z2 ⟨rfl,hb⟩;refine⟨_,rfl,?_⟩;replace a7:=zqm (Kd.S_below (zqfS a7.out) hb);replace a5:=zqm (Kd.Q_below (zqfQ a5.out) hb);replace b5:=zqm (Kd.R_below (zqfR b5.out) hb);replace d1:=zqm (Kd.R_below (zqfR d1.out) hb);replace a0:=zqm (blk_below (g:=a2) (o:= .cells #[.slice c9 a3.length b8,.slice d0 a1.length b9] 26 (0,0)) (zqe a0.out) hb);replace HB:=zqm (below_step zq11 hb);clear hb)|(go_at_call 9;(with_reducible refine(laws_alive.calls k i8 _ w4.out).mono ?_);rintro e z3 ⟨rfl,hb⟩;replace a7:=zqm (Kd.S_below (zqfS a7.out) hb);replace a5:=zqm (Kd.Q_below (zqfQ a5.out) hb);replace b5:=zqm (Kd.R_below (zqfR b5.out) hb);replace d1:=zqm (Kd.R_below (zqfR d1.out) hb);replace a0:=zqm (blk_below (g:=a2) (o:= .cells #[.slice c9 a3.length b8,.slice d0 a1.length b9] 26 (0,0)) (zqe a0.out) hb);replace HB:=zqm (below_step zq11 hb);clear hb))
     go_ret
     exact⟨zq17,zq11⟩
   ·rw [if_neg c8] at H;have n6:((a4.length:Int)==0)=false:=beq_eq_false_iff_ne.mpr c8;have n7:((a4.length:Int) !=0)=true:=bne_iff_ne.mpr c8;have r6: ¬(a4= []):=fun h_=>c8 (by rw [h_];rfl);obtain⟨d3,d2⟩: ∃j_:Int,(shl .i64 1 (a1.length:Int))=j_:=⟨_,rfl⟩;(replace H:(laws_FnBlocksOf.l0 k a4 0 (wrap64 ((d3) - 1)) 0 a3 a1)=some r:=by first|(rw [d2] at H;exact H)|(simp only [d2] at H ⊢;exact H));(try rw [d2] at A3);(try rw [d2] at A4);(try rw [d2] at A5);(try rw [d2] at A6);have g0:(IntKind.i64.wrap (1*2 ^ min (a1.length:Int).toNat 64))=d3:=d2;have hji37z:(a1.length:Int)≤64→(IntKind.i64.wrap (1*2 ^ (a1.length:Int).toNat))=d3:=shl_small d2;have hji37p:(IntKind.i64.wrap (1*2 ^ min a1.length 64))=d3:=g0;have hji37q:(a1.length:Int)≤64→(IntKind.i64.wrap (1*2 ^ a1.length))=d3:=hji37z;(have hji37r:(IntKind.i64.wrap (2 ^ min a1.length 64))=d3:=by have h_:=hji37p;rw [Int.one_mul] at h_;exact h_);(have hji37s:(a1.length:Int)≤64→(IntKind.i64.wrap (2 ^ a1.length))=d3:=fun hle_=>by have h_:=hji37q hle_;rw [Int.one_mul] at h_;exact h_);(have hji37u:(IntKind.i64.wrap (2 ^ min (a1.length:Int).toNat 64))=d3:=by have h_:=g0;rw [Int.one_mul] at h_;exact h_);(have hji37v:(a1.length:Int)≤64→(IntKind.i64.wrap (2 ^ (a1.length:Int).toNat))=d3:=fun hle_=>by have h_:=hji37z hle_;rw [Int.one_mul] at h_;exact h_);have hji37y:(wrap64 (1*2 ^ min (a1.length:Int).toNat 64))=d3:=(i64_w _).symm.trans g0;have hji37x:(a1.length:Int)≤64→(wrap64 (1*2 ^ (a1.length:Int).toNat))=d3:=fun h_=>(i64_w _).symm.trans (hji37z h_);have H':=zqm H;clear H
    go_enter Try.func3,Try.ntmps3
    go_wp2_with (first|((with_reducible refine gate_callee (f:=4) rfl ?_);refine goesL_ (some 15) rfl rfl Try.func4 zqk rfl #[.slice A0 l0.length c0] rfl zq5 ?_;(with_reducible refine(spec_DrawBlocksOf.calls k _ _ l0 a3 a1 _ ?side1 ?side2 A3.out).mono ?_);(case side1=> exact zq114);(case side2=>exact q1.out);rintro e z4 ⟨t8,t9,rfl,b4,e3,hb⟩;refine⟨_,rfl,?_⟩;have a7:=zqm (Kd.S_lower b4 (below_size zq2));have a5:=zqm (Kd.Q_lower e3 (below_size zq2));replace HB:=zqm (below_step zq2 hb);clear hb b4 e3)|((with_reducible refine gate_dst (N:=3) rfl ?_);refine box_event ?hg (N:=3) ?hd (cs:= #[.slice none 0 0,.slice none 0 0]) (t:=26) ?hr ?_;(case hd=>rfl);(case hg=>rfl);(case hr=> exact zq15);intro a2 hg q8 hbox hb;replace a7:=zqm (Kd.S_below (zqfS a7.out) hb);replace a5:=zqm (Kd.Q_below (zqfQ a5.out) hb);have d6:=zqm (below_step zq2 hb);have a0:=zqm (hbox);have o3:=zqm ((by rw [hg];exact(below_size zq2):w.heap.size≤a2));have b0:=zqm ((by rw [hg];exact(below_size zq2):w.heap.size≤a2));clear HB;have HB:=d6;clear d6 hb hbox hg;obtain⟨b3,b1,s9⟩:=Kd.S_slice a7.out;subst s9;have k3:q8.cell? ⟨a2,0,none⟩=some (.slice none 0 0):=(blk_cell a0.out 0).trans rfl;have k4:q8.cell? ⟨a2,1,none⟩=some (.slice none 0 0):=(blk_cell a0.out 1).trans rfl;have l9:=blk_frozen a0.out 0;have m0:=blk_frozen a0.out 1;obtain⟨a9,a8,t0,_⟩:=Kd.Q_slice a5.out;subst t0)|((with_reducible refine gate_callee (f:=5) rfl ?_);refine goesL_ (some 17) rfl rfl Try.func5 zqk rfl #[.agg #[.slice b3 a3.length b1,.slice a9 a1.length a8]] rfl zq5 ?_;(with_reducible refine(impl_BlocksOf.calls _ _ a3 _ _ a1 a4 _ ?side1 ?side2 ?side3 ?side4 A4.out).mono ?_);(case side1=>refine(Kd.S_reads' (e:=24) (base:=w.heap.size) (ok:=fun k_=>some k_≠(.slice a9 a1.length a8:Value).ownBlock) (n:=a3.length) (c:=b1) ?_).2.2;exact zq75);(case side2=> exact zq161);(case side3=>refine(Kd.Q_reads' (e:=3) (base:=w.heap.size) (ok:=fun k_=>True) (n:=a1.length) (c:=a8) ?_).2.2;exact zq43);(case side4=> exact zq160);rintro e q9 ⟨u0,rfl,b4,hb⟩;refine⟨_,rfl,?_⟩;replace a7:=zqm (Kd.S_elder' zq75 (Kd.R_base b4) hb);have d9:=zqm (Kd.Q_elder' zq43 (Kd.R_base b4) hb);have b5:=zqm (Kd.R_lower (Kd.R_new' b4 (Kd.Q_lt zq43)) (below_size zq11));replace a0:=zqm (blk_below (g:=a2) (o:= .cells #[.slice b3 a3.length b1,.slice a9 a1.length a8] 26 (0,0)) (by refine zqe ?_;refine blk_put (cs:= #[.slice b3 a3.length b1,.slice none 0 0]) ?_ 1 _ rfl;refine zqe ?_;refine blk_put (cs:= #[.slice none 0 0,.slice none 0 0]) ?_ 0 _ rfl;refine zqe ?_;exact a0.out) hb);replace HB:=zqm (below_step zq11 hb);clear a5;have a5:=d9;clear d9 hb b4;have k5:q9.cell? ⟨a2,0,none⟩=some (.slice b3 a3.length b1):=(blk_cell a0.out 0).trans rfl;have k6:q9.cell? ⟨a2,1,none⟩=some (.slice a9 a1.length a8):=(blk_cell a0.out 1).trans rfl;have m1:=blk_frozen a0.out 0;have m2:=blk_frozen a0.out 1)|((with_reducible refine gate_callee (f:=7) rfl ?_);refine goesL_ (some 20) rfl rfl Try.func7 zqk rfl #[.agg #[.slice b3 a3.length b1,.slice a9 a1.length a8]] rfl zq5 ?_;(with_reducible refine(spec_BlocksOf.calls k _ _ a3 _ _ a1 e9 _ ?side1 ?side2 ?side3 ?side4 A5.out).mono ?_);(case side1=> exact zq71);(case side2=> exact zq161);(case side3=> exact zq70);(case side4=> exact zq160);rintro e r0 ⟨u1,rfl,b4,hb⟩;refine⟨_,rfl,?_⟩;replace a7:=zqm (Kd.S_elder' (zqfS a7.out) (Kd.R_base b4) hb);have d9:=zqm (Kd.Q_elder' (zqfQ a5.out) (Kd.R_base b4) hb);have d6:=zqm (Kd.R_elder' (zqfR b5.out) (Kd.R_base b4) hb);have d1:=zqm (Kd.R_lower (Kd.R_new' (Kd.R_new' b4 (Kd.Q_lt (zqfQ a5.out))) (Kd.R_lt (zqfR b5.out))) (below_size zq11));replace a0:=zqm (blk_below (g:=a2) (o:= .cells #[.slice b3 a3.length b1,.slice a9 a1.length a8] 26 (0,0)) (zqe a0.out) hb);replace HB:=zqm (below_step zq11 hb);clear a5 b5;have a5:=d9;have b5:=d6;clear d9 d6 hb b4;obtain⟨e1,e2,t1⟩:=Kd.R_slice b5.out;subst t1;obtain⟨r3,r9,t2⟩:=Kd.R_slice d1.out;subst t2)|((with_reducible refine gate_callee (f:=6) rfl ?_);refine goesL_ (some 21) rfl rfl Try.func6 zqk rfl #[.slice e1 a4.length e2,.slice r3 e9.length r9] rfl zq5 ?_;(with_reducible refine(laws_sameInts.calls k _ _ a4 _ _ e9 true _ ?side1 ?side2 ?side3 ?side4 A6.out).mono ?_);(case side1=> exact zq107);(case side2=>exact(Kd.R_reads' b5.out).2.1);(case side3=> exact zq108);(case side4=>exact(Kd.R_reads' d1.out).2.1);rintro e w' ⟨rfl,⟨nd,rfl⟩⟩;refine⟨_,rfl,?_⟩;have k7:r0.cell? ⟨a2,0,none⟩=some (.slice b3 a3.length b1):=(blk_cell a0.out 0).trans rfl;have k8:r0.cell? ⟨a2,1,none⟩=some (.slice a9 a1.length a8):=(blk_cell a0.out 1).trans rfl;have m3:=blk_frozen a0.out 0;have m4:=blk_frozen a0.out 1))
    go_loopg [5,6,7] k (fun kq v5 v6 v7 w'=> ∃(d4:Int) (d5:Int) (a6:Int),v5= .int .i64 d4∧v6= .int .i64 d5∧v7= .int .i64 a6∧Aside0 (laws_FnBlocksOf.l0 kq a4 d4 d5 a6 a3 a1=some r)∧Aside0 (kq≤k)∧Aside0 (Kd.R (Kd.int .i64) 3 w' w.heap.size (fun k_=>some k_≠((.slice a9 a1.length a8):Value).ownBlock) (.slice e1 a4.length e2) a4)∧Aside0 (Kd.S (Kd.slice 3 (Kd.int .i64)) 24 w' w.heap.size (fun k_=>some k_≠((.slice e1 a4.length e2):Value).ownBlock∧some k_≠((.slice a9 a1.length a8):Value).ownBlock) (.slice b3 a3.length b1) a3)∧Aside0 (Kd.Q (Kd.int .i64) 3 w' w.heap.size (fun k_=>some k_≠((.slice e1 a4.length e2):Value).ownBlock) (.slice a9 a1.length a8) a1)∧Aside0 (w'.heap[a2]? =some (.cells #[(.slice b3 a3.length b1),(.slice a9 a1.length a8)] 26 (0,0)))∧Aside0 (Below w.heap.size w w'))
    case atStart=>exact⟨(0),(wrap64 ((d3) - 1)),(0),zq6,(by first|rfl|(simp;done)|(simp only [← d2] <;> (first|rfl|simp))|(simp [*];done)),zq6,H',⟨Nat.le_refl _⟩,⟨by refine zqfR ?_;exact Kd.R_mono b5.out (fun _ hk=>hk.1.2)⟩,⟨by refine zqfS ?_;exact Kd.S_mono a7.out (fun _ hk=>⟨hk.1.2,hk.1.1⟩)⟩,⟨by refine zqfQ ?_;exact Kd.Q_mono a5.out (fun _ hk=>hk.1.2)⟩,⟨zqe a0.out⟩,⟨zq11⟩⟩
    case round=>
     clear H';(try clear c1);(try clear c2);(try clear n4);(try clear n5);(try clear p2);(try clear c3);(try clear c4);(try clear c5);(try clear c6);(try clear p6);(try clear c7);(try clear c8);(try clear n6);(try clear n7);(try clear r6);(try clear g3);(try clear u2);(try clear u3);(try clear u4);(try clear u5);(try clear u6);(try clear u7);(try clear j5);(try clear j6);(try clear j7);(try clear j8);(try clear j9);(try clear k0);(try clear k3);(try clear k4);(try clear k5);(try clear k6);(try clear k7);(try clear k8);(try clear v1);(try clear v2);(try clear v3);(try clear v4);(try clear v9);(try clear w0);(try clear l3);(try clear l4);(try clear l5);(try clear l6);(try clear l7);(try clear l8);(try clear l9);(try clear m0);(try clear m1);(try clear m2);(try clear m3);(try clear m4);obtain⟨d4,d5,a6,rfl,rfl,rfl,HA,g2,HO_4,HO_576000,HO_576001,a0,HB⟩:=hrel
     cases gk with
     |zero=>exact absurd HA.out (by simp [laws_FnBlocksOf.l0])
     |succ k1=>
      have H:=HA.out;clear HA;simp only [laws_FnBlocksOf.l0] at H
      by_cases f7:a6<(a4.length:Int)
      ·rw [if_pos f7] at H;have j2:decide (a6<(a4.length:Int))=true:=decide_eq_true f7;clear f7
       by_cases h2:0≤a6
       ·rw [if_pos h2] at H;have x2:decide (0≤a6)=true:=decide_eq_true h2;clear h2;replace H:=Option.bind_eq_some_iff.mp H;obtain⟨t5,m8,H⟩:=H;(try dsimp only at H);have p8:=zqm m8;clear m8
        by_cases h3:t5=true
        ·subst h3;rw [if_pos rfl] at H;replace H:=Option.bind_eq_some_iff.mp H;obtain⟨t6,m9,H⟩:=H;(try dsimp only at H);have w5:=zqm m9;clear m9
         by_cases h4:t6=true
         ·subst h4;rw [if_pos rfl] at H;replace H:=Option.bind_eq_some_iff.mp H;obtain⟨⟨i9,j0⟩,n0,H⟩:=H;(try dsimp only at H);have w6:=zqm n0;clear n0;replace H:=Option.bind_eq_some_iff.mp H;obtain⟨t7,n1,H⟩:=H;(try dsimp only at H);have w7:=zqm n1;clear n1
          by_cases j3:t7=true
          ·subst j3;rw [if_pos rfl] at H;have H':=zqm H;clear H;have e5:0≤(a6:Int):=zqo;have e7:a6<(a4.length:Int):=zqo;obtain⟨e0,i0,g5⟩:=Kd.at_int (Kd.R_reads' HO_4.out).2.2 a6 e5 e7
           cases i0
           replace e5:=eq_true e5;replace e7:=eq_true e7;have e6:0≤(a6:Int):=zqo;have e8:a6<(a4.length:Int):=zqo;obtain⟨g8,i1,g6⟩:=Kd.at_int (Kd.R_reads' HO_4.out).2.2 a6 e6 e8;obtain rfl:e0=g8:=(by injection i1);replace e6:=eq_true e6;replace e8:=eq_true e8;(try go_wp2);replace HO_4:=zqm (Kd.R_drew HO_4.out);replace HO_576000:=zqm (Kd.S_drew HO_576000.out);replace HO_576001:=zqm (Kd.Q_drew HO_576001.out);replace a0:=zqm (blk_drew a0.out);replace HB:=zqm (below_drew1 HB.out);have g9:0≤(a6:Int):=zqo;have h0:a6<(a4.length:Int):=zqo;obtain⟨o5,s2,f6⟩:=Kd.at_int (Kd.R_reads' HO_4.out).2.2 a6 g9 h0;obtain rfl:e0=o5:=(by injection s2);replace g9:=eq_true g9;replace h0:=eq_true h0;have i2:0≤(a6:Int):=zqo;have i4:a6<(a4.length:Int):=zqo;obtain⟨o6,s3,g7⟩:=Kd.at_int (Kd.R_reads' HO_4.out).2.2 a6 i2 i4;obtain rfl:e0=o6:=(by injection s3);replace i2:=eq_true i2;replace i4:=eq_true i4;refine start_ (n:=21) (S:=fun w'=>w'.cell? ⟨a2,0,none⟩=some (.slice b3 a3.length b1)∧w'.cell? ⟨a2,1,none⟩=some (.slice a9 a1.length a8)∧w'.cell? (e0.add (a6).toNat)=some (.int .i64 (rd a4 a6))∧w'.cell? (e0.add (a6).toNat)=some (.int .i64 (rd a4 a6))) (ds:= []) (zqb 21 0) zqk rfl rfl ⟨(blk_cell a0.out 0).trans rfl,(blk_cell a0.out 1).trans rfl,f6,g7⟩ (fun hHeld=>?_);refine with_tabW laws_FnBlocksOf.tab16 laws_FnBlocksOf.bits16 (fun HT_ HW_=>?_);generalize wr.drew=z5 at HO_4 HO_576000 HO_576001 a0 HB f6 g7 hHeld ⊢;refine zqw 0 55 (zqb 21 1) HT_ HW_ hHeld ?_;refine one_ (i:=1) (N:=some 56) (zqb 21 3) rfl rfl (one_of HT_.out zqk) (by decide) (fun K hK=>?_);refine goes_ Try.func10 zqk rfl #[.agg #[.slice b3 a3.length b1,.slice a9 a1.length a8]] (by rfl) rfl rfl zq5 ?_;(with_reducible refine(spec_KeepsOk.calls k1 _ _ a3 _ _ a1 true _ ?side1 ?side2 ?side3 ?side4 p8.out).mono ?_);(case side1=> exact zq38);(case side2=> exact zq138);(case side3=> exact zq37);(case side4=> exact zq137);rintro e z6 ⟨rfl,hb⟩;have f1:=(hb.cell (World.block_lt_of_cell? _ _ (hHeld.2.2.1))).trans (hHeld.2.2.1);have f2:=(hb.cell (World.block_lt_of_cell? _ _ (hHeld.2.2.2))).trans (hHeld.2.2.2);refine⟨_,rfl,?_⟩;replace HO_4:=zqm (Kd.R_below (zqfR HO_4.out) hb);replace HO_576000:=zqm (Kd.S_below (zqfS HO_576000.out) hb);replace HO_576001:=zqm (Kd.Q_below (zqfQ HO_576001.out) hb);replace a0:=zqm (blk_below (g:=a2) (o:= .cells #[.slice b3 a3.length b1,.slice a9 a1.length a8] 26 (0,0)) (zqe a0.out) hb);replace HB:=zqm (below_step zq11 hb);clear hb;refine hK.out _ _ ⟨(blk_cell a0.out 0).trans rfl,(blk_cell a0.out 1).trans rfl,f1,f2⟩ (fun hHeld=>?_);clear hK K;refine norm_ (a':=?_) ?_ ?_;rotate_left
           ·show Act.put _ (some 56) _=_;exact zqs
           refine zqp 2 57 (zqb 21 7) HT_ ?_;refine zqp 4 59 (zqb 21 23) HT_ ?_;refine zqp 5 60 (zqb 21 55) HT_ ?_;refine zqp 6 61 (zqb 21 119) HT_ ?_;refine zqw 3 58 (zqb 21 127) HT_ HW_ hHeld ?_;refine zqw 7 62 (zqb 21 255) HT_ HW_ hHeld ?_;refine one_ (i:=8) (N:=some 63) (zqb 21 511) rfl rfl (one_of HT_.out zqk) (by decide) (fun K hK=>?_);refine goes_ Try.func11 zqk rfl #[.agg #[.slice b3 a3.length b1,.slice a9 a1.length a8],.int .i64 (rd a4 a6)] (by rfl) rfl rfl zq5 ?_;(with_reducible refine(impl_SubOk.calls _ _ a3 _ _ a1 (rd a4 a6) true _ ?side1 ?side2 ?side3 ?side4 w5.out).mono ?_);(case side1=> exact zq38);(case side2=> exact zq138);(case side3=> exact zq37);(case side4=> exact zq137);rintro e z7 ⟨rfl,hb⟩;have f1:=(hb.cell (World.block_lt_of_cell? _ _ (hHeld.2.2.1))).trans (hHeld.2.2.1);have f2:=(hb.cell (World.block_lt_of_cell? _ _ (hHeld.2.2.2))).trans (hHeld.2.2.2);refine⟨_,rfl,?_⟩;replace HO_4:=zqm (Kd.R_below (zqfR HO_4.out) hb);replace HO_576000:=zqm (Kd.S_below (zqfS HO_576000.out) hb);replace HO_576001:=zqm (Kd.Q_below (zqfQ HO_576001.out) hb);replace a0:=zqm (blk_below (g:=a2) (o:= .cells #[.slice b3 a3.length b1,.slice a9 a1.length a8] 26 (0,0)) (zqe a0.out) hb);replace HB:=zqm (below_step zq11 hb);clear hb;refine hK.out _ _ ⟨(blk_cell a0.out 0).trans rfl,(blk_cell a0.out 1).trans rfl,f1,f2⟩ (fun hHeld=>?_);clear hK K;refine norm_ (a':=?_) ?_ ?_;rotate_left
           ·show Act.put _ (some 63) _=_;exact zqs
           refine zqp 9 64 (zqb 21 1023) HT_ ?_;refine zqp 10 65 (zqb 21 2047) HT_ ?_;refine zqp 12 67 (zqb 21 6143) HT_ ?_;refine zqp 13 68 (zqb 21 14335) HT_ ?_;refine zqp 14 69 (zqb 21 30719) HT_ ?_;refine zqw 11 66 (zqb 21 32767) HT_ HW_ hHeld ?_;refine zqw 15 70 (zqb 21 65535) HT_ HW_ hHeld ?_;refine one_ (i:=16) (N:=some 71) (zqb 21 131071) rfl rfl (one_of HT_.out zqk) (by decide) (fun K hK=>?_);refine goes_ Try.func13 zqk rfl #[.agg #[.slice b3 a3.length b1,.slice a9 a1.length a8],.int .i64 (rd a4 a6)] (by rfl) rfl rfl zq5 ?_;(with_reducible refine(impl_PartOf.calls _ _ a3 _ _ a1 (rd a4 a6) i9 j0 _ ?side1 ?side2 ?side3 ?side4 w6.out).mono ?_);(case side1=> exact zq38);(case side2=> exact zq138);(case side3=> exact zq37);(case side4=> exact zq137);rintro e z8 ⟨y1,y2,rfl,b4,e3,hb⟩;have f1:=(hb.cell (World.block_lt_of_cell? _ _ (hHeld.2.2.1))).trans (hHeld.2.2.1);have f2:=(hb.cell (World.block_lt_of_cell? _ _ (hHeld.2.2.2))).trans (hHeld.2.2.2);refine⟨_,rfl,?_⟩;have h9:=zqm (Kd.R_elder' (zqfR HO_4.out) (Kd.R_base e3) hb);have d9:=zqm (Kd.S_mono (Kd.S_told (Kd.S_told (Kd.S_old (zqfS HO_576000.out) hb) (Kd.S_base b4)) (Kd.R_base e3)) (fun _ h_=>h_.1));have d6:=zqm (Kd.Q_elder' (zqfQ HO_576001.out) (Kd.R_base e3) hb);have f3:=zqm (Kd.S_lower (Kd.S_new' (Kd.S_new' (Kd.S_new' b4 (Kd.R_lt (zqfR HO_4.out))) (Kd.S_lt (zqfS HO_576000.out))) (Kd.Q_lt (zqfQ HO_576001.out))) (below_size zq11));have f4:=zqm (Kd.R_lower (Kd.R_new' (Kd.R_new' e3 (Kd.R_lt (zqfR HO_4.out))) (Kd.Q_lt (zqfQ HO_576001.out))) (below_size zq11));replace a0:=zqm (blk_below (g:=a2) (o:= .cells #[.slice b3 a3.length b1,.slice a9 a1.length a8] 26 (0,0)) (zqe a0.out) hb);replace HB:=zqm (below_step zq11 hb);clear HO_4 HO_576000 HO_576001;have HO_4:=h9;have HO_576000:=d9;have HO_576001:=d6;clear h9 d9 d6 hb b4 e3;obtain⟨r4,s0,n8⟩:=Kd.S_slice f3.out;(first|subst n8|(injection n8 with h6 o0 h7;have o1:=h6.symm;have o2:=h7.symm;clear h6 o0 h7;subst o1;subst o2));obtain⟨r5,s1,n9⟩:=Kd.R_slice f4.out;(first|subst n9|(injection n9 with h6 o0 h7;have o1:=h6.symm;have o2:=h7.symm;clear h6 o0 h7;subst o1;subst o2));refine hK.out _ _ ⟨(blk_cell a0.out 0).trans rfl,(blk_cell a0.out 1).trans rfl,f1,f2⟩ (fun hHeld=>?_);clear hK K;refine norm_ (a':=?_) ?_ ?_;rotate_left
           ·show Act.put _ (some 71) _=_;exact zqs
           refine one_ (i:=17) (N:=some 72) (zqb 21 262143) rfl rfl (one_of HT_.out zqk) (by decide) (fun K hK=>?_);refine goes_ Try.func12 zqk rfl #[.agg #[.slice r4 i9.length s0,.slice r5 j0.length s1]] (by rfl) rfl rfl zq5 ?_;(with_reducible refine(impl_BooleanOk.calls _ _ i9 _ _ j0 true _ ?side1 ?side2 ?side3 ?side4 w7.out).mono ?_);(case side1=>repeat(first|exact(Kd.S_reads' f3.out).2.2|(with_reducible refine Kd.C_alloc ?_ _)|(with_reducible refine Kd.C_drewN ?_ _)|(with_reducible refine Kd.C_drew ?_)));(case side2=>exact(Kd.S_reads' f3.out).2.1);(case side3=>repeat(first|exact(Kd.R_reads' f4.out).2.2|(with_reducible refine Kd.C_alloc ?_ _)|(with_reducible refine Kd.C_drewN ?_ _)|(with_reducible refine Kd.C_drew ?_)));(case side4=>exact(Kd.R_reads' f4.out).2.1);rintro e z9 ⟨rfl,hb⟩;have f1:=(hb.cell (World.block_lt_of_cell? _ _ (hHeld.2.2.1))).trans (hHeld.2.2.1);have f2:=(hb.cell (World.block_lt_of_cell? _ _ (hHeld.2.2.2))).trans (hHeld.2.2.2);refine⟨_,rfl,?_⟩;replace HO_4:=zqm (Kd.R_below (zqfR HO_4.out) hb);replace HO_576000:=zqm (Kd.S_below (zqfS HO_576000.out) hb);replace HO_576001:=zqm (Kd.Q_below (zqfQ HO_576001.out) hb);replace f3:=zqm (Kd.S_below (zqfS f3.out) hb);replace f4:=zqm (Kd.R_below (zqfR f4.out) hb);replace a0:=zqm (blk_below (g:=a2) (o:= .cells #[.slice b3 a3.length b1,.slice a9 a1.length a8] 26 (0,0)) (zqe a0.out) hb);replace HB:=zqm (below_step zq11 hb);clear hb;refine hK.out _ _ ⟨(blk_cell a0.out 0).trans rfl,(blk_cell a0.out 1).trans rfl,f1,f2⟩ (fun hHeld=>?_);clear hK K;refine norm_ (a':=?_) ?_ ?_;rotate_left
           ·show Act.put _ (some 72) _=_;exact zqs
           refine zqp 18 73 (zqb 21 524287) HT_ ?_;refine zqp 19 74 (zqb 21 1048575) HT_ ?_;refine zqp 20 75 (zqb 21 2097151) HT_ ?_;refine done_ (done_of HT_.out zqk) ?_;try go_wp2
           go_roundg k1
           (case measure=>have:=g2.out;omega);case rel=>exact⟨(Go.bits .or .i64 d4 (rd a4 a6)),(Go.bits .and .i64 d5 (rd a4 a6)),(wrap64 (a6+1)),zq6,zq6,zq6,H',⟨by have:=g2.out;omega⟩,⟨by refine zqfR ?_;exact Kd.R_mono HO_4.out (fun _ hk=>hk.1)⟩,⟨by refine zqfS ?_;exact Kd.S_mono HO_576000.out (fun _ hk=>⟨hk.1.1.1,hk.1.1.2⟩)⟩,⟨by refine zqfQ ?_;exact Kd.Q_mono HO_576001.out (fun _ hk=>hk.1)⟩,⟨zqe a0.out⟩,⟨zq11⟩⟩
          ·replace j3:=Bool.eq_false_iff.mpr j3;subst j3;rw [if_neg (show¬(false=true) by decide)] at H;exact absurd ((Option.some.inj H).trans hrt) (by decide)
         ·replace h4:=Bool.eq_false_iff.mpr h4;subst h4;rw [if_neg (show¬(false=true) by decide)] at H;exact absurd ((Option.some.inj H).trans hrt) (by decide)
        ·replace h3:=Bool.eq_false_iff.mpr h3;subst h3;rw [if_neg (show¬(false=true) by decide)] at H;have H':=zqm H;clear H;have e5:0≤(a6:Int):=zqo;have e7:a6<(a4.length:Int):=zqo;obtain⟨e0,i0,g5⟩:=Kd.at_int (Kd.R_reads' HO_4.out).2.2 a6 e5 e7
         cases i0
         replace e5:=eq_true e5;replace e7:=eq_true e7;have e6:0≤(a6:Int):=zqo;have e8:a6<(a4.length:Int):=zqo;obtain⟨g8,i1,g6⟩:=Kd.at_int (Kd.R_reads' HO_4.out).2.2 a6 e6 e8;obtain rfl:e0=g8:=(by injection i1);replace e6:=eq_true e6;replace e8:=eq_true e8;(try go_wp2);replace HO_4:=zqm (Kd.R_drew HO_4.out);replace HO_576000:=zqm (Kd.S_drew HO_576000.out);replace HO_576001:=zqm (Kd.Q_drew HO_576001.out);replace a0:=zqm (blk_drew a0.out);replace HB:=zqm (below_drew1 HB.out);refine start_ (n:=21) (S:=fun w'=>w'.cell? ⟨a2,0,none⟩=some (.slice b3 a3.length b1)∧w'.cell? ⟨a2,1,none⟩=some (.slice a9 a1.length a8)) (ds:= []) (zqb 21 0) zqk rfl rfl ⟨(blk_cell a0.out 0).trans rfl,(blk_cell a0.out 1).trans rfl⟩ (fun hHeld=>?_);refine with_tabW laws_FnBlocksOf.tab16 laws_FnBlocksOf.bits16 (fun HT_ HW_=>?_);generalize wr.drew=w75 at HO_4 HO_576000 HO_576001 a0 HB hHeld ⊢;refine zqw 0 55 (zqb 21 1) HT_ HW_ hHeld ?_;refine one_ (i:=1) (N:=some 56) (zqb 21 3) rfl rfl (one_of HT_.out zqk) (by decide) (fun K hK=>?_);refine goes_ Try.func10 zqk rfl #[.agg #[.slice b3 a3.length b1,.slice a9 a1.length a8]] (by rfl) rfl rfl zq5 ?_;(with_reducible refine(spec_KeepsOk.calls k1 _ _ a3 _ _ a1 false _ ?side1 ?side2 ?side3 ?side4 p8.out).mono ?_);(case side1=> exact zq38);(case side2=> exact zq138);(case side3=> exact zq37);(case side4=> exact zq137);rintro e w76 ⟨rfl,hb⟩;refine⟨_,rfl,?_⟩;replace HO_4:=zqm (Kd.R_below (zqfR HO_4.out) hb);replace HO_576000:=zqm (Kd.S_below (zqfS HO_576000.out) hb);replace HO_576001:=zqm (Kd.Q_below (zqfQ HO_576001.out) hb);replace a0:=zqm (blk_below (g:=a2) (o:= .cells #[.slice b3 a3.length b1,.slice a9 a1.length a8] 26 (0,0)) (zqe a0.out) hb);replace HB:=zqm (below_step zq11 hb);clear hb;refine hK.out _ _ ⟨(blk_cell a0.out 0).trans rfl,(blk_cell a0.out 1).trans rfl⟩ (fun hHeld=>?_);clear hK K;refine norm_ (a':=?_) ?_ ?_;rotate_left
         ·show Act.put _ (some 56) _=_;exact zqs
         refine zqp 2 57 (zqb 21 7) HT_ ?_;refine zqu 3 58 (zqb 21 15) HT_ ?_;refine zqu 4 59 (zqb 21 31) HT_ ?_;refine zqu 5 60 (zqb 21 63) HT_ ?_;refine zqu 6 61 (zqb 21 127) HT_ ?_;refine zqu 7 62 (zqb 21 255) HT_ ?_;refine zqu 8 63 (zqb 21 511) HT_ ?_;refine zqu 9 64 (zqb 21 1023) HT_ ?_;refine zqu 10 65 (zqb 21 2047) HT_ ?_;refine zqu 11 66 (zqb 21 4095) HT_ ?_;refine zqu 12 67 (zqb 21 8191) HT_ ?_;refine zqu 13 68 (zqb 21 16383) HT_ ?_;refine zqu 14 69 (zqb 21 32767) HT_ ?_;refine zqu 15 70 (zqb 21 65535) HT_ ?_;refine zqu 16 71 (zqb 21 131071) HT_ ?_;refine zqu 17 72 (zqb 21 262143) HT_ ?_;refine zqu 18 73 (zqb 21 524287) HT_ ?_;refine zqu 19 74 (zqb 21 1048575) HT_ ?_;refine zqp 20 75 (zqb 21 2097151) HT_ ?_;refine done_ (done_of HT_.out zqk) ?_;try go_wp2
         go_roundg k1
         (case measure=>have:=g2.out;omega);case rel=>exact⟨(Go.bits .or .i64 d4 (rd a4 a6)),(Go.bits .and .i64 d5 (rd a4 a6)),(wrap64 (a6+1)),zq6,zq6,zq6,H',⟨by have:=g2.out;omega⟩,⟨zqfR HO_4.out⟩,⟨zqfS HO_576000.out⟩,⟨zqfQ HO_576001.out⟩,⟨zqe a0.out⟩,⟨zq11⟩⟩
       ·rw [if_neg h2] at H;exact absurd H (by simp)
      ·rw [if_neg f7] at H;have j2:decide (a6<(a4.length:Int))=false:=decide_eq_false f7;clear f7;replace H:=Option.bind_eq_some_iff.mp H;obtain⟨b6,n2,H⟩:=H;(try dsimp only at H);have w8:=zqm n2;clear n2;have H':=zqm H;clear H;have k9:wr.cell? ⟨a2,0,none⟩=some (.slice b3 a3.length b1):=(blk_cell a0.out 0).trans rfl;have l2:wr.cell? ⟨a2,1,none⟩=some (.slice a9 a1.length a8):=(blk_cell a0.out 1).trans rfl;have m5:=blk_frozen a0.out 0;have m6:=blk_frozen a0.out 1
       go_wp2_with (first|((with_reducible refine gate_callee (f:=14) rfl ?_);refine goesL_ (some 77) rfl rfl Try.func14 zqk rfl #[.agg #[.slice b3 a3.length b1,.slice a9 a1.length a8]] rfl zq5 ?_;(with_reducible refine(spec_CentreOf.calls k1 _ _ a3 _ _ a1 b6 _ ?side1 ?side2 ?side3 ?side4 w8.out).mono ?_);(case side1=> exact zq38);(case side2=> exact zq138);(case side3=> exact zq37);(case side4=> exact zq137);rintro e w79 ⟨h1,rfl,b4,hb⟩;refine⟨_,rfl,?_⟩;have h9:=zqm (Kd.R_elder' (zqfR HO_4.out) (Kd.R_base b4) hb);replace HO_576000:=zqm (Kd.S_elder' (zqfS HO_576000.out) (Kd.R_base b4) hb);have d6:=zqm (Kd.Q_elder' (zqfQ HO_576001.out) (Kd.R_base b4) hb);have o4:=zqm (Kd.R_lower (Kd.R_new' (Kd.R_new' b4 (Kd.R_lt (zqfR HO_4.out))) (Kd.Q_lt (zqfQ HO_576001.out))) (below_size zq11));replace a0:=zqm (blk_below (g:=a2) (o:= .cells #[.slice b3 a3.length b1,.slice a9 a1.length a8] 26 (0,0)) (zqe a0.out) hb);replace HB:=zqm (below_step zq11 hb);clear HO_4 HO_576001;have HO_4:=h9;have HO_576001:=d6;clear h9 d6 hb b4))
       go_loopg [8,10] k1 (fun kq v8 x0 w'=> ∃(d8:Int) (b2:Int),v8= .int .i64 d8∧x0= .int .i64 b2∧Aside0 (laws_FnBlocksOf.l1 kq a4 d4 d5 d8 b6 b2 a3 a1=some r)∧Aside0 (kq≤k1)∧Aside0 (Kd.R (Kd.int .i64) 3 w' w.heap.size (fun k_=>some k_≠(h1:Value).ownBlock∧some k_≠((.slice a9 a1.length a8):Value).ownBlock) (.slice e1 a4.length e2) a4)∧Aside0 (Kd.R (Kd.int .i64) 3 w' w.heap.size (fun k_=>some k_≠((.slice e1 a4.length e2):Value).ownBlock∧some k_≠((.slice a9 a1.length a8):Value).ownBlock) h1 b6)∧Aside0 (Kd.S (Kd.slice 3 (Kd.int .i64)) 24 w' w.heap.size (fun k_=>some k_≠((.slice e1 a4.length e2):Value).ownBlock∧some k_≠(h1:Value).ownBlock∧some k_≠((.slice a9 a1.length a8):Value).ownBlock) (.slice b3 a3.length b1) a3)∧Aside0 (Kd.Q (Kd.int .i64) 3 w' w.heap.size (fun k_=>some k_≠((.slice e1 a4.length e2):Value).ownBlock∧some k_≠(h1:Value).ownBlock) (.slice a9 a1.length a8) a1)∧Aside0 (w'.heap[a2]? =some (.cells #[(.slice b3 a3.length b1),(.slice a9 a1.length a8)] 26 (0,0)))∧Aside0 (Below w.heap.size w w'))
       case atStart=>exact⟨(0),(0),zq6,zq6,H',⟨Nat.le_refl _⟩,⟨by refine zqfR ?_;exact Kd.R_mono HO_4.out (fun _ hk=>⟨hk.2,hk.1⟩)⟩,⟨by refine zqfR ?_;exact Kd.R_mono o4.out (fun _ hk=>⟨hk.1.2,hk.2⟩)⟩,⟨by refine zqfS ?_;exact Kd.S_mono HO_576000.out (fun _ hk=>⟨hk.1.1,⟨hk.2,hk.1.2⟩⟩)⟩,⟨zqfQ HO_576001.out⟩,⟨zqe a0.out⟩,⟨zq11⟩⟩
       case round=>
        clear H';(try clear c1);(try clear p2);(try clear c4);(try clear c5);(try clear p5);(try clear q5);(try clear y7);(try clear p6);(try clear g3);(try clear y3);(try clear y4);(try clear y5);(try clear y6);(try clear f7);(try clear j2);(try clear h2);(try clear h3);(try clear h4);(try clear y8);(try clear z0);(try clear y0);(try clear y9);(try clear k9);(try clear l2);(try clear m5);(try clear m6);(try clear g5);(try clear g6);(try clear f6);(try clear e5);(try clear e6);(try clear g9);(try clear e7);(try clear e8);(try clear h0);obtain⟨d8,b2,rfl,rfl,HA,q2,HO_4,HO_9,HO_576000,HO_576001,a0,HB⟩:=hrel
        cases gk with
        |zero=>exact absurd HA.out (by simp [laws_FnBlocksOf.l1])
        |succ k2=>
         have H:=HA.out;clear HA;simp only [laws_FnBlocksOf.l1] at H
         by_cases g4:b2<(b6.length:Int)
         ·rw [if_pos g4] at H;have o7:decide (b2<(b6.length:Int))=true:=decide_eq_true g4;clear g4
          by_cases j4:0≤b2
          ·rw [if_pos j4] at H;have x3:decide (0≤b2)=true:=decide_eq_true j4;clear j4
           by_cases h5:0≤(rd b6 b2)
           ·rw [if_pos h5] at H;have x4:=eq_true h5;have x5:decide (0≤(rd b6 b2))=true:=decide_eq_true h5;clear h5;obtain⟨e4,f5⟩: ∃j_:Int,(shl .i64 1 (rd b6 b2))=j_:=⟨_,rfl⟩;(replace H:(laws_FnBlocksOf.l1 k2 a4 d4 d5 (wrap64 (d8+(e4))) b6 (wrap64 (b2+1)) a3 a1)=some r:=by first|(rw [f5] at H;exact H)|(simp only [f5] at H ⊢;exact H));have h8:(IntKind.i64.wrap (1*2 ^ min (rd b6 b2).toNat 64))=e4:=f5;have hji83z:(rd b6 b2)≤64→(IntKind.i64.wrap (1*2 ^ (rd b6 b2).toNat))=e4:=shl_small f5;(have hji83u:(IntKind.i64.wrap (2 ^ min (rd b6 b2).toNat 64))=e4:=by have h_:=h8;rw [Int.one_mul] at h_;exact h_);(have hji83v:(rd b6 b2)≤64→(IntKind.i64.wrap (2 ^ (rd b6 b2).toNat))=e4:=fun hle_=>by have h_:=hji83z hle_;rw [Int.one_mul] at h_;exact h_);have hji83y:(wrap64 (1*2 ^ min (rd b6 b2).toNat 64))=e4:=(i64_w _).symm.trans h8;have hji83x:(rd b6 b2)≤64→(wrap64 (1*2 ^ (rd b6 b2).toNat))=e4:=fun h_=>(i64_w _).symm.trans (hji83z h_);have H':=zqm H;clear H;obtain⟨x6,x8,t3⟩:=Kd.R_slice HO_9.out;subst t3;have i3:0≤(b2:Int):=zqo;have i5:b2<(b6.length:Int):=zqo;obtain⟨x1,s4,w3⟩:=Kd.at_int (Kd.R_reads' HO_9.out).2.2 b2 i3 i5
            cases s4
            replace i3:=eq_true i3;replace i5:=eq_true i5
            go_wp2
            go_roundg k2
            (case measure=>have:=g2.out;have:=q2.out;omega);case rel=>exact⟨(wrap64 (d8+(e4))),(wrap64 (b2+1)),(by first|rfl|(simp;done)|(simp only [← f5] <;> (first|rfl|simp))|(simp [*];done)),zq6,H',⟨by have:=g2.out;have:=q2.out;omega⟩,⟨zqfR HO_4.out⟩,⟨zqfR HO_9.out⟩,⟨zqfS HO_576000.out⟩,⟨zqfQ HO_576001.out⟩,⟨zqe a0.out⟩,⟨zq11⟩⟩
           ·rw [if_neg h5] at H;exact absurd H (by simp)
          ·rw [if_neg j4] at H;exact absurd H (by simp)
         ·rw [if_neg g4] at H;have o7:decide (b2<(b6.length:Int))=false:=decide_eq_false g4;clear g4;obtain⟨b7,f0⟩: ∃j_:Int,(shl .i64 1 (a1.length:Int))=j_:=⟨_,rfl⟩;(first|(obtain rfl:b7=d3:=f0.symm.trans d2)|skip);(replace H:(if d4=(wrap64 ((b7) - 1)) then(if d5=d8 then((laws_ascend.f k2 a4).bind fun j1=>(some j1)) else(some false)) else(some false))=some r:=by first|(rw [f0] at H;exact H)|(simp only [f0] at H ⊢;exact H));have g1:(IntKind.i64.wrap (1*2 ^ min (a1.length:Int).toNat 64))=b7:=f0;have hji85z:(a1.length:Int)≤64→(IntKind.i64.wrap (1*2 ^ (a1.length:Int).toNat))=b7:=shl_small f0;have hji85p:(IntKind.i64.wrap (1*2 ^ min a1.length 64))=b7:=g1;have hji85q:(a1.length:Int)≤64→(IntKind.i64.wrap (1*2 ^ a1.length))=b7:=hji85z;(have hji85r:(IntKind.i64.wrap (2 ^ min a1.length 64))=b7:=by have h_:=hji85p;rw [Int.one_mul] at h_;exact h_);(have hji85s:(a1.length:Int)≤64→(IntKind.i64.wrap (2 ^ a1.length))=b7:=fun hle_=>by have h_:=hji85q hle_;rw [Int.one_mul] at h_;exact h_);(have hji85u:(IntKind.i64.wrap (2 ^ min (a1.length:Int).toNat 64))=b7:=by have h_:=g1;rw [Int.one_mul] at h_;exact h_);(have hji85v:(a1.length:Int)≤64→(IntKind.i64.wrap (2 ^ (a1.length:Int).toNat))=b7:=fun hle_=>by have h_:=hji85z hle_;rw [Int.one_mul] at h_;exact h_);have hji85y:(wrap64 (1*2 ^ min (a1.length:Int).toNat 64))=b7:=(i64_w _).symm.trans g1;have hji85x:(a1.length:Int)≤64→(wrap64 (1*2 ^ (a1.length:Int).toNat))=b7:=fun h_=>(i64_w _).symm.trans (hji85z h_)
          by_cases f8:d4=(wrap64 ((b7) - 1))
          ·rw [if_pos f8] at H;have o8:(d4==(wrap64 ((b7) - 1)))=true:=beq_iff_eq.mpr f8;have o9:(d4 !=(wrap64 ((b7) - 1)))=false:=bne_eq_false_iff_eq.mpr f8;clear f8
           by_cases f9:d5=d8
           ·rw [if_pos f9] at H;have p0:(d5==d8)=true:=beq_iff_eq.mpr f9;have p1:(d5 !=d8)=false:=bne_eq_false_iff_eq.mpr f9;clear f9;replace H:=Option.bind_eq_some_iff.mp H;obtain⟨j1,n3,H⟩:=H;(try dsimp only at H);have w9:=zqm n3;clear n3;obtain rfl:=Option.some.inj H;obtain⟨x7,x9,t4⟩:=Kd.R_slice HO_9.out;subst t4;have u9:wr.cell? ⟨a2,0,none⟩=some (.slice b3 a3.length b1):=(blk_cell a0.out 0).trans rfl;have v0:wr.cell? ⟨a2,1,none⟩=some (.slice a9 a1.length a8):=(blk_cell a0.out 1).trans rfl;have w1:=blk_frozen a0.out 0;have w2:=blk_frozen a0.out 1
            go_wp2_with (first|(go_at_call 15;(with_reducible refine(laws_ascend.calls k2 _ _ a4 j1 _ ?side1 ?side2 w9.out).mono ?_);(case side1=>repeat(first|exact(Kd.R_reads' HO_4.out).2.2|(with_reducible refine Kd.C_alloc ?_ _)|(with_reducible refine Kd.C_drewN ?_ _)|(with_reducible refine Kd.C_drew ?_)));(case side2=>exact(Kd.R_reads' HO_4.out).2.1);rintro e w' ⟨rfl,⟨nd,rfl⟩⟩))
            go_ret
            exact⟨by first|rfl|(simp [errW_none,errW_some] <;> rfl)|(simp only [← d2,← f0];first|rfl|(simp [errW_none,errW_some] <;> rfl))|(simp [*,errW_none,errW_some] <;> rfl),zq11⟩
           ·rw [if_neg f9] at H;have p0:(d5==d8)=false:=beq_eq_false_iff_ne.mpr f9;have p1:(d5 !=d8)=true:=bne_iff_ne.mpr f9;exact absurd ((Option.some.inj H).trans hrt) (by decide)
          ·rw [if_neg f8] at H;have o8:(d4==(wrap64 ((b7) - 1)))=false:=beq_eq_false_iff_ne.mpr f8;have o9:(d4 !=(wrap64 ((b7) - 1)))=true:=bne_iff_ne.mpr f8;exact absurd ((Option.some.inj H).trans hrt) (by decide)
  ·replace c7:=Bool.eq_false_iff.mpr c7;subst c7;rw [if_neg (show¬(false=true) by decide)] at H;exact absurd ((Option.some.inj H).trans hrt) (by decide)
def laws_FnBlocksOf.Pure : Prop := ∀ (l0 : List Int), l0.length ≤ maxLen → l0.length * 1 ≤ 140737488351232 → (∀ x ∈ l0, (Lit.int .u8 x).wf = true) → ∃ k, laws_FnBlocksOf.f k l0 = some true
theorem laws_FnBlocksOf.walk (P : laws_FnBlocksOf.Pure) (a0 : Option Addr) (len0 cap0 : Nat) (z0 : List Int) (w : World) (w0 : (a0 = none ∧ len0 = 0 ∧ cap0 = 0 ∧ z0 = []) ∨ ∃ x, a0 = some x ∧ len0 ≤ cap0 ∧ cap0 ≤ maxLen ∧ z0.length = cap0 ∧ (∀ i, i < z0.length → w.cell? (x.add i) = some (.int .u8 (z0.getD i 0))) ∧ ∀ n ∈ z0, (Lit.int .u8 n).wf = true) (y0 : len0 * 1 ≤ 140737488351232) :
  Calls Try.prog 3 #[.slice a0 len0 cap0] w fun e w' => e = .returned (.bool true) ∧ Below w.heap.size w w' := by
 obtain ⟨l0, rfl, hr0, hm0, hw0, hc0⟩ := ReadsInt.ofRowC w0
 obtain ⟨k, h⟩ := P l0 hm0 y0 hw0
 refine (laws_FnBlocksOf.calls k _ _ l0 true rfl w (Kd.C_of_reads (d := (0 : Int)) (h1 := fun _ => rfl) hr0) hc0 h).mono ?_
 rintro e w' ⟨rfl, hd⟩
 exact ⟨rfl, hd⟩
end
end Go.Proofs.Ytmbapglhkbpokaa.Print
end
section
namespace Go.Proofs.Ytmbapglhkbpokaa.Print
open Go.RowKit Go.Proofs.YtmbapglhkbpokaaW.PrintWords Go.Proofs.YtmbapglhkbpokaaW.PrintLast Go.Proofs.YtmbapglhkbpokaaW.PrintMore
open Oml
section
def Best (n : Nat) (lb : Nat → Bool) (le : Nat → Nat → Bool) (i : Nat) (x : Int) : Prop :=
 (x= -1∧ ∀j,j<i→lb j=false)∨ ∃c:Nat,x=c∧c<i∧lb c=true∧ ∀j,j<i→lb j=true→(∀d,d<n→lb d=true→le d j=true)→j=c
theorem Best.zero {n : Nat} {lb : Nat → Bool} {le : Nat → Nat → Bool} : Best n lb le 0 (-1) := .inl ⟨rfl, fun _ h => absurd h (Nat.not_lt_zero _)⟩
theorem Best.skip {n i : Nat} {lb : Nat → Bool} {le : Nat → Nat → Bool} {x : Int} (h : Best n lb le i x) (hi : lb i = false) : Best n lb le (i + 1) x := by
 rcases h with ⟨h1,h2⟩|⟨c,h1,h2,h3,h4⟩
 ·refine .inl ⟨h1,fun j hj=>?_⟩
  rcases Nat.lt_or_ge j i with h|h
  ·exact h2 j h
  ·obtain rfl:j=i:=by omega
   exact hi
 ·refine .inr ⟨c,h1,by omega,h3,fun j hj k1 k2=>?_⟩
  rcases Nat.lt_or_ge j i with h|h
  ·exact h4 j h k1 k2
  ·obtain rfl:j=i:=by omega
   rw [hi] at k1;exact absurd k1 (by simp)
theorem Best.first {n i : Nat} {lb : Nat → Bool} {le : Nat → Nat → Bool} (h : Best n lb le i (-1)) (hi : lb i = true) : Best n lb le (i + 1) (i : Int) := by
 rcases h with ⟨h1,h2⟩|⟨c,h1,h2,h3,h4⟩
 ·refine .inr ⟨i,rfl,by omega,hi,fun j hj k1 _=>?_⟩
  rcases Nat.lt_or_ge j i with h|h
  ·rw [h2 j h] at k1;exact absurd k1 (by simp)
  ·omega
 ·omega
theorem Best.up {n i c : Nat} {lb : Nat → Bool} {le : Nat → Nat → Bool} (ha : ∀ a b, a < n → b < n → le a b = true → le b a = true → a = b) (hn : i < n) (h : Best n lb le i (c : Int)) (hi : lb i = true) (hc : le c i = true) : Best n lb le (i + 1) (i : Int) := by
 rcases h with ⟨h1,h2⟩|⟨c',h1,h2,h3,h4⟩
 ·omega
 ·obtain rfl:c=c':=by omega
  refine .inr ⟨i,rfl,by omega,hi,fun j hj k1 k2=>?_⟩
  rcases Nat.lt_or_ge j i with h|h
  ·obtain rfl:=h4 j h k1 k2
   exact ha j i (by omega) hn hc (k2 i hn hi)
  ·omega
theorem Best.stay {n i c : Nat} {lb : Nat → Bool} {le : Nat → Nat → Bool} (hn : i < n) (h : Best n lb le i (c : Int)) (hc : le c i = false) : Best n lb le (i + 1) (c : Int) := by
 rcases h with ⟨h1,h2⟩|⟨c',h1,h2,h3,h4⟩
 ·omega
 ·obtain rfl:c=c':=by omega
  refine .inr ⟨c,rfl,by omega,h3,fun j hj k1 k2=>?_⟩
  rcases Nat.lt_or_ge j i with h|h
  ·exact h4 j h k1 k2
  ·obtain rfl:j=i:=by omega
   have:=k2 c (by omega) h3
   rw [hc] at this;exact absurd this (by simp)
section
variable {U : List (List Int)} (O : Order U)
include O
theorem spec_l1Meet.ev {a b : Nat} (ha : a < U.length) (hb : b < U.length) : Ev (fun k => spec_l1Meet.f k U a b) (mI U a b) := by
 have hs:=O.small
 unfold spec_l1Meet.f
 refine Ev.loop (g:=fun k s i=>spec_l1Meet.l0 k U a b s i) U.length (Best U.length (fun i=>leB U i a && leB U i b) (leB U)) (by omega) (fun s h=>?_) (fun i s hi h=>?_) (-1) Best.zero
 ·refine Ev.succ ?_
  simp only [spec_l1Meet.l0]
  repeat(with_reducible first|refine Ev.ip ?_|refine Ev.iq ?_)
  rcases h with ⟨rfl,h⟩|⟨c,rfl,hc,h1,h2⟩
  ·have e:meetO U a b=none:=findN_none.2 fun i hi=>by
    have:(leB U i a && leB U i b)=false:=h i hi
    unfold meetP;rw [← Bool.and_assoc,this];rfl
   unfold mI
   rw [e]
   refine Ev.eq (Ev.all (n:=U.length) (g:=fun k i=>spec_l1Meet.l1 k U a b (-1) i) (fun _=>true) (go:= -1) (stop:= -1) (by omega) (fun _=>?_) fun i hi _ R hR=>?_) (by split <;> rfl)
   ·refine Ev.succ ?_
    simp only [spec_l1Meet.l1]
    repeat(with_reducible first|refine Ev.ip ?_|refine Ev.iq ?_)
    exact Ev.now _
   ·refine Ev.succ ?_
    have hrow:=O.row i hi
    have va:=O.val hi ha
    have vb:=O.val hi hb
    have hab:(leB U i a && leB U i b)=false:=h i hi
    simp only [spec_l1Meet.l1,rdL_nat,rd_nat,rd_row,hrow,va,vb]
    repeat(with_reducible first|refine Ev.ip ?_|refine Ev.iq ?_)
    cases xa:leB U i a with
    |false=>
     repeat(with_reducible first|refine Ev.ip ?_|refine Ev.iq ?_)
     exact hR rfl
    |true=>
     cases xb:leB U i b with
     |false=>
      repeat(with_reducible first|refine Ev.ip ?_|refine Ev.iq ?_)
      exact hR rfl
     |true=>rw [xa,xb] at hab;exact absurd hab (by simp)
  ·replace h1:(leB U c a && leB U c b)=true:=h1
   refine Ev.eq (Ev.all (n:=U.length) (g:=fun k i=>spec_l1Meet.l1 k U a b c i) (fun d=>!(leB U d a && leB U d b)||leB U d c) (go:=(c:Int)) (stop:= -1) (by omega) (fun _=>?_) fun i hi _ R hR=>?_) ?_
   ·refine Ev.succ ?_
    simp only [spec_l1Meet.l1]
    repeat(with_reducible first|refine Ev.ip ?_|refine Ev.iq ?_)
    exact Ev.now _
   ·refine Ev.succ ?_
    have hrow:=O.row i hi
    have va:=O.val hi ha
    have vb:=O.val hi hb
    have vc:=O.val hi hc
    simp only [spec_l1Meet.l1,rdL_nat,rd_nat,rd_row,hrow,va,vb,vc]
    repeat(with_reducible first|refine Ev.ip ?_|refine Ev.iq ?_)
    cases xa:leB U i a with
    |false=>
     repeat(with_reducible first|refine Ev.ip ?_|refine Ev.iq ?_)
     exact hR (by simp [xa])
    |true=>
     repeat(with_reducible first|refine Ev.ip ?_|refine Ev.iq ?_)
     cases xb:leB U i b with
     |false=>
      repeat(with_reducible first|refine Ev.ip ?_|refine Ev.iq ?_)
      exact hR (by simp [xa,xb])
     |true=>
      repeat(with_reducible first|refine Ev.ip ?_|refine Ev.iq ?_)
      cases xc:leB U i c with
      |false=>
       repeat(with_reducible first|refine Ev.ip ?_|refine Ev.iq ?_)
       exact Ev.now _
      |true=>
       repeat(with_reducible first|refine Ev.ip ?_|refine Ev.iq ?_)
       exact hR (by simp [xc])
   ·unfold mI
    have hP:meetP U a b c=allN U.length fun d=>!(leB U d a && leB U d b)||leB U d c:=by unfold meetP;rw [← Bool.and_assoc,h1];rfl
    rw [← hP]
    cases hp:meetP U a b c with
    |true=>rw [O.meet_eq hc hp];rfl
    |false=>
     cases e:meetO U a b with
     |none=>rfl
     |some m=>
      obtain⟨k1,k2⟩:=findN_some e
      obtain⟨q1,q2,q3⟩:=meetP_iff.1 k2
      have:=h2 m k1 (by simp [q1,q2]) fun d hd kd=>by
       rw [Bool.and_eq_true] at kd
       exact q3 d hd kd.1 kd.2
      rw [← this,k2] at hp
      exact absurd hp (by simp)
 ·have hrow:=O.row i hi
  have va:=O.val hi ha
  have vb:=O.val hi hb
  cases xa:leB U i a with
  |false=>
   refine⟨s,h.skip (by simp [xa]),fun K=>Ev.succ ?_⟩
   rw [xa] at va
   simp only [spec_l1Meet.l0,rdL_nat,rd_nat,rd_row,hrow,va,vb]
   repeat(with_reducible first|refine Ev.ip ?_|refine Ev.iq ?_)
   exact K
  |true=>
   cases xb:leB U i b with
   |false=>
    refine⟨s,h.skip (by simp [xb]),fun K=>Ev.succ ?_⟩
    rw [xa] at va;rw [xb] at vb
    simp only [spec_l1Meet.l0,rdL_nat,rd_nat,rd_row,hrow,va,vb]
    repeat(with_reducible first|refine Ev.ip ?_|refine Ev.iq ?_)
    exact K
   |true=>
    rw [xa] at va;rw [xb] at vb
    by_cases hneg:s= -1
    ·subst hneg
     refine⟨(i:Int),h.first (by simp [xa,xb]),fun K=>Ev.succ ?_⟩
     simp only [spec_l1Meet.l0,rdL_nat,rd_nat,rd_row,hrow,va,vb]
     repeat(with_reducible first|refine Ev.ip ?_|refine Ev.iq ?_)
     exact K
    ·obtain⟨c,rfl,hc⟩: ∃c:Nat,s=c∧c<i:=by
      rcases h with ⟨h1,_⟩|⟨c,h1,h2,_⟩
      ·exact absurd h1 hneg
      ·exact⟨c,h1,h2⟩
     have vc:=O.val (show c<U.length by omega) hi
     have hrowc:=O.row c (by omega)
     cases xc:leB U c i with
     |true=>
      refine⟨(i:Int),h.up O.anti hi (by simp [xa,xb]) xc,fun K=>Ev.succ ?_⟩
      rw [xc] at vc
      simp only [spec_l1Meet.l0,rdL_nat,rd_nat,rd_row,hrow,hrowc,va,vb,vc]
      repeat(with_reducible first|refine Ev.ip ?_|refine Ev.iq ?_)
      exact K
     |false=>
      refine⟨(c:Int),h.stay hi xc,fun K=>Ev.succ ?_⟩
      rw [xc] at vc
      simp only [spec_l1Meet.l0,rdL_nat,rd_nat,rd_row,hrow,hrowc,va,vb,vc]
      repeat(with_reducible first|refine Ev.ip ?_|refine Ev.iq ?_)
      exact K
theorem spec_l1Join.ev {a b : Nat} (ha : a < U.length) (hb : b < U.length) : Ev (fun k => spec_l1Join.f k U a b) (jI U a b) := by
 have hs:=O.small
 have hra:=O.row a ha
 have hrb:=O.row b hb
 unfold spec_l1Join.f
 refine Ev.loop (g:=fun k s i=>spec_l1Join.l0 k U a b s i) U.length (Best U.length (fun i=>leB U a i && leB U b i) (fun x y=>leB U y x)) (by omega) (fun s h=>?_) (fun i s hi h=>?_) (-1) Best.zero
 ·refine Ev.succ ?_
  simp only [spec_l1Join.l0]
  repeat(with_reducible first|refine Ev.ip ?_|refine Ev.iq ?_)
  rcases h with ⟨rfl,h⟩|⟨c,rfl,hc,h1,h2⟩
  ·have e:joinO U a b=none:=findN_none.2 fun i hi=>by
    have:(leB U a i && leB U b i)=false:=h i hi
    unfold joinP;rw [← Bool.and_assoc,this];rfl
   unfold jI
   rw [e]
   refine Ev.eq (Ev.all (n:=U.length) (g:=fun k i=>spec_l1Join.l1 k U a b (-1) i) (fun _=>true) (go:= -1) (stop:= -1) (by omega) (fun _=>?_) fun i hi _ R hR=>?_) (by split <;> rfl)
   ·refine Ev.succ ?_
    simp only [spec_l1Join.l1]
    repeat(with_reducible first|refine Ev.ip ?_|refine Ev.iq ?_)
    exact Ev.now _
   ·refine Ev.succ ?_
    have va:=O.val ha hi
    have vb:=O.val hb hi
    have hab:(leB U a i && leB U b i)=false:=h i hi
    simp only [spec_l1Join.l1,rdL_nat,rd_nat,rd_row,hra,hrb,va,vb]
    repeat(with_reducible first|refine Ev.ip ?_|refine Ev.iq ?_)
    cases xa:leB U a i with
    |false=>
     repeat(with_reducible first|refine Ev.ip ?_|refine Ev.iq ?_)
     exact hR rfl
    |true=>
     cases xb:leB U b i with
     |false=>
      repeat(with_reducible first|refine Ev.ip ?_|refine Ev.iq ?_)
      exact hR rfl
     |true=>rw [xa,xb] at hab;exact absurd hab (by simp)
  ·have hrc:=O.row c hc
   replace h1:(leB U a c && leB U b c)=true:=h1
   refine Ev.eq (Ev.all (n:=U.length) (g:=fun k i=>spec_l1Join.l1 k U a b c i) (fun d=>!(leB U a d && leB U b d)||leB U c d) (go:=(c:Int)) (stop:= -1) (by omega) (fun _=>?_) fun i hi _ R hR=>?_) ?_
   ·refine Ev.succ ?_
    simp only [spec_l1Join.l1]
    repeat(with_reducible first|refine Ev.ip ?_|refine Ev.iq ?_)
    exact Ev.now _
   ·refine Ev.succ ?_
    have va:=O.val ha hi
    have vb:=O.val hb hi
    have vc:=O.val hc hi
    simp only [spec_l1Join.l1,rdL_nat,rd_nat,rd_row,hra,hrb,hrc,va,vb,vc]
    repeat(with_reducible first|refine Ev.ip ?_|refine Ev.iq ?_)
    cases xa:leB U a i with
    |false=>
     repeat(with_reducible first|refine Ev.ip ?_|refine Ev.iq ?_)
     exact hR (by simp [xa])
    |true=>
     repeat(with_reducible first|refine Ev.ip ?_|refine Ev.iq ?_)
     cases xb:leB U b i with
     |false=>
      repeat(with_reducible first|refine Ev.ip ?_|refine Ev.iq ?_)
      exact hR (by simp [xa,xb])
     |true=>
      repeat(with_reducible first|refine Ev.ip ?_|refine Ev.iq ?_)
      cases xc:leB U c i with
      |false=>
       repeat(with_reducible first|refine Ev.ip ?_|refine Ev.iq ?_)
       exact Ev.now _
      |true=>
       repeat(with_reducible first|refine Ev.ip ?_|refine Ev.iq ?_)
       exact hR (by simp [xc])
   ·unfold jI
    have hP:joinP U a b c=allN U.length fun d=>!(leB U a d && leB U b d)||leB U c d:=by unfold joinP;rw [← Bool.and_assoc,h1];rfl
    rw [← hP]
    cases hp:joinP U a b c with
    |true=>rw [O.join_eq hc hp];rfl
    |false=>
     cases e:joinO U a b with
     |none=>rfl
     |some m=>
      obtain⟨k1,k2⟩:=findN_some e
      obtain⟨q1,q2,q3⟩:=joinP_iff.1 k2
      have:=h2 m k1 (by simp [q1,q2]) fun d hd kd=>by
       rw [Bool.and_eq_true] at kd
       exact q3 d hd kd.1 kd.2
      rw [← this,k2] at hp
      exact absurd hp (by simp)
 ·have hrow:=O.row i hi
  have va:=O.val ha hi
  have vb:=O.val hb hi
  cases xa:leB U a i with
  |false=>
   refine⟨s,h.skip (by simp [xa]),fun K=>Ev.succ ?_⟩
   rw [xa] at va
   simp only [spec_l1Join.l0,rdL_nat,rd_nat,rd_row,hra,hrb,va,vb]
   repeat(with_reducible first|refine Ev.ip ?_|refine Ev.iq ?_)
   exact K
  |true=>
   cases xb:leB U b i with
   |false=>
    refine⟨s,h.skip (by simp [xb]),fun K=>Ev.succ ?_⟩
    rw [xa] at va;rw [xb] at vb
    simp only [spec_l1Join.l0,rdL_nat,rd_nat,rd_row,hra,hrb,va,vb]
    repeat(with_reducible first|refine Ev.ip ?_|refine Ev.iq ?_)
    exact K
   |true=>
    rw [xa] at va;rw [xb] at vb
    by_cases hneg:s= -1
    ·subst hneg
     refine⟨(i:Int),h.first (by simp [xa,xb]),fun K=>Ev.succ ?_⟩
     simp only [spec_l1Join.l0,rdL_nat,rd_nat,rd_row,hra,hrb,va,vb]
     repeat(with_reducible first|refine Ev.ip ?_|refine Ev.iq ?_)
     exact K
    ·obtain⟨c,rfl,hc⟩: ∃c:Nat,s=c∧c<i:=by
      rcases h with ⟨h1,_⟩|⟨c,h1,h2,_⟩
      ·exact absurd h1 hneg
      ·exact⟨c,h1,h2⟩
     have vc:=O.val hi (show c<U.length by omega)
     cases xc:leB U i c with
     |true=>
      refine⟨(i:Int),h.up (fun x y hx hy e1 e2=>O.anti x y hx hy e2 e1) hi (by simp [xa,xb]) xc,fun K=>Ev.succ ?_⟩
      rw [xc] at vc
      simp only [spec_l1Join.l0,rdL_nat,rd_nat,rd_row,hrow,hra,hrb,va,vb,vc]
      repeat(with_reducible first|refine Ev.ip ?_|refine Ev.iq ?_)
      exact K
     |false=>
      refine⟨(c:Int),h.stay hi xc,fun K=>Ev.succ ?_⟩
      rw [xc] at vc
      simp only [spec_l1Join.l0,rdL_nat,rd_nat,rd_row,hrow,hra,hrb,va,vb,vc]
      repeat(with_reducible first|refine Ev.ip ?_|refine Ev.iq ?_)
      exact K
end
end
theorem l1In_eq (a b c : Int) : spec_l1In.f a b c = some (decide (b ≤ a) && decide (a ≤ c)) := by
 unfold spec_l1In.f
 by_cases h : a ≥ b
 ·rw [if_pos h]; simp [h]
 ·rw [if_neg h]; simp [h]
def rowS (U : List (List Int)) (i : Nat) : Bool := (U.getD i []).length == U.length && allN U.length fun j => at2 U i j == 0 || at2 U i j == 1
def relS (U : List (List Int)) (i : Nat) : Bool := allN U.length fun j => !(if i = j then !leB U i j else leB U i j && leB U j i) && allN U.length fun c => !(leB U i j && leB U j c) || leB U i c
theorem orderB_spec (U : List (List Int)) : orderB U = (decide (1 ≤ U.length) && (decide (U.length ≤ 12) && (allN U.length (rowS U) && allN U.length (relS U)))) := by
 rw [Bool.eq_iff_iff,orderB_iff]
 unfold rowS relS
 simp only [Bool.and_eq_true,decide_eq_true_eq,allN_iff,Bool.or_eq_true,beq_iff_eq,Bool.not_eq_true']
 constructor
 ·intro O
  refine⟨O.pos,O.small,fun i hi=>⟨O.row i hi,fun j hj=>O.bit i j hi hj⟩,fun i hi j hj=>⟨?_,fun c hc=>?_⟩⟩
  ·by_cases e:i=j
   ·rw [if_pos e,← e,O.refl i hi];rfl
   ·rw [if_neg e]
    cases k1:leB U i j
    ·rfl
    ·cases k2:leB U j i
     ·rfl
     ·exact absurd (O.anti i j hi hj k1 k2) e
  ·cases k1:leB U i j
   ·simp
   ·cases k2:leB U j c
    ·simp
    ·exact .inr (O.trans i j c hi hj hc k1 k2)
 ·rintro ⟨h1,h2,h3,h4⟩
  refine⟨h1,h2,fun a ha=>(h3 a ha).1,fun a b ha hb=>(h3 a ha).2 b hb,fun a ha=>?_,fun a b ha hb k1 k2=>?_,fun a b c ha hb hc k1 k2=>?_⟩
  ·have:=(h4 a ha a ha).1
   rw [if_pos rfl] at this
   simpa using this
  ·by_cases e:a=b
   ·exact e
   ·have:=(h4 a ha b hb).1
    rw [if_neg e,k1,k2] at this
    exact absurd this (by simp)
  ·rcases (h4 a ha b hb).2 c hc with e|e
   ·rw [k1,k2] at e;exact absurd e (by simp)
   ·exact e
theorem spec_OrderOk.ev (U : List (List Int)) : Ev (fun k => spec_OrderOk.f k U) (orderB U) := by
 rw [orderB_spec]
 unfold spec_OrderOk.f
 refine Ev.pbind (l1In_eq _ _ _) ?_
 by_cases h1:1≤U.length
 ·by_cases h2:U.length≤12
  ·rw [show (decide ((1:Int)≤U.length) && decide ((U.length:Int)≤12))=true by simp;omega]
   simp only [h1,h2,decide_true,Bool.true_and]
   repeat(with_reducible first|refine Ev.ip ?_|refine Ev.iq ?_)
   refine Ev.eq (Ev.all (n:=U.length) (g:=fun k i=>spec_OrderOk.l0 k U U.length i) (rowS U) (go:=allN U.length (relS U)) (stop:=false) (by omega) (fun hr=>?_) fun i hi _ R hR=>?_) (by cases allN U.length (rowS U) <;> rfl)
   ·have row: ∀i,i<U.length→(U.getD i []).length=U.length:=fun i hi=>by
     have:=hr i hi
     unfold rowS at this
     simp only [Bool.and_eq_true,beq_iff_eq] at this
     exact this.1
    have bit: ∀i j,i<U.length→j<U.length→at2 U i j=if leB U i j=true then 1 else 0:=fun i j hi hj=>by
     have:=hr i hi
     unfold rowS at this
     simp only [Bool.and_eq_true,beq_iff_eq,allN_iff,Bool.or_eq_true] at this
     unfold leB
     rcases this.2 j hj with e|e <;> simp [e]
    refine Ev.succ ?_
    simp only [spec_OrderOk.l0]
    repeat(with_reducible first|refine Ev.ip ?_|refine Ev.iq ?_)
    refine Ev.eq (Ev.all (n:=U.length) (g:=fun k i=>spec_OrderOk.l2 k U U.length i) (relS U) (go:=true) (stop:=false) (by omega) (fun _=>?_) fun a ha _ R hR=>?_) (by cases allN U.length _ <;> rfl)
    ·refine Ev.succ ?_
     simp only [spec_OrderOk.l2]
     repeat(with_reducible first|refine Ev.ip ?_|refine Ev.iq ?_)
     exact Ev.now _
    ·refine Ev.succ ?_
     simp only [spec_OrderOk.l2]
     repeat(with_reducible first|refine Ev.ip ?_|refine Ev.iq ?_)
     refine Ev.all (n:=U.length) (g:=fun k i=>spec_OrderOk.l3 k U U.length a i) _ (by omega) (fun h=>?_) fun b hb _ R2 hR2=>?_
     ·refine Ev.succ ?_
      simp only [spec_OrderOk.l3]
      repeat(with_reducible first|refine Ev.ip ?_|refine Ev.iq ?_)
      exact hR (allN_iff.2 h)
     ·have vab:=bit a b ha hb
      have vba:=bit b a hb ha
      have j4:Ev (fun k=>spec_OrderOk.j4 k U U.length a b (if a=b then !leB U a b else leB U a b && leB U b a)) (if(!(if a=b then !leB U a b else leB U a b && leB U b a) && allN U.length fun c=>!(leB U a b && leB U b c)||leB U a c)=true then R2 else false):=by
       refine Ev.succ ?_
       simp only [spec_OrderOk.j4]
       cases hx:(if a=b then !leB U a b else leB U a b && leB U b a) with
       |true=>
        repeat(with_reducible first|refine Ev.ip ?_|refine Ev.iq ?_)
        exact Ev.now _
       |false=>
        rw [hx,Bool.not_false,Bool.true_and] at hR2
        rw [Bool.not_false,Bool.true_and]
        repeat(with_reducible first|refine Ev.ip ?_|refine Ev.iq ?_)
        refine Ev.all (n:=U.length) (g:=fun k i=>spec_OrderOk.l4 k U U.length a b i) _ (by omega) (fun h=>?_) fun c hc _ R3 hR3=>?_
        ·refine Ev.succ ?_
         simp only [spec_OrderOk.l4]
         repeat(with_reducible first|refine Ev.ip ?_|refine Ev.iq ?_)
         exact hR2 (allN_iff.2 h)
        ·refine Ev.succ ?_
         have vbc:=bit b c hb hc
         have vac:=bit a c ha hc
         have ra:=row a ha
         have rb:=row b hb
         simp only [spec_OrderOk.l4,rdL_nat,rd_nat,rd_row,ra,rb,vab,vbc,vac]
         repeat(with_reducible first|refine Ev.ip ?_|refine Ev.iq ?_)
         cases f1:leB U a b with
         |false=>
          repeat(with_reducible first|refine Ev.ip ?_|refine Ev.iq ?_)
          exact hR3 (by simp [f1])
         |true=>
          repeat(with_reducible first|refine Ev.ip ?_|refine Ev.iq ?_)
          cases f2:leB U b c with
          |false=>
           repeat(with_reducible first|refine Ev.ip ?_|refine Ev.iq ?_)
           exact hR3 (by simp [f2])
          |true=>
           repeat(with_reducible first|refine Ev.ip ?_|refine Ev.iq ?_)
           cases f3:leB U a c with
           |false=>
            repeat(with_reducible first|refine Ev.ip ?_|refine Ev.iq ?_)
            exact Ev.now _
           |true=>
            repeat(with_reducible first|refine Ev.ip ?_|refine Ev.iq ?_)
            exact hR3 (by simp [f3])
      refine Ev.succ ?_
      have ra:=row a ha
      have rb:=row b hb
      simp only [spec_OrderOk.l3,rdL_nat,rd_nat,rd_row,ra,rb,vab,vba]
      repeat(with_reducible first|refine Ev.ip ?_|refine Ev.iq ?_)
      by_cases e:a=b
      ·rw [if_pos e] at j4 ⊢
       repeat(with_reducible first|refine Ev.ip ?_|refine Ev.iq ?_)
       cases f1:leB U a b with
       |false=>
        rw [f1] at j4
        repeat(with_reducible first|refine Ev.ip ?_|refine Ev.iq ?_)
        exact j4
       |true=>
        rw [f1] at j4
        repeat(with_reducible first|refine Ev.ip ?_|refine Ev.iq ?_)
        exact j4
      ·rw [if_neg e] at j4 ⊢
       repeat(with_reducible first|refine Ev.ip ?_|refine Ev.iq ?_)
       cases f1:leB U a b with
       |false=>
        rw [f1] at j4
        repeat(with_reducible first|refine Ev.ip ?_|refine Ev.iq ?_)
        exact j4
       |true=>
        rw [f1] at j4
        repeat(with_reducible first|refine Ev.ip ?_|refine Ev.iq ?_)
        rw [show ((if leB U b a=true then(1:Int) else 0)==1)=leB U b a by cases leB U b a <;> rfl]
        exact j4
   ·refine Ev.succ ?_
    simp only [spec_OrderOk.l0,rdL_nat]
    repeat(with_reducible first|refine Ev.ip ?_|refine Ev.iq ?_)
    by_cases e1:(U.getD i []).length=U.length
    ·repeat(with_reducible first|refine Ev.ip ?_|refine Ev.iq ?_)
     refine Ev.eq (Ev.all (n:=U.length) (g:=fun k j=>spec_OrderOk.l1 k U U.length i j) (fun j=>at2 U i j==0||at2 U i j==1) (go:=R) (stop:=false) (by omega) (fun h=>?_) fun j hj _ R2 hR2=>?_) (by unfold rowS;simp [-List.getD_eq_getElem?_getD,e1])
     ·refine Ev.succ ?_
      simp only [spec_OrderOk.l1]
      repeat(with_reducible first|refine Ev.ip ?_|refine Ev.iq ?_)
      exact hR (by unfold rowS;simp only [e1,BEq.rfl,Bool.true_and];exact allN_iff.2 h)
     ·refine Ev.succ ?_
      simp only [spec_OrderOk.l1,rdL_nat,rd_nat,rd_row,l1In_eq]
      repeat(with_reducible first|refine Ev.ip ?_|refine Ev.iq ?_)
      refine Ev.pbind rfl ?_
      have e:(decide (0≤at2 U i j) && decide (at2 U i j≤1))=(at2 U i j==0||at2 U i j==1):=by
       rw [Bool.eq_iff_iff];simp only [Bool.and_eq_true,decide_eq_true_eq,Bool.or_eq_true,beq_iff_eq];omega
      rw [e]
      cases hb:(at2 U i j==0||at2 U i j==1) with
      |true=>
       repeat(with_reducible first|refine Ev.ip ?_|refine Ev.iq ?_)
       exact hR2 hb
      |false=>
       repeat(with_reducible first|refine Ev.ip ?_|refine Ev.iq ?_)
       exact Ev.now _
    ·repeat(with_reducible first|refine Ev.ip ?_|refine Ev.iq ?_)
     exact Ev.eq (Ev.now _) (by unfold rowS;simp [-List.getD_eq_getElem?_getD,e1])
  ·rw [show (decide ((1:Int)≤U.length) && decide ((U.length:Int)≤12))=false by simp;omega]
   simp only [h1,h2,decide_true,decide_false,Bool.true_and,Bool.false_and]
   repeat(with_reducible first|refine Ev.ip ?_|refine Ev.iq ?_)
   exact Ev.now _
 ·rw [show (decide ((1:Int)≤U.length) && decide ((U.length:Int)≤12))=false by simp;omega]
  simp only [h1,decide_false,Bool.false_and]
  repeat(with_reducible first|refine Ev.ip ?_|refine Ev.iq ?_)
  exact Ev.now _
theorem meetO_comm (U : List (List Int)) (a b : Nat) : meetO U a b = meetO U b a := by
 unfold meetO
 refine findN_congr fun c _=>?_
 rw [Bool.eq_iff_iff,meetP_iff,meetP_iff]
 constructor <;> rintro ⟨h1,h2,h3⟩ <;> exact⟨h2,h1,fun d hd k1 k2=>h3 d hd k2 k1⟩
theorem joinO_comm (U : List (List Int)) (a b : Nat) : joinO U a b = joinO U b a := by
 unfold joinO
 refine findN_congr fun c _=>?_
 rw [Bool.eq_iff_iff,joinP_iff,joinP_iff]
 constructor <;> rintro ⟨h1,h2,h3⟩ <;> exact⟨h2,h1,fun d hd k1 k2=>h3 d hd k2 k1⟩
theorem lattice_half {U : List (List Int)} (O : Order U) : (allN U.length fun a => allN U.length fun b => (meetO U a b).isSome && (joinO U a b).isSome) = allN U.length fun a => allN a fun b => (meetO U a b).isSome && (joinO U a b).isSome := by
 rw [Bool.eq_iff_iff]
 simp only [allN_iff]
 constructor
 ·intro h a ha b hb
  exact h a ha b (by omega)
 ·intro h a ha b hb
  rcases Nat.lt_trichotomy b a with hlt|rfl|hlt
  ·exact h a ha b hlt
  ·rw [O.meet_eq (a:=b) (b:=b) hb (meetP_iff.2 ⟨O.refl b hb,O.refl b hb,fun d _ h _=>h⟩),O.join_eq (a:=b) (b:=b) hb (joinP_iff.2 ⟨O.refl b hb,O.refl b hb,fun d _ h _=>h⟩)]
   rfl
  ·rw [meetO_comm,joinO_comm]
   exact h b hb a hlt
theorem spec_LatticeOk.ev (U : List (List Int)) : Ev (fun k => spec_LatticeOk.f k U) (latticeB U) := by
 unfold spec_LatticeOk.f latticeB
 have ho:=spec_OrderOk.ev U
 cases hb:orderB U with
 |false=>
  rw [hb] at ho
  have fin:Ev (fun k=>spec_LatticeOk.j1 k U 0 false) false:=by
   refine Ev.succ ?_
   simp only [spec_LatticeOk.j1]
   repeat(with_reducible first|refine Ev.ip ?_|refine Ev.iq ?_)
   exact Ev.bind ho (Ev.now _)
  refine Ev.succ ?_
  simp only [spec_LatticeOk.l0]
  by_cases h0:(0:Int)<(U.length:Int)
  ·repeat(with_reducible first|refine Ev.ip ?_|refine Ev.iq ?_)
   exact Ev.bind ho fin
  ·repeat(with_reducible first|refine Ev.ip ?_|refine Ev.iq ?_)
   exact fin
 |true=>
  rw [hb] at ho
  have O:=orderB_iff.1 hb
  have hs:=O.small
  refine Ev.eq (Ev.all (n:=U.length) (g:=fun k i=>spec_LatticeOk.l0 k U i) (fun a=>allN a fun b=>(meetO U a b).isSome && (joinO U a b).isSome) (go:=true) (stop:=false) (by omega) (fun _=>?_) fun a ha _ R hR=>?_) (by rw [Bool.true_and,lattice_half O];cases allN U.length _ <;> rfl)
  ·refine Ev.succ ?_
   simp only [spec_LatticeOk.l0]
   repeat(with_reducible first|refine Ev.ip ?_|refine Ev.iq ?_)
   refine Ev.succ ?_
   simp only [spec_LatticeOk.j1]
   repeat(with_reducible first|refine Ev.ip ?_|refine Ev.iq ?_)
   exact Ev.bind ho (Ev.now _)
  ·refine Ev.succ ?_
   simp only [spec_LatticeOk.l0]
   repeat(with_reducible first|refine Ev.ip ?_|refine Ev.iq ?_)
   refine Ev.bind ho ?_
   refine Ev.succ ?_
   simp only [spec_LatticeOk.j1]
   repeat(with_reducible first|refine Ev.ip ?_|refine Ev.iq ?_)
   refine Ev.all (n:=a) (g:=fun k i=>spec_LatticeOk.l1 k U a i) _ (by omega) (fun h=>?_) fun b hb' _ R2 hR2=>?_
   ·refine Ev.succ ?_
    simp only [spec_LatticeOk.l1]
    repeat(with_reducible first|refine Ev.ip ?_|refine Ev.iq ?_)
    exact hR (allN_iff.2 h)
   ·refine Ev.succ ?_
    have hb:b<U.length:=by omega
    simp only [spec_LatticeOk.l1]
    repeat(with_reducible first|refine Ev.ip ?_|refine Ev.iq ?_)
    refine Ev.bind (spec_l1Meet.ev O ha hb) ?_
    unfold mI
    cases em:meetO U a b with
    |none=>
     refine Ev.ite_pos (by simp [optI]) ?_
     exact Ev.eq (Ev.now _) (by simp)
    |some m=>
     refine Ev.ite_neg (by have:=optI_neg (some 0);simp [optI]) ?_
     refine Ev.bind (spec_l1Join.ev O ha hb) ?_
     unfold jI
     cases ej:joinO U a b with
     |none=>
      refine Ev.ite_pos (by simp [optI]) ?_
      exact Ev.eq (Ev.now _) (by simp)
     |some j=>
      refine Ev.ite_neg (by have:=optI_neg (some 0);simp [optI]) ?_
      exact Ev.eq (hR2 (by simp [em,ej])) (by simp)
theorem spec_LeastOf.ev (U : List (List Int)) : Ev (fun k => spec_LeastOf.f k U) (if orderB U = true then (optI (leastO U), (leastO U).isSome) else (-1, false)) := by
 unfold spec_LeastOf.f
 have ho:=spec_OrderOk.ev U
 cases hb:orderB U with
 |false=>
  rw [hb] at ho
  have fin:Ev (fun k=>spec_LeastOf.j1 k U 0 false) (-1,false):=by
   refine Ev.succ ?_
   simp only [spec_LeastOf.j1]
   repeat(with_reducible first|refine Ev.ip ?_|refine Ev.iq ?_)
   exact Ev.now _
  repeat(with_reducible first|refine Ev.ip ?_|refine Ev.iq ?_)
  refine Ev.succ ?_
  simp only [spec_LeastOf.l0]
  by_cases h0:(0:Int)<(U.length:Int)
  ·repeat(with_reducible first|refine Ev.ip ?_|refine Ev.iq ?_)
   exact Ev.eq (Ev.bind ho fin) (by simp)
  ·repeat(with_reducible first|refine Ev.ip ?_|refine Ev.iq ?_)
   exact Ev.eq fin (by simp)
 |true=>
  rw [hb] at ho
  have O:=orderB_iff.1 hb
  have hs:=O.small
  refine Ev.eq (Ev.find (n:=U.length) (g:=fun k i=>spec_LeastOf.l0 k U i) (fun a=>allN U.length fun b=>leB U a b) (none':=(-1,false)) (some':=fun i=>((i:Int),true)) (by omega) (fun _=>?_) fun a ha _ R hR=>?_) (by rw [if_pos rfl];unfold leastO;cases findN U.length _ <;> rfl)
  ·refine Ev.succ ?_
   simp only [spec_LeastOf.l0]
   repeat(with_reducible first|refine Ev.ip ?_|refine Ev.iq ?_)
   refine Ev.succ ?_
   simp only [spec_LeastOf.j1]
   repeat(with_reducible first|refine Ev.ip ?_|refine Ev.iq ?_)
   exact Ev.now _
  ·refine Ev.succ ?_
   simp only [spec_LeastOf.l0]
   repeat(with_reducible first|refine Ev.ip ?_|refine Ev.iq ?_)
   refine Ev.bind ho ?_
   refine Ev.succ ?_
   simp only [spec_LeastOf.j1]
   repeat(with_reducible first|refine Ev.ip ?_|refine Ev.iq ?_)
   have key: ∀d i,i+d=U.length→ ∀fl:Bool,(fl && allFrom U.length (fun b=>leB U a b) i)=allN U.length (fun b=>leB U a b)→Ev (fun k=>spec_LeastOf.l1 k U a fl i) (if allN U.length (fun b=>leB U a b)=true then((a:Int),true) else R):=by
    intro d
    induction d with
    |zero=>
     intro i hi fl hfl
     refine Ev.succ ?_
     simp only [spec_LeastOf.l1]
     rw [allFrom_ge (by omega),Bool.and_true] at hfl
     rw [hfl]
     repeat(with_reducible first|refine Ev.ip ?_|refine Ev.iq ?_)
     cases ha':allN U.length (fun b=>leB U a b) with
     |true=>
      repeat(with_reducible first|refine Ev.ip ?_|refine Ev.iq ?_)
      exact Ev.now _
     |false=>
      repeat(with_reducible first|refine Ev.ip ?_|refine Ev.iq ?_)
      exact hR ha'
    |succ d ih=>
     intro i hi fl hfl
     rw [allFrom_lt (by omega)] at hfl
     refine Ev.succ ?_
     have rl:=O.row a ha
     simp only [spec_LeastOf.l1,rdL_nat,rd_nat,rd_row,wrap_nat (show i<4611686018427387904 by omega),rl]
     repeat(with_reducible first|refine Ev.ip ?_|refine Ev.iq ?_)
     cases fl with
     |true=>
      repeat(with_reducible first|refine Ev.ip ?_|refine Ev.iq ?_)
      exact ih (i+1) (by omega) _ hfl
     |false=>
      repeat(with_reducible first|refine Ev.ip ?_|refine Ev.iq ?_)
      exact ih (i+1) (by omega) _ (by rw [← hfl];simp)
   exact key U.length 0 (by omega) true (by rw [allFrom_zero,Bool.true_and])
def negS (U : List (List Int)) (N : List Int) (a : Nat) : Bool :=
 at1 N (at1 N a).toNat==(a:Int) && (mI U a (at1 N a).toNat==optI (leastO U) && allN U.length fun b=>!leB U a b||leB U (at1 N b).toNat (at1 N a).toNat)
theorem logicB_spec (U : List (List Int)) (N : List Int) : logicB U N = (latticeB U && (N.length == U.length && (allN U.length (fun a => decide (0 ≤ at1 N a) && decide (at1 N a < U.length)) && allN U.length (negS U N)))) := by
 unfold logicB negS mI
 have e: ∀x y:Option Nat,(optI x==optI y)=(x==y):=by
  intro x y
  rw [Bool.eq_iff_iff,beq_iff_eq,beq_iff_eq]
  exact⟨optI_inj,fun h=>by rw [h]⟩
 simp only [e]
theorem spec_LogicOk.ev (U : List (List Int)) (N : List Int) : Ev (fun k => spec_LogicOk.f k U N) (logicB U N) := by
 rw [logicB_spec]
 unfold spec_LogicOk.f
 refine Ev.bind (spec_LatticeOk.ev U) ?_
 have jf:Ev (fun k=>spec_LogicOk.j0 k U.length true U N) false:=by
  refine Ev.succ ?_
  simp only [spec_LogicOk.j0]
  repeat(with_reducible first|refine Ev.ip ?_|refine Ev.iq ?_)
  exact Ev.now _
 cases hl:latticeB U with
 |false=>
  repeat(with_reducible first|refine Ev.ip ?_|refine Ev.iq ?_)
  exact Ev.eq jf (by simp)
 |true=>
  have O:=latticeB_order hl
  have hs:=O.small
  repeat(with_reducible first|refine Ev.ip ?_|refine Ev.iq ?_)
  by_cases hn:N.length=U.length
  ·rw [show ((N.length:Int) !=(U.length:Int))=false by rw [hn];simp,show (N.length==U.length)=true by simp [hn]]
   simp only [Bool.true_and]
   refine Ev.succ ?_
   simp only [spec_LogicOk.j0]
   repeat(with_reducible first|refine Ev.ip ?_|refine Ev.iq ?_)
   refine Ev.eq (Ev.all (n:=U.length) (g:=fun k i=>spec_LogicOk.l0 k U.length i U N) (fun a=>decide (0≤at1 N a) && decide (at1 N a<U.length)) (go:=allN U.length (negS U N)) (stop:=false) (by omega) (fun hr=>?_) fun i hi _ R hR=>?_) (by cases allN U.length fun a=>decide (0≤at1 N a) && decide (at1 N a<U.length) <;> rfl)
   ·have ran: ∀a,a<U.length→ ∃m:Nat,at1 N a=m∧m<U.length:=fun a ha=>by
     have:=hr a ha
     simp only [Bool.and_eq_true,decide_eq_true_eq] at this
     exact⟨(at1 N a).toNat,by omega,by omega⟩
    refine Ev.succ ?_
    simp only [spec_LogicOk.l0]
    repeat(with_reducible first|refine Ev.ip ?_|refine Ev.iq ?_)
    refine Ev.bind (spec_LeastOf.ev U) ?_
    rw [if_pos (orderB_iff.2 O)]
    refine Ev.eq (Ev.all (n:=U.length) (g:=fun k i=>spec_LogicOk.l1 k U.length (optI (leastO U)) i U N) (negS U N) (go:=true) (stop:=false) (by omega) (fun _=>?_) fun a ha _ R hR=>?_) (by cases allN U.length (negS U N) <;> rfl)
    ·refine Ev.succ ?_
     simp only [spec_LogicOk.l1]
     repeat(with_reducible first|refine Ev.ip ?_|refine Ev.iq ?_)
     exact Ev.now _
    ·obtain⟨m,hm,hmn⟩:=ran a ha
     have fal:Ev (fun k=>spec_LogicOk.j3 k U.length (optI (leastO U)) a true U N) false:=by
      refine Ev.succ ?_
      simp only [spec_LogicOk.j3]
      repeat(with_reducible first|refine Ev.ip ?_|refine Ev.iq ?_)
      exact Ev.now _
     refine Ev.succ ?_
     simp only [spec_LogicOk.l1,rd_nat,hm]
     have hneg:negS U N a=(at1 N m==(a:Int) && (mI U a m==optI (leastO U) && allN U.length fun b=>!leB U a b||leB U (at1 N b).toNat m)):=by unfold negS;rw [hm,Int.toNat_natCast]
     repeat(with_reducible first|refine Ev.ip ?_|refine Ev.iq ?_)
     by_cases e1:at1 N m=a
     ·repeat(with_reducible first|refine Ev.ip ?_|refine Ev.iq ?_)
      refine Ev.bind (spec_l1Meet.ev O ha hmn) ?_
      by_cases e2:mI U a m=optI (leastO U)
      ·rw [show (mI U a m !=optI (leastO U))=false by simp [e2]]
       refine Ev.succ ?_
       simp only [spec_LogicOk.j3]
       repeat(with_reducible first|refine Ev.ip ?_|refine Ev.iq ?_)
       have hneg2:negS U N a=allN U.length fun b=>!leB U a b||leB U (at1 N b).toNat m:=by rw [hneg,show (at1 N m==(a:Int))=true by simp [e1],show (mI U a m==optI (leastO U))=true by simp [e2],Bool.true_and,Bool.true_and]
       rw [hneg2]
       refine Ev.all (n:=U.length) (g:=fun k i=>spec_LogicOk.l2 k U.length (optI (leastO U)) a i U N) _ (by omega) (fun h=>?_) fun b hb _ R3 hR3=>?_
       ·refine Ev.succ ?_
        simp only [spec_LogicOk.l2]
        repeat(with_reducible first|refine Ev.ip ?_|refine Ev.iq ?_)
        exact hR (by rw [hneg2];exact allN_iff.2 h)
       ·obtain⟨q,hq,hqn⟩:=ran b hb
        have vab:=O.val ha hb
        have vqm:=O.val hqn hmn
        have ra:=O.row a ha
        have rq:=O.row q hqn
        refine Ev.succ ?_
        simp only [spec_LogicOk.l2,rdL_nat,rd_nat,rd_row,hq,hm,ra,rq,vab,vqm,Int.toNat_natCast]
        rw [hq,Int.toNat_natCast] at hR3
        repeat(with_reducible first|refine Ev.ip ?_|refine Ev.iq ?_)
        cases f1:leB U a b with
        |false=>
         repeat(with_reducible first|refine Ev.ip ?_|refine Ev.iq ?_)
         exact hR3 (by simp [f1])
        |true=>
         repeat(with_reducible first|refine Ev.ip ?_|refine Ev.iq ?_)
         cases f2:leB U q m with
         |false=>
          repeat(with_reducible first|refine Ev.ip ?_|refine Ev.iq ?_)
          exact Ev.now _
         |true=>
          repeat(with_reducible first|refine Ev.ip ?_|refine Ev.iq ?_)
          exact hR3 (by simp [f2])
      ·rw [show (mI U a m !=optI (leastO U))=true by simp [e2]]
       exact Ev.eq fal (by rw [hneg];simp [e2])
     ·repeat(with_reducible first|refine Ev.ip ?_|refine Ev.iq ?_)
      exact Ev.eq fal (by rw [hneg];simp [e1])
   ·refine Ev.succ ?_
    simp only [spec_LogicOk.l0,rd_nat,l1In_eq]
    repeat(with_reducible first|refine Ev.ip ?_|refine Ev.iq ?_)
    refine Ev.pbind rfl ?_
    have e:(decide (0≤at1 N i) && decide (at1 N i≤wrap64 ((U.length:Int) - 1)))=(decide (0≤at1 N i) && decide (at1 N i<U.length)):=by
     rw [wrap_small (by omega) (by omega)]
     congr 1
     rw [decide_eq_decide];omega
    rw [e]
    cases hb:(decide (0≤at1 N i) && decide (at1 N i<U.length)) with
    |true=>
     repeat(with_reducible first|refine Ev.ip ?_|refine Ev.iq ?_)
     exact hR hb
    |false=>
     repeat(with_reducible first|refine Ev.ip ?_|refine Ev.iq ?_)
     exact Ev.now _
  ·rw [show ((N.length:Int) !=(U.length:Int))=true by rw [bne_iff_ne];omega,show (N.length==U.length)=false by simp [hn]]
   exact Ev.eq jf (by simp)
section
theorem rd_in {U : List (List Int)} {N : List Int} (_L : Logic U N) {a : Int} (ha : In U a) : rd N a = notI N a := by
 obtain⟨x,rfl⟩: ∃x:Nat,a=x:=⟨a.toNat,by have:=ha.1;omega⟩
 rw [rd_nat];rfl
section
variable {U : List (List Int)} {N : List Int} (L : Logic U N)
include L
theorem meet_in {a b : Int} (ha : In U a) (hb : In U b) : Ev (fun k => spec_l1Meet.f k U a b) (andI U a b) := by
 obtain⟨x,rfl⟩: ∃x:Nat,a=x:=⟨a.toNat,by have:=ha.1;omega⟩
 obtain⟨y,rfl⟩: ∃y:Nat,b=y:=⟨b.toNat,by have:=hb.1;omega⟩
 exact spec_l1Meet.ev L.toOrder (by have:=ha.2;omega) (by have:=hb.2;omega)
theorem join_in {a b : Int} (ha : In U a) (hb : In U b) : Ev (fun k => spec_l1Join.f k U a b) (orI U a b) := by
 obtain⟨x,rfl⟩: ∃x:Nat,a=x:=⟨a.toNat,by have:=ha.1;omega⟩
 obtain⟨y,rfl⟩: ∃y:Nat,b=y:=⟨b.toNat,by have:=hb.1;omega⟩
 exact spec_l1Join.ev L.toOrder (by have:=ha.2;omega) (by have:=hb.2;omega)
end
end
theorem spec_l5With.ev {U : List (List Int)} {N : List Int} (L : Logic U N) {a b : Int} (ia : In U a) (ib : In U b) : Ev (fun k => spec_l5With.f k U N a b) (withB U N a b) := by
 unfold spec_l5With.f
 have hl:=L.len
 have b0:=ib.1
 have b1:=ib.2
 refine Ev.bind (meet_in L ia ib) ?_
 repeat(with_reducible first|refine Ev.ip ?_|refine Ev.iq ?_)
 rw [rd_in L ib]
 refine Ev.bind (meet_in L ia (L.in_not ib)) (Ev.bind (join_in L (L.in_and ia ib) (L.in_and ia (L.in_not ib))) ?_)
 exact Ev.now _
theorem spec_l6Agree.ev {U : List (List Int)} {N : List Int} (L : Logic U N) {a b : Int} (ia : In U a) (ib : In U b) : Ev (fun k => spec_l6Agree.f k U N a b) (bothB U N a b) := by
 unfold spec_l6Agree.f bothB
 refine Ev.bind (spec_l5With.ev L ia ib) ?_
 cases h:withB U N a b with
 |true=>
  repeat(with_reducible first|refine Ev.ip ?_|refine Ev.iq ?_)
  refine Ev.bind (spec_l5With.ev L ib ia) ?_
  exact Ev.now _
 |false=>
  repeat(with_reducible first|refine Ev.ip ?_|refine Ev.iq ?_)
  exact Ev.now _
def agW (U : List (List Int)) (N : List Int) (i j : Nat) : Nat := setB U.length fun b => decide (b < j) && bothB U N i b
theorem agW_zero (U : List (List Int)) (N : List Int) (i : Nat) : agW U N i 0 = 0 := by unfold agW; rw [setB_congr (q := fun _ => false) fun b _ => by simp, setB_none]
theorem agW_all (U : List (List Int)) (N : List Int) (i : Nat) : agW U N i U.length = agA U N i := by unfold agW agA; exact setB_congr fun b hb => by simp [hb]
theorem agW_succ (U : List (List Int)) (N : List Int) (i : Nat) {j : Nat} (hj : j < U.length) : agW U N i (j + 1) = if bothB U N i j = true then agW U N i j ||| 2 ^ j else agW U N i j := by
 unfold agW
 cases h:bothB U N i j with
 |true=>
  rw [if_pos rfl,setB_one hj,setB_or]
  refine setB_congr fun b hb=>?_
  by_cases e:b=j
  ·subst e;simp [h]
  ·rw [show (b==j)=false by simpa using e,Bool.or_false]
   congr 1
   rw [decide_eq_decide];omega
 |false=>
  rw [if_neg (by simp)]
  refine setB_congr fun b hb=>?_
  by_cases e:b=j
  ·subst e;simp [h]
  ·congr 1
   rw [decide_eq_decide];omega
theorem agF_take (U : List (List Int)) (N : List Int) (i : Nat) : ((List.range (i + 1)).map fun (a : Nat) => ((agA U N a : Nat) : Int)) = ((List.range i).map fun (a : Nat) => ((agA U N a : Nat) : Int)) ++ [((agA U N i : Nat) : Int)] := by simp [List.range_succ]
theorem spec_BlocksOf.ev (U : List (List Int)) (N : List Int) : Ev (fun k => spec_BlocksOf.f k U N) (if logicB U N = true then blkL U N else []) := by
 unfold spec_BlocksOf.f
 refine Ev.pbind rfl (Ev.bind (spec_LogicOk.ev U N) ?_)
 cases hl:logicB U N with
 |false=>
  repeat(with_reducible first|refine Ev.ip ?_|refine Ev.iq ?_)
  exact Ev.now _
 |true=>
  have L:=logicB_iff.1 hl
  have hln:=L.len
  have hs:=L.small
  have hp:=L.pos
  rw [if_pos rfl]
  repeat(with_reducible first|refine Ev.ip ?_|refine Ev.iq ?_)
  rw [hln]
  have hM1:1≤2 ^ U.length:=Nat.one_le_two_pow
  have hM2:2 ^ U.length≤4096:=Nat.pow_le_pow_right (by omega) hs
  have key: ∀d s,s+d=2 ^ U.length→Ev (fun k=>spec_BlocksOf.l2 k (filI s (blkP U N)) (U.length:Int) (agF U N) (s:Int)) (blkL U N):=by
   intro d
   induction d with
   |zero=>
    intro s hsd
    refine Ev.succ ?_
    simp only [spec_BlocksOf.l2,shl_nat (show U.length≤40 by omega)]
    repeat(with_reducible first|refine Ev.ip ?_|refine Ev.iq ?_)
    rw [show s=2 ^ U.length by omega]
    exact Ev.now _
   |succ d ih=>
    intro s hsd
    have K:=ih (s+1) (by omega)
    refine Ev.succ ?_
    simp only [spec_BlocksOf.l2,shl_nat (show U.length≤40 by omega)]
    repeat(with_reducible first|refine Ev.ip ?_|refine Ev.iq ?_)
    rw [com_start N hs s]
    refine Ev.loop (g:=fun k x i=>spec_BlocksOf.l3 k (filI s (blkP U N)) (U.length:Int) (agF U N) (s:Int) x i) U.length (fun i x=>x=((comN U N s i:Nat):Int)) (by omega) (fun x h=>?_) (fun i x hi h=>?_) _ rfl
    ·subst h
     refine Ev.succ ?_
     simp only [spec_BlocksOf.l3,wrap_nat (show s<4611686018427387904 by omega)]
     repeat(with_reducible first|refine Ev.ip ?_|refine Ev.iq ?_)
     rw [filI_succ] at K
     have hlen:(filI s (blkP U N)).length<17592186044416:=by have:=filI_length s (blkP U N);omega
     by_cases e:comN U N s U.length=s
     ·have e':((comN U N s U.length:Nat):Int)=(s:Int):=by rw [e]
      have hpos:1≤s:=by
       rcases Nat.eq_zero_or_pos s with h0|h0
       ·subst h0
        exfalso
        have h9:comN U N 0 U.length=2 ^ U.length - 1:=by rw [setB_all];unfold comN;exact setB_congr fun b _=>by rw [allN_iff];intro i _;simp
        have:2 ^ 1≤2 ^ U.length:=Nat.pow_le_pow_right (by omega) hp
        omega
       ·exact h0
      rw [if_pos (by unfold blkP;rw [show comS U N s=s from e,decide_eq_true hpos];simp)] at K
      repeat(with_reducible first|refine Ev.ip ?_|refine Ev.iq ?_)
      exact K
     ·have e': ¬((comN U N s U.length:Nat):Int)=(s:Int):=by omega
      rw [if_neg (by unfold blkP;rw [show (comS U N s==s)=false from beq_eq_false_iff_ne.2 e];simp)] at K
      repeat(with_reducible first|refine Ev.ip ?_|refine Ev.iq ?_)
      exact K
    ·subst h
     refine⟨_,rfl,fun K2=>Ev.succ ?_⟩
     rw [comN_succ] at K2
     simp only [spec_BlocksOf.l3,smod_nat s (show i≤64 by omega),agF_length,rd_nat,agF_at U N i hi]
     repeat(with_reducible first|refine Ev.ip ?_|refine Ev.iq ?_)
     cases hb:s.testBit i with
     |true=>
      rw [hb,if_pos rfl] at K2
      repeat(with_reducible first|refine Ev.ip ?_|refine Ev.iq ?_)
      rw [band_nat (comN U N s i) (agA U N i) (by have:=comN_small N hs s i;omega) (by have:=agA_small N hs i;omega)]
      exact K2
     |false=>
      rw [hb,if_neg (by simp)] at K2
      repeat(with_reducible first|refine Ev.ip ?_|refine Ev.iq ?_)
      exact K2
  refine Ev.loop (g:=fun k s i=>spec_BlocksOf.l0 k [] (U.length:Int) s i U N) U.length (fun i s=>s=(List.range i).map fun(a:Nat)=>((agA U N a:Nat):Int)) (by omega) (fun s h=>?_) (fun i s hi h=>?_) _ rfl
  ·subst h
   refine Ev.succ ?_
   simp only [spec_BlocksOf.l0]
   repeat(with_reducible first|refine Ev.ip ?_|refine Ev.iq ?_)
   have:=key (2 ^ U.length - 1) 1 (by omega)
   rw [filI_one] at this
   exact this
  ·subst h
   refine⟨_,rfl,fun K=>Ev.succ ?_⟩
   simp only [spec_BlocksOf.l0]
   repeat(with_reducible first|refine Ev.ip ?_|refine Ev.iq ?_)
   refine Ev.loop (g:=fun k x j=>spec_BlocksOf.l1 k [] (U.length:Int) ((List.range i).map fun(a:Nat)=>((agA U N a:Nat):Int)) (i:Int) x j U N) U.length (fun j x=>x=((agW U N i j:Nat):Int)) (by omega) (fun x h=>?_) (fun j x hj h=>?_) _ (by rw [agW_zero];rfl)
   ·subst h
    refine Ev.succ ?_
    simp only [spec_BlocksOf.l1,List.length_map,List.length_range]
    repeat(with_reducible first|refine Ev.ip ?_|refine Ev.iq ?_)
    rw [agW_all,← agF_take]
    exact K
   ·subst h
    refine⟨_,rfl,fun K2=>Ev.succ ?_⟩
    rw [agW_succ U N i hj] at K2
    simp only [spec_BlocksOf.l1,shl_nat (show j≤40 by omega)]
    repeat(with_reducible first|refine Ev.ip ?_|refine Ev.iq ?_)
    refine Ev.bind (spec_l6Agree.ev L (a:=(i:Int)) (b:=(j:Int)) ⟨by omega,by omega⟩ ⟨by omega,by omega⟩) ?_
    cases hb:bothB U N i j with
    |true=>
     rw [hb,if_pos rfl] at K2
     repeat(with_reducible first|refine Ev.ip ?_|refine Ev.iq ?_)
     have h1:=two_pow_le (show j≤40 by omega)
     rw [bor_nat _ _ (by have:=setB_small (show U.length≤40 by omega) (fun b=>decide (b<j) && bothB U N i b);unfold agW;omega) (by omega)]
     exact K2
    |false=>
     rw [hb,if_neg (by simp)] at K2
     repeat(with_reducible first|refine Ev.ip ?_|refine Ev.iq ?_)
     exact K2
def comR (n : Nat) (R : Nat → Nat → Bool) (s : Nat) : Nat := setB n fun b => allN n fun a => !(s.testBit a) || R a b
def Rel (n : Nat) (R : Nat → Nat → Bool) (s : Nat) : Prop := ∀ a b, a < n → b < n → s.testBit a = true → s.testBit b = true → R a b = true
theorem comR_bit (n : Nat) (R : Nat → Nat → Bool) (s b : Nat) (hb : b < n) : (comR n R s).testBit b = true ↔ ∀ a, a < n → s.testBit a = true → R a b = true := by
 unfold comR
 rw [setB_bit,decide_eq_true hb,Bool.true_and,allN_iff]
 constructor
 ·intro h a ha hs
  have:=h a ha
  rw [hs] at this
  simpa using this
 ·intro h a ha
  cases hs:s.testBit a with
  |false=>rfl
  |true=>rw [h a ha hs];rfl
theorem bit_lt {n s b : Nat} (hs : s < 2 ^ n) (h : s.testBit b = true) : b < n := by
 apply Classical.byContradiction
 intro hn
 have h2:s<2 ^ b:=Nat.lt_of_lt_of_le hs (Nat.pow_le_pow_right (by omega) (by omega))
 rw [Nat.testBit_lt_two_pow h2] at h
 exact absurd h (by simp)
theorem block_ext {n : Nat} {R : Nat → Nat → Bool} (hr : ∀ a, a < n → R a a = true) (hsy : ∀ a b, a < n → b < n → R a b = true → R b a = true) :
 ∀d s,s<2 ^ n→2 ^ n≤s+d→Rel n R s→ ∃t,t<2 ^ n∧comR n R t=t∧ ∀a,s.testBit a=true→t.testBit a=true:=by
 intro d
 induction d with
 |zero=>intro s hs h;omega
 |succ d ih=>
  intro s hs hd hR
  by_cases hc:comR n R s=s
  ·exact⟨s,hs,hc,fun _ h=>h⟩
  have hsub: ∀a,s.testBit a=true→(comR n R s).testBit a=true:=fun a ha=>by
   have han:=bit_lt hs ha
   exact(comR_bit n R s a han).2 fun b hb hsb=>hR b a hb han hsb ha
  obtain⟨b,hb1,hb2⟩: ∃b,(comR n R s).testBit b=true∧s.testBit b=false:=by
   apply Classical.byContradiction
   intro hne
   apply hc
   apply Nat.eq_of_testBit_eq
   intro i
   cases h1:s.testBit i with
   |true=>exact hsub i h1
   |false=>
    cases h2:(comR n R s).testBit i with
    |false=>rfl
    |true=>exact absurd ⟨i,h2,h1⟩ hne
  have hbn:b<n:=bit_lt (setB_lt n _) hb1
  have hcom:=(comR_bit n R s b hbn).1 hb1
  have hlt:s<s|||2 ^ b:=by
   have h1:s≤s|||2 ^ b:=Nat.left_le_or
   have h2:s≠s|||2 ^ b:=fun e=>by
    have h3:(s|||2 ^ b).testBit b=true:=by rw [Nat.testBit_or,Nat.testBit_two_pow_self,Bool.or_true]
    rw [← e,hb2] at h3
    exact absurd h3 (by simp)
   omega
  have hlt2:s|||2 ^ b<2 ^ n:=Nat.or_lt_two_pow hs (Nat.pow_lt_pow_right (by omega) hbn)
  obtain⟨t,t1,t2,t3⟩:=ih (s|||2 ^ b) hlt2 (by omega) (fun a c ha hc' h1 h2=>by
   rw [Nat.testBit_or,Nat.testBit_two_pow,Bool.or_eq_true,decide_eq_true_eq] at h1 h2
   rcases h1 with h1|h1
   ·rcases h2 with h2|h2
    ·exact hR a c ha hc' h1 h2
    ·subst h2;exact hcom a ha h1
   ·subst h1
    rcases h2 with h2|h2
    ·exact hsy c b hc' hbn (hcom c hc' h2)
    ·subst h2;exact hr b hbn)
  exact⟨t,t1,t2,fun a ha=>t3 a (by rw [Nat.testBit_or,ha];rfl)⟩
def blkR (n : Nat) (R : Nat → Nat → Bool) : List Nat := (List.range (2 ^ n)).filter fun s => decide (1 ≤ s) && (comR n R s == s)
theorem mem_blkR {n : Nat} {R : Nat → Nat → Bool} {s : Nat} : s ∈ blkR n R ↔ s < 2 ^ n ∧ 1 ≤ s ∧ comR n R s = s := by
 unfold blkR
 rw [List.mem_filter,List.mem_range,Bool.and_eq_true,decide_eq_true_eq,beq_iff_eq]
theorem block_of {n : Nat} {R : Nat → Nat → Bool} (hr : ∀ a, a < n → R a a = true) (hsy : ∀ a b, a < n → b < n → R a b = true → R b a = true) {s : Nat} (hs : s < 2 ^ n) (h1 : 1 ≤ s) (hR : Rel n R s) :
 ∃t,t ∈ blkR n R∧ ∀a,s.testBit a=true→t.testBit a=true:=by
 obtain⟨t,t1,t2,t3⟩:=block_ext hr hsy (2 ^ n) s hs (by omega) hR
 refine⟨t,mem_blkR.2 ⟨t1,?_,t2⟩,t3⟩
 apply Classical.byContradiction
 intro h0
 have ht:t=0:=by omega
 obtain⟨i,hi⟩:=Nat.exists_testBit_of_ne_zero (show s≠0 by omega)
 have:=t3 i hi
 rw [ht,Nat.zero_testBit] at this
 exact absurd this (by simp)
def keepT (U : List (List Int)) (N : List Int) (a b : Int) : Bool := (at2 U a.toNat b.toNat == 0) || (orI U a (andI U b (notI N a)) == b)
def keepB (U : List (List Int)) (N : List Int) : Bool := allN U.length fun a => allN U.length fun b => keepT U N a b
section
section
variable {U : List (List Int)} {N : List Int} (L : Logic U N)
include L
theorem at2_fin (x y : Fin U.length) : (at2 U x.1 y.1 = 1 ↔ L.ol.le x y) ∧ (at2 U x.1 y.1 = 0 ↔ ¬ L.ol.le x y) := by
 have h:L.ol.le x y↔at2 U x.1 y.1=1:=by
  rw [← leB_fin L];unfold leB;exact beq_iff_eq
 refine⟨h.symm,?_⟩
 rw [h]
 rcases L.bit x.1 y.1 x.2 y.2 with e|e <;> omega
theorem keepB_iff : keepB U N = true ↔ L.ol.Keeps := by
 unfold keepB OL.Keeps
 rw [allN_fin]
 have key: ∀x y:Fin U.length,keepT U N x.1 y.1=true↔(L.ol.le x y→L.ol.join x (L.ol.meet y (L.ol.neg x))=y):=fun x y=>by
  unfold keepT
  rw [Int.toNat_natCast,Int.toNat_natCast,not_fin L,and_fin L,or_fin L,fin_beq,Bool.or_eq_true,beq_iff_eq,decide_eq_true_eq,(at2_fin L x y).2]
  exact⟨fun h k=>h.resolve_left (fun n=>n k),fun h=>(Classical.em (L.ol.le x y)).elim (fun k=> .inr (h k)) .inl⟩
 constructor
 ·intro h x y
  exact(key x y).1 (allN_fin.1 (h x) y)
 ·intro h x
  exact allN_fin.2 fun y=>(key x y).2 (h x y)
end
end
theorem spec_KeepsOk.ev (U : List (List Int)) (N : List Int) : Ev (fun k => spec_KeepsOk.f k U N) (if logicB U N = true then keepB U N else false) := by
 unfold spec_KeepsOk.f
 have hlo:=spec_LogicOk.ev U N
 cases hg:logicB U N with
 |false=>
  rw [hg] at hlo
  rw [if_neg (by simp)]
  refine Ev.succ ?_
  simp only [spec_KeepsOk.l0]
  have hj:Ev (fun k=>spec_KeepsOk.j1 k 0 false U N) false:=by
   refine Ev.succ ?_
   simp only [spec_KeepsOk.j1]
   exact Ev.ite_neg (by simp) (Ev.bind hlo (Ev.now _))
  by_cases h0:(0:Int)<(N.length:Int)
  ·exact Ev.ite_pos h0 (Ev.bind hlo hj)
  ·exact Ev.ite_neg h0 hj
 |true=>
  rw [hg] at hlo
  have L:=logicB_iff.1 hg
  have hlen:=L.len
  have hsm:=L.small
  rw [if_pos rfl]
  unfold keepB
  refine Ev.eq (Ev.all (g:=fun k i=>spec_KeepsOk.l0 k i U N) (n:=U.length) (fun a=>allN U.length fun b=>keepT U N a b) (go:=true) (stop:=false) (by omega) (fun _=>?_) (fun i hi _ R hR=>?_)) (by cases allN U.length _ <;> rfl)
  ·refine Ev.succ ?_
   simp only [spec_KeepsOk.l0]
   refine Ev.ite_neg (by omega) (Ev.succ ?_)
   simp only [spec_KeepsOk.j1]
   exact Ev.ite_neg (by simp) (Ev.bind hlo (Ev.now _))
  ·refine Ev.succ ?_
   simp only [spec_KeepsOk.l0]
   refine Ev.ite_pos (by omega) (Ev.bind hlo (Ev.succ ?_))
   simp only [spec_KeepsOk.j1]
   refine Ev.ite_pos (by simp) ?_
   have hrow:=L.row i hi
   have hran:=L.ran i hi
   refine Ev.all (g:=fun k j=>spec_KeepsOk.l1 k (i:Int) j U N) (n:=U.length) (fun b=>keepT U N i b) (go:=R) (stop:=false) (by omega) (fun hall=>?_) (fun j hj _ R' hR'=>?_)
   ·refine Ev.succ ?_
    simp only [spec_KeepsOk.l1]
    exact Ev.ite_neg (by omega) (hR (allN_iff.2 hall))
   ·refine Ev.succ ?_
    simp only [spec_KeepsOk.l1,rdL_nat,rd_nat,rd_row,hrow]
    refine Ev.ite_pos (by omega) (Ev.ite_pos (by omega) (Ev.ite_pos (by omega) (Ev.ite_pos (by omega) (Ev.ite_pos (by omega) ?_))))
    have hk:keepT U N i j=((at2 U i j==0)||(orI U i (andI U j (notI N i))==(j:Int))):=by
     unfold keepT;rw [Int.toNat_natCast,Int.toNat_natCast]
    rcases L.bit i j hi hj with e|e
    ·rw [hk,e] at hR' ⊢
     exact Ev.ite_neg (by omega) (hR' rfl)
    ·have iI:In U ((i:Nat):Int):=⟨by omega,by omega⟩
     have iJ:In U ((j:Nat):Int):=⟨by omega,by omega⟩
     have hn:at1 N i=notI N (i:Int):=by unfold notI;rw [Int.toNat_natCast]
     rw [hk,e] at hR' ⊢
     rw [hn]
     refine Ev.ite_pos (by simp) (Ev.ite_pos (by omega) (Ev.bind (meet_in L iJ (L.in_not iI)) (Ev.bind (join_in L iI (L.in_and iJ (L.in_not iI))) ?_)))
     by_cases c:orI U i (andI U j (notI N i))=(j:Int)
     ·have c2:((1:Int)==0||(orI U i (andI U j (notI N i))==(j:Int)))=true:=by rw [c];simp
      rw [c2] at hR' ⊢
      exact Ev.ite_pos c (hR' rfl)
     ·have c2:((1:Int)==0||(orI U i (andI U j (notI N i))==(j:Int)))=false:=by
       rw [Bool.or_eq_false_iff];exact⟨rfl,beq_eq_false_iff_ne.2 c⟩
      rw [c2]
      exact Ev.ite_neg c (Ev.now _)
section
def blkS (U : List (List Int)) (N : List Int) : List Nat := blkR U.length fun a b => bothB U N (a : Int) (b : Int)
section
variable {U : List (List Int)} {N : List Int} (L : Logic U N)
include L
theorem withB_fin (x y : Fin U.length) : withB U N x.1 y.1 = true ↔ L.ol.C x y := by
 unfold withB OL.C
 rw [not_fin L, and_fin L, and_fin L, or_fin L, fin_beq, decide_eq_true_eq]
theorem bothB_fin (x y : Fin U.length) : bothB U N x.1 y.1 = true ↔ L.ol.C x y ∧ L.ol.C y x := by
 unfold bothB
 rw [Bool.and_eq_true, withB_fin L, withB_fin L]
theorem both_refl : ∀ a, a < U.length → bothB U N (a : Int) (a : Int) = true := fun a ha => by
 obtain ⟨x, rfl⟩ := fin_of_nat ha
 exact (bothB_fin L x x).2 ⟨OL.C_refl x, OL.C_refl x⟩
theorem both_symm : ∀ a b, a < U.length → b < U.length → bothB U N (a : Int) (b : Int) = true → bothB U N (b : Int) (a : Int) = true := fun a b ha hb h => by
 obtain⟨x,rfl⟩:=fin_of_nat ha
 obtain⟨y,rfl⟩:=fin_of_nat hb
 have:=(bothB_fin L x y).1 h
 exact(bothB_fin L y x).2 ⟨this.2,this.1⟩
theorem block_some (x : Fin U.length) : ∃ t, t ∈ blkS U N ∧ t.testBit x.1 = true := by
 obtain⟨t,h1,h2⟩:=block_of (n:=U.length) (R:=fun a b=>bothB U N (a:Int) (b:Int)) (s:=2 ^ x.1) (both_refl L) (both_symm L) (Nat.pow_lt_pow_right (by omega) x.2) Nat.one_le_two_pow (fun c d _ _ h1 h2=>by
  rw [Nat.testBit_two_pow,decide_eq_true_eq] at h1 h2
  subst h1;subst h2
  exact both_refl L _ x.2)
 exact⟨t,h1,h2 x.1 Nat.testBit_two_pow_self⟩
theorem block_bit {t : Nat} (ht : t ∈ blkS U N) (x : Fin U.length) : t.testBit x.1 = true ↔ ∀ y : Fin U.length, t.testBit y.1 = true → L.ol.C y x ∧ L.ol.C x y := by
 have h:=(mem_blkR.1 ht).2.2
 have h2:=comR_bit U.length (fun a b=>bothB U N (a:Int) (b:Int)) t x.1 x.2
 rw [h] at h2
 rw [h2]
 constructor
 ·intro k y hy
  exact(bothB_fin L y x).1 (k y.1 y.2 hy)
 ·intro k a ha hta
  obtain⟨y,rfl⟩:=fin_of_nat ha
  exact(bothB_fin L y x).2 (k y hta)
theorem block_bot {t : Nat} (ht : t ∈ blkS U N) : t.testBit L.ol.bot.1 = true :=
 (block_bit L ht L.ol.bot).2 fun y _ => ⟨OL.C_bot y, OL.C_of_le (L.ol.bot_le y)⟩
theorem block_neg (K : L.ol.Keeps) {t : Nat} (ht : t ∈ blkS U N) (x : Fin U.length) : t.testBit (L.ol.neg x).1 = t.testBit x.1 := by
 rw [Bool.eq_iff_iff,block_bit L ht,block_bit L ht]
 have hl: ∀y,L.ol.C (L.ol.neg x) y↔L.ol.C x y:=fun y=>⟨fun h=>by have:=K.C_neg_l h;rwa [L.ol.neg_neg] at this,K.C_neg_l⟩
 constructor
 ·intro h y hy
  exact⟨(OL.C_neg_iff y x).1 (h y hy).1,(hl y).1 (h y hy).2⟩
 ·intro h y hy
  exact⟨(OL.C_neg_iff y x).2 (h y hy).1,(hl y).2 (h y hy).2⟩
end
end
section
def cenP (U : List (List Int)) (N : List Int) (a : Nat) : Bool := allN U.length fun b => bothB U N (a : Int) (b : Int)
section
variable {U : List (List Int)} {N : List Int} (L : Logic U N)
include L
theorem cen_l1 {a : Nat} (ha : a < U.length) {xs : List Int} (hx : xs.length ≤ 4096) {res : List Int} (K1 : cenP U N a = true → Ev (fun k => spec_CentreOf.l0 k (xs ++ [(a : Int)]) ((a + 1 : Nat) : Int) U N) res) (K0 : cenP U N a = false → Ev (fun k => spec_CentreOf.l0 k xs ((a + 1 : Nat) : Int) U N) res) :
 ∀d b,b+d=U.length→Ev (fun k=>spec_CentreOf.l1 k xs (a:Int) (allN b fun j=>bothB U N (a:Int) (j:Int)) (b:Int) U N) res:=by
 have hs:=L.small
 have hln:=L.len
 intro d
 induction d with
 |zero=>
  intro b hb
  obtain rfl:b=U.length:=by omega
  refine Ev.succ ?_
  simp only [spec_CentreOf.l1]
  rw [wrap_nat (show a<4611686018427387904 by omega)]
  refine Ev.ite_neg (by omega) ?_
  have hc:cenP U N a=allN U.length fun j=>bothB U N (a:Int) (j:Int):=rfl
  rw [← hc]
  cases h:cenP U N a with
  |true=>exact Ev.ite_pos rfl (Ev.ite_pos (by omega) (K1 h))
  |false=>exact Ev.ite_neg (by simp) (K0 h)
 |succ d ih=>
  intro b hb
  have ih:=ih (b+1) (by omega)
  rw [allN_succ] at ih
  refine Ev.succ ?_
  simp only [spec_CentreOf.l1]
  rw [wrap_nat (show b<4611686018427387904 by omega)]
  refine Ev.ite_pos (by omega) ?_
  have Ia:In U (a:Int):=⟨by omega,by omega⟩
  have Ib:In U (b:Int):=⟨by omega,by omega⟩
  cases h:(allN b fun j=>bothB U N (a:Int) (j:Int)) with
  |false=>
   rw [h,Bool.false_and] at ih
   exact Ev.ite_neg (by simp) ih
  |true=>
   rw [h,Bool.true_and] at ih
   refine Ev.ite_pos rfl (Ev.bind (spec_l5With.ev L Ia Ib) ?_)
   unfold bothB at ih
   cases h1:withB U N (a:Int) (b:Int) with
   |false=>
    rw [h1,Bool.false_and] at ih
    exact Ev.ite_neg (by simp) ih
   |true=>
    rw [h1,Bool.true_and] at ih
    exact Ev.ite_pos rfl (Ev.bind (spec_l5With.ev L Ib Ia) ih)
theorem cen_l0 (hl : logicB U N = true) : ∀ d a, a + d = U.length → Ev (fun k => spec_CentreOf.l0 k (filI a (cenP U N)) (a : Int) U N) (filI U.length (cenP U N)) := by
 have hs:=L.small
 have hln:=L.len
 intro d
 induction d with
 |zero=>
  intro a ha
  obtain rfl:a=U.length:=by omega
  refine Ev.succ ?_
  simp only [spec_CentreOf.l0]
  refine Ev.ite_neg (by omega) (Ev.succ ?_)
  simp only [spec_CentreOf.j1]
  exact Ev.ite_neg (by simp) (Ev.now _)
 |succ d ih=>
  intro a ha
  have ih:=ih (a+1) (by omega)
  rw [filI_succ] at ih
  refine Ev.succ ?_
  simp only [spec_CentreOf.l0]
  refine Ev.ite_pos (by omega) (Ev.bind (spec_LogicOk.ev U N) ?_)
  rw [hl]
  refine Ev.succ ?_
  simp only [spec_CentreOf.j1]
  refine Ev.ite_pos (by trivial) ?_
  exact cen_l1 L (by omega) (by have:=filI_length a (cenP U N);omega) (fun h=>by rw [if_pos h] at ih;exact ih) (fun h=>by rw [if_neg (by rw [h];simp)] at ih;exact ih) U.length 0 (by omega)
end
theorem spec_CentreOf.ev (U : List (List Int)) (N : List Int) : Ev (fun k => spec_CentreOf.f k U N) (if logicB U N = true then filI U.length (cenP U N) else []) := by
 unfold spec_CentreOf.f
 cases hl:logicB U N with
 |true=>
  rw [if_pos rfl]
  exact cen_l0 (logicB_iff.1 hl) hl U.length 0 (by omega)
 |false=>
  rw [if_neg (by simp)]
  refine Ev.succ ?_
  simp only [spec_CentreOf.l0]
  by_cases h:(0:Int)<(N.length:Int)
  ·refine Ev.ite_pos h (Ev.bind (spec_LogicOk.ev U N) ?_)
   rw [hl]
   refine Ev.succ ?_
   simp only [spec_CentreOf.j1]
   exact Ev.ite_neg (by simp) (Ev.now _)
  ·refine Ev.ite_neg h (Ev.succ ?_)
   simp only [spec_CentreOf.j1]
   exact Ev.ite_neg (by simp) (Ev.now _)
end
section
theorem fold_or_bit (ts : List Nat) (s i : Nat) : (ts.foldl (fun a b => a ||| b) s).testBit i = (s.testBit i || ts.any fun t => t.testBit i) := by
 induction ts generalizing s with
 |nil=>simp
 |cons t ts ih=>rw [List.foldl_cons,ih,Nat.testBit_or,List.any_cons,Bool.or_assoc]
theorem fold_and_bit (ts : List Nat) (s i : Nat) : (ts.foldl (fun a b => a &&& b) s).testBit i = (s.testBit i && ts.all fun t => t.testBit i) := by
 induction ts generalizing s with
 |nil=>simp
 |cons t ts ih=>rw [List.foldl_cons,ih,Nat.testBit_and,List.all_cons,Bool.and_assoc]
theorem setB_sum (n : Nat) (p : Nat → Bool) : setB (n + 1) p = setB n p + if p n = true then 2 ^ n else 0 := by
 show setB n p|||(if p n=true then 2 ^ n else 0)=_
 cases h:p n with
 |false=>simp
 |true=>
  rw [if_pos rfl,Nat.or_comm,Nat.add_comm]
  have:=Nat.two_pow_add_eq_or_of_lt (setB_lt n p) 1
  simpa using this.symm
section
variable {U : List (List Int)} {N : List Int} (L : Logic U N)
include L
theorem cen_blocks (x : Fin U.length) : cenP U N x.1 = true ↔ ∀ t, t ∈ blkS U N → t.testBit x.1 = true := by
 unfold cenP
 rw [allN_fin]
 constructor
 ·intro h t ht
  refine(block_bit L ht x).2 fun y _=>?_
  have:=(bothB_fin L x y).1 (h y)
  exact⟨this.2,this.1⟩
 ·intro h y
  obtain⟨t,ht,hy⟩:=block_some L y
  have:=(block_bit L ht x).1 (h t ht) y hy
  exact(bothB_fin L x y).2 ⟨this.2,this.1⟩
theorem blocks_all (hlt : ∀ t, t ∈ blkS U N → t < 2 ^ U.length) : (blkS U N).foldl (fun a b => a ||| b) 0 = 2 ^ U.length - 1 := by
 refine Nat.eq_of_testBit_eq fun i=>?_
 rw [fold_or_bit,Nat.zero_testBit,Bool.false_or,Nat.testBit_two_pow_sub_one,Bool.eq_iff_iff,List.any_eq_true,decide_eq_true_eq]
 constructor
 ·rintro ⟨t,ht,hi⟩
  apply Classical.byContradiction
  intro hn
  rw [Nat.testBit_lt_two_pow (Nat.lt_of_lt_of_le (hlt t ht) (Nat.pow_le_pow_right (by omega) (by omega)))] at hi
  exact absurd hi (by simp)
 ·intro hi
  obtain⟨t,ht,hb⟩:=block_some L ⟨i,hi⟩
  exact⟨t,ht,hb⟩
theorem blocks_common : (blkS U N).foldl (fun a b => a &&& b) (2 ^ U.length - 1) = setB U.length (cenP U N) := by
 refine Nat.eq_of_testBit_eq fun i=>?_
 rw [fold_and_bit,Nat.testBit_two_pow_sub_one,setB_bit]
 by_cases hi:i<U.length
 ·rw [decide_eq_true hi,Bool.true_and,Bool.true_and,Bool.eq_iff_iff,List.all_eq_true]
  exact(cen_blocks L ⟨i,hi⟩).symm
 ·rw [decide_eq_false hi];rfl
end
end
section
section
variable {U : List (List Int)} {N : List Int} (L : Logic U N) {t : Nat} (hcl : cloB U N t = true)
theorem part_len (U : List (List Int)) (t : Nat) : (partU U t).length = (partL U t).length := by simp [partU, madeU]
theorem part_le {U : List (List Int)} {t i k : Nat} (hi : i < (partL U t).length) (hk : k < (partL U t).length) : leB (partU U t) i k = leB U (partE U t i) (partE U t k) := by
 have h:at2 (partU U t) i k=if leB U (partE U t i) (partE U t k)=true then 1 else 0:=madeU_at hi hk
 show (at2 (partU U t) i k==1)=_
 rw [h]
 cases leB U (partE U t i) (partE U t k) <;> rfl
def pF {U : List (List Int)} {t i : Nat} (h : i < (partL U t).length) : Fin U.length := ⟨partE U t i, (partE_in h).1⟩
include L
theorem part_le' {i k : Nat} (hi : i < (partL U t).length) (hk : k < (partL U t).length) : leB (partU U t) i k = true ↔ L.ol.le (pF hi) (pF hk) := by
 rw [part_le hi hk];exact leB_fin L (pF hi) (pF hk)
theorem pF_inj {i k : Nat} (hi : i < (partL U t).length) (hk : k < (partL U t).length) (e : pF hi = pF hk) : i = k := partE_inj hi hk (congrArg Fin.val e)
theorem pF_of {x : Fin U.length} (h : t.testBit x.1 = true) : ∃ c, ∃ hc : c < (partL U t).length, pF hc = x := by
 obtain ⟨i, hi, e⟩ := part_idx x.2 h
 exact ⟨i, hi, Fin.ext e⟩
theorem part_order (hne : t.testBit L.ol.bot.1 = true) : Order (partU U t) := by
 have hl:=part_len U t
 obtain⟨c0,h0,_⟩:=pF_of L hne
 refine⟨by omega,by have:=filN_len U.length (fun a=>t.testBit a);have:=L.small;rw [hl];unfold partL;omega,fun a ha=>?_,fun a b ha hb=>?_,fun a ha=>?_,fun a b ha hb h1 h2=>?_,fun a b c ha hb hc h1 h2=>?_⟩
 ·rw [hl] at ha ⊢
  simp [partU,madeU,madeRow,List.getD_eq_getElem?_getD,ha]
 ·rw [hl] at ha hb
  rw [show at2 (partU U t) a b=_ from madeU_at ha hb]
  split
  ·exact .inr rfl
  ·exact .inl rfl
 ·rw [hl] at ha
  exact(part_le' L ha ha).2 (L.ol.le_refl _)
 ·rw [hl] at ha hb
  exact pF_inj L ha hb (L.ol.le_antisymm _ _ ((part_le' L ha hb).1 h1) ((part_le' L hb ha).1 h2))
 ·rw [hl] at ha hb hc
  exact(part_le' L ha hc).2 (L.ol.le_trans _ _ _ ((part_le' L ha hb).1 h1) ((part_le' L hb hc).1 h2))
include hcl
theorem part_bits {i k : Nat} (hi : i < (partL U t).length) (hk : k < (partL U t).length) : t.testBit (L.ol.meet (pF hi) (pF hk)).1 = true ∧ t.testBit (L.ol.join (pF hi) (pF hk)).1 = true ∧ t.testBit (L.ol.neg (pF hi)).1 = true := by
 have h:=cloB_iff.1 hcl _ _ (partE_in hi).1 (partE_in hk).1 (partE_in hi).2 (partE_in hk).2
 rw [show andI U ((partE U t i:Nat):Int) ((partE U t k:Nat):Int)=_ from and_fin L (pF hi) (pF hk),show orI U ((partE U t i:Nat):Int) ((partE U t k:Nat):Int)=_ from or_fin L (pF hi) (pF hk),show notI N ((partE U t i:Nat):Int)=_ from not_fin L (pF hi),Int.toNat_natCast,Int.toNat_natCast,Int.toNat_natCast] at h
 exact h
theorem part_meet (hne : t.testBit L.ol.bot.1 = true) {i k : Nat} (hi : i < (partL U t).length) (hk : k < (partL U t).length) : ∃ c, ∃ hc : c < (partL U t).length, pF hc = L.ol.meet (pF hi) (pF hk) ∧ meetO (partU U t) i k = some c := by
 obtain⟨c,hc,e⟩:=pF_of L (part_bits L hcl hi hk).1
 have hl:=part_len U t
 refine⟨c,hc,e,(part_order L hne).meet_eq (by omega) (meetP_iff.2 ⟨(part_le' L hc hi).2 (e ▸ L.ol.meet_l _ _),(part_le' L hc hk).2 (e ▸ L.ol.meet_r _ _),fun d hd h1 h2=>?_⟩)⟩
 rw [hl] at hd
 refine(part_le' L hd hc).2 ?_
 rw [e]
 exact L.ol.le_meet _ _ _ ((part_le' L hd hi).1 h1) ((part_le' L hd hk).1 h2)
theorem part_join (hne : t.testBit L.ol.bot.1 = true) {i k : Nat} (hi : i < (partL U t).length) (hk : k < (partL U t).length) : ∃ c, ∃ hc : c < (partL U t).length, pF hc = L.ol.join (pF hi) (pF hk) ∧ joinO (partU U t) i k = some c := by
 obtain⟨c,hc,e⟩:=pF_of L (part_bits L hcl hi hk).2.1
 have hl:=part_len U t
 refine⟨c,hc,e,(part_order L hne).join_eq (by omega) (joinP_iff.2 ⟨(part_le' L hi hc).2 (e ▸ L.ol.join_l _ _),(part_le' L hk hc).2 (e ▸ L.ol.join_r _ _),fun d hd h1 h2=>?_⟩)⟩
 rw [hl] at hd
 refine(part_le' L hc hd).2 ?_
 rw [e]
 exact L.ol.join_le _ _ _ ((part_le' L hi hd).1 h1) ((part_le' L hk hd).1 h2)
theorem part_not {i : Nat} (hi : i < (partL U t).length) : ∃ c, ∃ hc : c < (partL U t).length, pF hc = L.ol.neg (pF hi) ∧ at1 (partN U N t) i = (c : Int) := by
 obtain⟨c,hc,e⟩:=pF_of L (part_bits L hcl hi hi).2.2
 refine⟨c,hc,e,?_⟩
 rw [show at1 (partN U N t) i=_ from madeN_at hi,Int.toNat_natCast,show notI N ((partE U t i:Nat):Int)=_ from not_fin L (pF hi),Int.toNat_natCast,← e]
 exact partAt_eq hc
theorem part_logic (hne : t.testBit L.ol.bot.1 = true) : Logic (partU U t) (partN U N t) := by
 have hl:=part_len U t
 have O:=part_order L hne
 obtain⟨c0,h0,e0⟩:=pF_of L hne
 refine { toOrder:=O,meets:=fun a b ha hb=>?_,joins:=fun a b ha hb=>?_,len:=by rw [hl];simp [partN,madeN],ran:=fun a ha=>?_,inv:=fun a ha=>?_,comp:=fun a ha=>?_,turn:=fun a b ha hb h=>?_ }
 ·rw [hl] at ha hb
  obtain⟨c,_,_,e⟩:=part_meet L hcl hne ha hb
  rw [e];rfl
 ·rw [hl] at ha hb
  obtain⟨c,_,_,e⟩:=part_join L hcl hne ha hb
  rw [e];rfl
 ·rw [hl] at ha ⊢
  obtain⟨c,hc,_,e⟩:=part_not L hcl ha
  rw [e];exact⟨by omega,by omega⟩
 ·rw [hl] at ha
  obtain⟨c,hc,e,e1⟩:=part_not L hcl ha
  obtain⟨d,hd,e2,e3⟩:=part_not L hcl hc
  rw [e1,Int.toNat_natCast,e3]
  rw [e,L.ol.neg_neg] at e2
  rw [pF_inj L hd ha e2]
 ·rw [hl] at ha
  obtain⟨c,hc,e,e1⟩:=part_not L hcl ha
  obtain⟨d,hd,e2,e3⟩:=part_meet L hcl hne ha hc
  rw [e,L.ol.meet_neg,← e0] at e2
  rw [e1,Int.toNat_natCast,e3,O.least_eq (c:=d) (by omega) fun b hb=>?_]
  rw [hl] at hb
  refine(part_le' L hd hb).2 ?_
  rw [e2,e0];exact L.ol.bot_le _
 ·rw [hl] at ha hb
  obtain⟨c,hc,e,e1⟩:=part_not L hcl ha
  obtain⟨d,hd,e2,e3⟩:=part_not L hcl hb
  rw [e1,e3,Int.toNat_natCast,Int.toNat_natCast]
  refine(part_le' L hd hc).2 ?_
  rw [e,e2];exact L.ol.neg_anti _ _ ((part_le' L ha hb).1 h)
end
end
section
section
variable {U : List (List Int)} {N : List Int} (L : Logic U N)
include L
theorem block_clo (K : L.ol.Keeps) {t : Nat} (ht : t ∈ blkS U N) : cloB U N t = true := by
 refine cloB_iff.2 fun a b ha hb h1 h2=>?_
 have e1:=and_fin L ⟨a,ha⟩ ⟨b,hb⟩
 have e2:=or_fin L ⟨a,ha⟩ ⟨b,hb⟩
 have e3:=not_fin L ⟨a,ha⟩
 have k1:=(block_bit L ht ⟨a,ha⟩).1 h1
 have k2:=(block_bit L ht ⟨b,hb⟩).1 h2
 rw [show andI U (a:Int) (b:Int)=_ from e1,show orI U (a:Int) (b:Int)=_ from e2,show notI N (a:Int)=_ from e3,Int.toNat_natCast,Int.toNat_natCast,Int.toNat_natCast]
 refine⟨(block_bit L ht _).2 fun y hy=>?_,(block_bit L ht _).2 fun y hy=>?_,?_⟩
 ·have:=K.C_meet (k1 y hy).1 (k2 y hy).1
  exact⟨this,K.C_symm this⟩
 ·have:=K.C_join (k1 y hy).1 (k2 y hy).1
  exact⟨this,K.C_symm this⟩
 ·rw [block_neg L K ht];exact h1
theorem block_set {t : Nat} (ht : t ∈ blkS U N) (hlt : t < 2 ^ U.length) : setOk U (t : Int) = true := by
 have h:=block_bot L ht
 have h0:t≠0:=fun e=>by rw [e,Nat.zero_testBit] at h;exact absurd h (by simp)
 unfold setOk
 rw [Bool.and_eq_true,decide_eq_true_eq,decide_eq_true_eq]
 exact⟨by omega,by omega⟩
end
end
section
section
variable {U : List (List Int)} {N : List Int} (L : Logic U N) {t : Nat}
include L
theorem part_and (hcl : cloB U N t = true) (hne : t.testBit L.ol.bot.1 = true) {i k : Nat} (hi : i < (partL U t).length) (hk : k < (partL U t).length) : ∃ c, ∃ hc : c < (partL U t).length, pF hc = L.ol.meet (pF hi) (pF hk) ∧ andI (partU U t) (i : Int) (k : Int) = (c : Int) := by
 obtain⟨c,hc,e,e1⟩:=part_meet L hcl hne hi hk
 exact⟨c,hc,e,by unfold andI mI;rw [Int.toNat_natCast,Int.toNat_natCast,e1];rfl⟩
theorem part_or (hcl : cloB U N t = true) (hne : t.testBit L.ol.bot.1 = true) {i k : Nat} (hi : i < (partL U t).length) (hk : k < (partL U t).length) : ∃ c, ∃ hc : c < (partL U t).length, pF hc = L.ol.join (pF hi) (pF hk) ∧ orI (partU U t) (i : Int) (k : Int) = (c : Int) := by
 obtain⟨c,hc,e,e1⟩:=part_join L hcl hne hi hk
 exact⟨c,hc,e,by unfold orI jI;rw [Int.toNat_natCast,Int.toNat_natCast,e1];rfl⟩
theorem part_split (K : L.ol.Keeps) (ht : t ∈ blkS U N) {a b c : Nat} (ha : a < (partL U t).length) (hb : b < (partL U t).length) (hc : c < (partL U t).length) : splitB (partU U t) (a : Int) (b : Int) (c : Int) = true := by
 have hcl:=block_clo L K ht
 have hne:=block_bot L ht
 obtain⟨j,hj,ej,rj⟩:=part_or L hcl hne hb hc
 obtain⟨x,hx,ex,rx⟩:=part_and L hcl hne ha hj
 obtain⟨y,hy,ey,ry⟩:=part_and L hcl hne ha hb
 obtain⟨z,hz,ez,rz⟩:=part_and L hcl hne ha hc
 obtain⟨w,hw,ew,rw_⟩:=part_or L hcl hne hy hz
 have h1:=((block_bit L ht (pF hb)).1 (partE_in hb).2 (pF ha) (partE_in ha).2).1
 have h2:=((block_bit L ht (pF hc)).1 (partE_in hc).2 (pF ha) (partE_in ha).2).1
 have hs:L.ol.Split (pF ha) (pF hb) (pF hc):=K.fh1 h1 h2
 unfold OL.Split at hs
 rw [ej] at ex
 rw [ey,ez,← hs,← ex] at ew
 unfold splitB
 rw [rj,rx,ry,rz,rw_,pF_inj L hw hx ew,beq_self_eq_true]
theorem part_boole (K : L.ol.Keeps) (ht : t ∈ blkS U N) : booB (partU U t) = true := by
 unfold booB
 rw [part_len U t]
 exact allN_iff.2 fun a ha=>allN_iff.2 fun b hb=>allN_iff.2 fun c hc=>part_split L K ht ha (by assumption) (by assumption)
end
end
def Bytes (b : List Int) : Prop := ∀ x ∈ b, 0 ≤ x ∧ x ≤ 255
theorem bytes_rd {b : List Int} (h : Bytes b) (i : Int) : 0 ≤ rd b i ∧ rd b i ≤ 255 := by
 by_cases hi:i.toNat<b.length
 ·have e:rd b i=b[i.toNat]:=by
   show b.getD i.toNat 0=_
   rw [List.getD_eq_getElem?_getD,List.getElem?_eq_getElem hi];rfl
  rw [e]
  exact h _ (List.getElem_mem hi)
 ·have e:rd b i=0:=by
   show b.getD i.toNat 0=_
   rw [List.getD_eq_getElem?_getD,List.getElem?_eq_none (by omega)];rfl
  rw [e];omega
theorem ofInt_nat' (a : Nat) (ha : a < 18446744073709551616) : (BitVec.ofInt 64 (a : Int)).toNat = a := by
 rw [BitVec.ofInt_natCast, BitVec.toNat_ofNat]; exact Nat.mod_eq_of_lt (by omega)
theorem bxor_nat (a b : Nat) (ha : a < 4611686018427387904) (hb : b < 4611686018427387904) : Go.bits .xor .i64 (a : Int) (b : Int) = ((a ^^^ b : Nat) : Int) := by
 have hx:a ^^^ b<2 ^ 62:=Nat.xor_lt_two_pow (by omega) (by omega)
 show IntKind.i64.wrap ((BitVec.ofInt 64 (a:Int) ^^^ BitVec.ofInt 64 (b:Int)).toNat:Int)=_
 rw [BitVec.toNat_xor,ofInt_nat' a (by omega),ofInt_nat' b (by omega),i64_w]
 unfold wrap64;omega
theorem pick_mod {x n : Int} (hx : 0 ≤ x) (hn : 1 ≤ n) : 0 ≤ Int.tmod x n ∧ Int.tmod x n < n := by
 rw [Int.tmod_eq_emod_of_nonneg hx]
 exact⟨Int.emod_nonneg _ (by omega),Int.emod_lt_of_pos _ (by omega)⟩
theorem wrap_pos {x : Int} (h : 0 ≤ x) (h2 : x ≤ 4611686018427387904) : wrap64 x = x := by unfold wrap64; omega
theorem pick_ev {b : List Int} (hb : Bytes b) (hl : b.length ≤ 2000) {p : Int} (h0 : 0 ≤ p) (h1 : p ≤ 1000000000) (n : Int) : ∃ v, Ev (fun k => spec_l20Rd_pick.f k b p n) (v, p + 1) ∧ 0 ≤ v ∧ (1 ≤ n → v < n) := by
 have w1:wrap64 (p+1)=p+1:=wrap_pos (by omega) (by omega)
 have w2:wrap64 (p+1 - 1)=p:=by rw [Int.add_sub_cancel];exact wrap_pos (by omega) (by omega)
 have hz:Ev (fun k=>spec_l20Rd_pick.j0 k n true b (p+1)) (0,p+1):=by
  refine Ev.succ ?_
  simp only [spec_l20Rd_pick.j0]
  repeat(with_reducible first|refine Ev.ip ?_|refine Ev.iq ?_)
  exact Ev.now _
 unfold spec_l20Rd_pick.f
 rw [w1]
 by_cases hn:n<1
 ·exact⟨0,Ev.ite_pos hn hz,by omega,fun h=>by omega⟩
 by_cases hlen:b.length=0
 ·refine⟨0,Ev.ite_neg hn ?_,by omega,fun h=>by omega⟩
  rw [show ((b.length:Int)==0)=true by rw [hlen];rfl]
  exact hz
 have hbf:((b.length:Int)==0)=false:=by rw [beq_eq_false_iff_ne];omega
 by_cases hp:p<(b.length:Int)
 ·obtain⟨r0,r1⟩:=bytes_rd hb p
  have hm:=pick_mod (x:=rd b p) (n:=n) r0 (by omega)
  refine⟨Int.tmod (rd b p) n,Ev.ite_neg hn ?_,hm.1,fun _=>hm.2⟩
  rw [hbf]
  refine Ev.succ ?_
  simp only [spec_l20Rd_pick.j0,w2]
  rw [wrap_pos (x:=rd b p) r0 (by omega)]
  refine Ev.ite_neg (by simp) (Ev.ite_pos hp (Ev.ite_pos h0 (Ev.ite_neg (by omega) (Ev.now _))))
 ·have m1:=pick_mod (x:=p) (n:=(b.length:Int)) h0 (by omega)
  have w3:wrap64 (wrap64 (p*7)+3)=p*7+3:=by
   rw [wrap_pos (x:=p*7) (by omega) (by omega)]
   exact wrap_pos (by omega) (by omega)
  have m2:=pick_mod (x:=p*7+3) (n:=(b.length:Int)) (by omega) (by omega)
  obtain⟨a0,a1⟩:=bytes_rd hb (Int.tmod p b.length)
  obtain⟨c0,c1⟩:=bytes_rd hb (Int.tmod (p*7+3) b.length)
  have hd:0≤Int.tdiv p b.length∧Int.tdiv p b.length≤p:=by
   rw [Int.tdiv_eq_ediv_of_nonneg h0]
   exact⟨Int.ediv_nonneg h0 (by omega),Int.ediv_le_self _ h0⟩
  generalize hA:rd b (Int.tmod p b.length)=A at a0 a1
  generalize hC:rd b (Int.tmod (p*7+3) b.length)=C at c0 c1
  generalize hD:Int.tdiv p b.length=D at hd
  obtain⟨x,hx⟩: ∃x:Nat,A*131+C*1117+p*29+D*53=(x:Int):=⟨(A*131+C*1117+p*29+D*53).toNat,by omega⟩
  have hx2:x≤1000000000000:=by omega
  obtain⟨y,hy⟩: ∃y:Nat,Int.tdiv (x:Int) 64=(y:Int):=⟨x / 64,by rw [Int.tdiv_eq_ediv_of_nonneg (by omega)];omega⟩
  have hy2:y≤1000000000000:=by
   have:Int.tdiv (x:Int) 64≤x:=by rw [Int.tdiv_eq_ediv_of_nonneg (by omega)];omega
   omega
  have hm:=pick_mod (x:=((x ^^^ y:Nat):Int)) (n:=n) (by omega) (by omega)
  refine⟨Int.tmod ((x ^^^ y:Nat):Int) n,Ev.ite_neg hn ?_,hm.1,fun _=>hm.2⟩
  rw [hbf]
  refine Ev.succ ?_
  simp only [spec_l20Rd_pick.j0,w2,w3,hA,hC,hD]
  rw [wrap_pos (x:=A) a0 (by omega),wrap_pos (x:=C) c0 (by omega),wrap_pos (x:=A*131) (by omega) (by omega),wrap_pos (x:=C*1117) (by omega) (by omega),wrap_pos (x:=A*131+C*1117) (by omega) (by omega),wrap_pos (x:=p*29) (by omega) (by omega),wrap_pos (x:=A*131+C*1117+p*29) (by omega) (by omega),wrap_pos (x:=D) hd.1 (by omega),wrap_pos (x:=D*53) (by omega) (by omega),wrap_pos (x:=A*131+C*1117+p*29+D*53) (by omega) (by omega),hx,hy,wrap_pos (x:=(y:Int)) (by omega) (by omega),bxor_nat x y (by omega) (by omega)]
  exact Ev.ite_neg (by simp) (Ev.ite_neg hp (Ev.ite_neg (by omega) (Ev.ite_pos m1.1 (Ev.ite_pos m1.2 (Ev.ite_pos m2.1 (Ev.ite_pos m2.2 (Ev.ite_neg (by omega) (Ev.now _))))))))
theorem odd_ev {b : List Int} (hb : Bytes b) (hl : b.length ≤ 2000) {p : Int} (h0 : 0 ≤ p) (h1 : p ≤ 1000000000) (n : Int) : ∃ v q, Ev (fun k => spec_l20Rd_odd.f k b p n) (v, q) ∧ p ≤ q ∧ q ≤ p + 1 := by
 unfold spec_l20Rd_odd.f
 by_cases hn:n>0
 ·obtain⟨v,hv,_,_⟩:=pick_ev hb hl h0 h1 n
  exact⟨_,_,Ev.ite_pos hn (Ev.bind hv (Ev.now _)),by omega,by omega⟩
 ·exact⟨_,_,Ev.ite_neg hn (Ev.now _),by omega,by omega⟩
theorem open_ev {l : List Int} (h : Bytes l) : ∃ b, Bytes b ∧ b.length ≤ 2000 ∧ spec_l20Open.f l = some (b, 0) := by
 unfold spec_l20Open.f
 by_cases hl:(l.length:Int)>2000
 ·rw [if_pos hl,if_pos (by omega)]
  exact⟨l.take 2000,fun x hx=>h x (List.mem_of_mem_take hx),by rw [List.length_take];omega,rfl⟩
 ·rw [if_neg hl]
  exact⟨l,h,by omega,rfl⟩
structure Sq (n : Nat) (U : List (List Int)) (N : List Int) : Prop where
 pos:1≤n
 small:n≤100
 len:U.length=n
 row: ∀r ∈ U,r.length=n
 lenN:N.length=n
 ran: ∀x ∈ N,0≤x∧x<(n:Int)
def sqB (r : List (List Int) × List Int) : Bool := decide (1 ≤ r.2.length) && (decide (r.2.length ≤ 100) && ((r.1.length == r.2.length) && (r.1.all (fun x => x.length == r.2.length) && r.2.all (fun x => decide (0 ≤ x) && decide (x < (r.2.length : Int))))))
theorem sq_of {r : List (List Int) × List Int} (h : sqB r = true) : Sq r.2.length r.1 r.2 := by
 unfold sqB at h
 simp only [Bool.and_eq_true,decide_eq_true_eq,beq_iff_eq,List.all_eq_true] at h
 obtain⟨h1,h2,h3,h4,h5⟩:=h
 exact⟨h1,h2,h3,h4,rfl,h5⟩
def gB (x : Int) : List (List Int) × List Int := (spec_l20Boole.f 150 x).getD ([], [])
set_option maxRecDepth 100000 in
theorem gB_ev {x : Int} (h0 : 0 ≤ x) (h1 : x < 4) : Ev (fun k => spec_l20Boole.f k x) ((gB x).1, (gB x).2) ∧ sqB (gB x) = true := by
 have hx:x=0∨x=1∨x=2∨x=3:=by omega
 rcases hx with rfl|rfl|rfl|rfl
 ·exact⟨Ev.of (spec_l20Boole.mono _) (k:=150) zqk,by kernel_rfl⟩
 ·exact⟨Ev.of (spec_l20Boole.mono _) (k:=150) zqk,by kernel_rfl⟩
 ·exact⟨Ev.of (spec_l20Boole.mono _) (k:=150) zqk,by kernel_rfl⟩
 ·exact⟨Ev.of (spec_l20Boole.mono _) (k:=150) zqk,by kernel_rfl⟩
def gG (a b : List (List Int) × List Int) : List (List Int) × List Int := (spec_l20Glued.f 900 a.1 a.2 b.1 b.2).getD ([], [])
def gS : List (List Int) × List Int := spec_l20Six.f.getD ([], [])
def gP : List (List Int) × List Int := (spec_l20Pasted.f 900).getD ([], [])
set_option maxRecDepth 100000 in
theorem g22 : Ev (fun k => spec_l20Glued.f k (gB 2).1 (gB 2).2 (gB 2).1 (gB 2).2) ((gG (gB 2) (gB 2)).1, (gG (gB 2) (gB 2)).2) ∧ sqB (gG (gB 2) (gB 2)) = true :=
 ⟨Ev.of (spec_l20Glued.mono _ _ _ _) (k:=900) zqk,by kernel_rfl⟩
set_option maxRecDepth 100000 in
theorem g23 : Ev (fun k => spec_l20Glued.f k (gB 2).1 (gB 2).2 (gB 3).1 (gB 3).2) ((gG (gB 2) (gB 3)).1, (gG (gB 2) (gB 3)).2) ∧ sqB (gG (gB 2) (gB 3)) = true :=
 ⟨Ev.of (spec_l20Glued.mono _ _ _ _) (k:=900) zqk,by kernel_rfl⟩
set_option maxRecDepth 100000 in
theorem g222 : Ev (fun k => spec_l20Glued.f k (gG (gB 2) (gB 2)).1 (gG (gB 2) (gB 2)).2 (gB 2).1 (gB 2).2) ((gG (gG (gB 2) (gB 2)) (gB 2)).1, (gG (gG (gB 2) (gB 2)) (gB 2)).2) ∧ sqB (gG (gG (gB 2) (gB 2)) (gB 2)) = true :=
 ⟨Ev.of (spec_l20Glued.mono _ _ _ _) (k:=900) zqk,by kernel_rfl⟩
set_option maxRecDepth 100000 in
theorem gS2 : Ev (fun k => spec_l20Glued.f k gS.1 gS.2 (gB 2).1 (gB 2).2) ((gG gS (gB 2)).1, (gG gS (gB 2)).2) ∧ sqB (gG gS (gB 2)) = true :=
 ⟨Ev.of (spec_l20Glued.mono _ _ _ _) (k:=900) zqk,by kernel_rfl⟩
theorem gS_ev : spec_l20Six.f = some (gS.1, gS.2) ∧ sqB gS = true := ⟨by kernel_rfl, by kernel_rfl⟩
set_option maxRecDepth 100000 in
theorem gP_ev : Ev (fun k => spec_l20Pasted.f k) (gP.1, gP.2) ∧ sqB gP = true := ⟨Ev.of spec_l20Pasted.mono (k := 900) (by kernel_rfl), by kernel_rfl⟩
theorem Ev.run {σ ρ : Type} {g : Nat → σ → Int → Option ρ} (n : Nat) (I : Nat → σ → Prop) (hn : n < 4611686018427387904)
 (hstep: ∀i s,i<n→I i s→ ∃s',I (i+1) s'∧ ∀R,Ev (fun k=>g k s' (wrap64 ((i:Int)+1))) R→Ev (fun k=>g k s (i:Int)) R): ∀s,I 0 s→ ∃s',I n s'∧ ∀R,Ev (fun k=>g k s' (n:Int)) R→Ev (fun k=>g k s 0) R:=by
 have key: ∀i,i≤n→ ∀s,I 0 s→ ∃s',I i s'∧ ∀R,Ev (fun k=>g k s' (i:Int)) R→Ev (fun k=>g k s 0) R:=by
  intro i
  induction i with
  |zero=>intro _ s hs;exact⟨s,hs,fun R h=>h⟩
  |succ i ih=>
   intro hi s hs
   obtain⟨s1,h1,k1⟩:=ih (by omega) s hs
   obtain⟨s2,h2,k2⟩:=hstep i s1 (by omega) h1
   refine⟨s2,h2,fun R h=>k1 R (k2 R ?_)⟩
   rw [wrap_nat (by omega)]
   exact h
 exact fun s hs=>key n (Nat.le_refl _) s hs
theorem rd_mem {xs : List Int} {i : Int} (h0 : 0 ≤ i) (h1 : i < (xs.length : Int)) : rd xs i ∈ xs := by
 have hi:i.toNat<xs.length:=by omega
 have e:rd xs i=xs[i.toNat]:=by
  show xs.getD i.toNat 0=_
  rw [List.getD_eq_getElem?_getD,List.getElem?_eq_getElem hi];rfl
 rw [e];exact List.getElem_mem hi
theorem rdL_mem {xs : List (List Int)} {i : Int} (h0 : 0 ≤ i) (h1 : i < (xs.length : Int)) : rd_L2 xs i ∈ xs := by
 obtain⟨m,rfl⟩: ∃m:Nat,i=(m:Int):=⟨i.toNat,by omega⟩
 have hi:m<xs.length:=by omega
 rw [rdL_nat,List.getD_eq_getElem?_getD,List.getElem?_eq_getElem hi]
 exact List.getElem_mem hi
structure Sh (n : Nat) (U : List (List Int)) (N : List Int) : Prop where
 len : U.length = n
 row : ∀ r ∈ U, r.length = n
 lenN : N.length = n
theorem Sq.sh {n : Nat} {U : List (List Int)} {N : List Int} (h : Sq n U N) : Sh n U N := ⟨h.len, h.row, h.lenN⟩
theorem rename_ev {n : Nat} {U : List (List Int)} {N : List Int} (S : Sq n U N) {o : List Int} (ho : o.length = n) (hr : ∀ x ∈ o, 0 ≤ x ∧ x < (n : Int)) : ∃ V M, Sh n V M ∧ Ev (fun k => spec_l20Rename.f k U N o) (V, M) := by
 have hn:=S.pos
 have hs:=S.small
 have hU:=S.len
 have hN:=S.lenN
 obtain⟨back,hb,kb⟩:=Ev.run (ρ:=List (List Int) × List Int) (g:=fun k (s:List Int) i=>spec_l20Rename.l0 k o s i U N) n (fun _ s=>s.length=n) (by omega) (fun i s hi hl=>by
  have r1:=hr _ (rd_mem (xs:=o) (i:=(i:Int)) (by omega) (by omega))
  have r2:=r1.1
  have r3:=r1.2
  refine⟨s.set (rd o (i:Int)).toNat (i:Int),by rw [List.length_set];exact hl,fun R h=>Ev.succ ?_⟩
  simp only [spec_l20Rename.l0]
  exact Ev.ite_pos (by omega) (Ev.ite_pos (by omega) (Ev.ite_pos r2 (Ev.ite_pos (by omega) h)))) (List.replicate ((o.length:Int)).toNat 0) (by simp [ho])
 have hrow: ∀(i:Nat) (V:List (List Int)) (M:List Int),i<n→ ∃row:List Int,row.length=n∧ ∀R,Ev (fun k=>spec_l20Rename.l2 k o back (i:Int) row (n:Int) U N V M) R→Ev (fun k=>spec_l20Rename.l2 k o back (i:Int) [] 0 U N V M) R:=by
  intro i V M hi
  have r1:=hr _ (rd_mem (xs:=o) (i:=(i:Int)) (by omega) (by omega))
  have r2:=r1.1
  have r3:=r1.2
  have rl:=S.row _ (rdL_mem (xs:=U) (i:=rd o (i:Int)) r2 (by omega))
  exact Ev.run (ρ:=List (List Int) × List Int) (g:=fun k (s:List Int) j=>spec_l20Rename.l2 k o back (i:Int) s j U N V M) n (fun j s=>s.length=j) (by omega) (fun j s hj hl=>by
   have q1:=hr _ (rd_mem (xs:=o) (i:=(j:Int)) (by omega) (by omega))
   have q2:=q1.1
   have q3:=q1.2
   refine⟨s ++ [rd (rd_L2 U (rd o (i:Int))) (rd o (j:Int))],by rw [List.length_append,hl];rfl,fun R h=>Ev.succ ?_⟩
   simp only [spec_l20Rename.l2]
   exact Ev.ite_pos (by omega) (Ev.ite_pos (by omega) (Ev.ite_pos (by omega) (Ev.ite_pos r2 (Ev.ite_pos (by omega) (Ev.ite_pos (by omega) (Ev.ite_pos q2 (Ev.ite_pos (by omega) (Ev.ite_pos (by omega) h))))))))) [] rfl
 obtain⟨⟨V,M⟩,⟨hV,hVr,hM⟩,kV⟩:=Ev.run (ρ:=List (List Int) × List Int) (g:=fun k (s:List (List Int) × List Int) i=>spec_l20Rename.l1 k o back i U N s.1 s.2) n (fun i s=>s.1.length=i∧(∀r ∈ s.1,r.length=n)∧s.2.length=i) (by omega) (fun i s hi hl=>by
  obtain⟨V,M⟩:=s
  obtain⟨h1,h2,h3⟩:=hl
  have h1':V.length=i:=h1
  have h3':M.length=i:=h3
  have r1:=hr _ (rd_mem (xs:=o) (i:=(i:Int)) (by omega) (by omega))
  have r2:=r1.1
  have r3:=r1.2
  have n1:=S.ran _ (rd_mem (xs:=N) (i:=rd o (i:Int)) r2 (by omega))
  have n2:=n1.1
  have n3:=n1.2
  obtain⟨row,hrl,kr⟩:=hrow i V M hi
  refine⟨(V ++ [row],M ++ [rd back (rd N (rd o (i:Int)))]),⟨by simp [h1'],?_,by simp [h3']⟩,fun R h=>Ev.succ ?_⟩
  ·intro r hr'
   rcases List.mem_append.1 hr' with hr'|hr'
   ·exact h2 r hr'
   ·rw [List.mem_singleton.1 hr'];exact hrl
  ·simp only [spec_l20Rename.l1]
   refine Ev.ite_pos (by omega) (kr R (Ev.succ ?_))
   simp only [spec_l20Rename.l2]
   exact Ev.ite_neg (by omega) (Ev.ite_pos (by omega) (Ev.ite_pos (by omega) (Ev.ite_pos (by omega) (Ev.ite_pos r2 (Ev.ite_pos (by omega) (Ev.ite_pos n2 (Ev.ite_pos (by omega) (Ev.ite_pos (by omega) h))))))))) ([],[]) ⟨rfl,(fun _ h=>by cases h),rfl⟩
 refine⟨V,M,⟨hV,hVr,hM⟩,?_⟩
 unfold spec_l20Rename.f
 refine Ev.ite_pos (by omega) (Ev.ite_pos (by omega) (kb _ (Ev.succ ?_)))
 simp only [spec_l20Rename.l0]
 refine Ev.ite_neg (by omega) (kV _ (Ev.succ ?_))
 simp only [spec_l20Rename.l1]
 exact Ev.ite_neg (by omega) (Ev.now _)
section
section
variable {b : List Int} (hb : Bytes b) (hl : b.length ≤ 2000)
include hb hl
theorem lg_j5 {m : Nat} (hm : 1 ≤ m) (hm2 : m ≤ 100) {U : List (List Int)} {N : List Int} (S : Sh m U N) {p : Int} (h0 : 0 ≤ p) (h1 : p ≤ 999999900) (n : Int) :
 ∃V M q,Ev (fun k=>spec_l20Logic.j5 k n b p U N) (V,M,q)∧p≤q∧q≤p+4:=by
 have hU:=S.len
 have hN:=S.lenN
 obtain⟨o,p1,ho,q1,q2⟩:=odd_ev hb hl h0 (by omega) n
 cases o with
 |false=>
  refine⟨U,N,p1,Ev.succ ?_,by omega,by omega⟩
  simp only [spec_l20Logic.j5]
  refine Ev.bind ho ?_
  dsimp only
  exact Ev.ite_neg (by decide) (Ev.now _)
 |true=>
  obtain⟨v,hv,v0,v1⟩:=pick_ev hb hl (p:=p1) (by omega) (by omega) 4
  have v2:=v1 (by omega)
  by_cases e0:v=0
  ·refine⟨[],[],p1+1,Ev.succ ?_,?_,?_⟩
   ·simp only [spec_l20Logic.j5]
    refine Ev.bind ho ?_
    dsimp only
    refine Ev.ite_pos rfl (Ev.bind hv ?_)
    dsimp only
    exact Ev.ite_pos e0 (Ev.now _)
   ·omega
   ·omega
  by_cases e1:v=1
  ·refine⟨U,N.drop (1:Int).toNat,p1+1,Ev.succ ?_,?_,?_⟩
   ·simp only [spec_l20Logic.j5]
    refine Ev.bind ho ?_
    dsimp only
    refine Ev.ite_pos rfl (Ev.bind hv ?_)
    dsimp only
    exact Ev.ite_neg e0 (Ev.ite_pos e1 (Ev.ite_pos (by omega) (Ev.now _)))
   ·omega
   ·omega
  by_cases e2:v=2
  ·obtain⟨x,hx,x0,x1⟩:=pick_ev hb hl (p:=p1+1) (by omega) (by omega) (N.length:Int)
   have x2:=x1 (by omega)
   obtain⟨y,hy,y0,y1⟩:=pick_ev hb hl (p:=p1+1+1) (by omega) (by omega) (wrap64 ((N.length:Int)+1))
   refine⟨U,N.set (x:Int).toNat y,p1+1+1+1,Ev.succ ?_,?_,?_⟩
   ·simp only [spec_l20Logic.j5]
    refine Ev.bind ho ?_
    dsimp only
    refine Ev.ite_pos rfl (Ev.bind hv ?_)
    dsimp only
    refine Ev.ite_neg e0 (Ev.ite_neg e1 (Ev.ite_pos e2 (Ev.bind hx (Ev.bind hy ?_))))
    dsimp only
    exact Ev.ite_pos x0 (Ev.ite_pos x2 (Ev.now _))
   ·omega
   ·omega
  ·have w1:wrap64 ((U.length:Int) - 1)=(U.length:Int) - 1:=wrap_pos (by omega) (by omega)
   have rl:=S.row _ (rdL_mem (xs:=U) (i:=(U.length:Int) - 1) (by omega) (by omega))
   refine⟨U.set ((U.length:Int) - 1).toNat ((rd_L2 U ((U.length:Int) - 1)).set (0:Int).toNat 1),N,p1+1,Ev.succ ?_,?_,?_⟩
   ·simp only [spec_l20Logic.j5]
    refine Ev.bind ho ?_
    dsimp only
    refine Ev.ite_pos rfl (Ev.bind hv ?_)
    dsimp only
    refine Ev.ite_neg e0 (Ev.ite_neg e1 (Ev.ite_neg e2 ?_))
    simp only [w1]
    exact Ev.ite_pos (by omega) (Ev.ite_pos (by omega) (Ev.ite_pos (by omega) (Ev.now _)))
   ·omega
   ·omega
theorem lg_l1 {U : List (List Int)} {N : List Int} {m i : Nat} (him : i < m) (hm : m ≤ 100) (n q v : Int) (v0 : 0 ≤ v) : ∀ (d : Nat) (o : List Int) (j : Int), j = v + d → j ≤ i → o.length = i + 1 → (∀ x ∈ o, 0 ≤ x ∧ x < (m : Int)) →
 ∃o':List Int,o'.length=i+1∧(∀x ∈ o',0≤x∧x<(m:Int))∧ ∀R,Ev (fun k=>spec_l20Logic.l1 k n o' (i:Int) v v b q U N) R→Ev (fun k=>spec_l20Logic.l1 k n o (i:Int) v j b q U N) R:=by
 intro d
 induction d with
 |zero=>
  intro o j hj _ hlen hr
  obtain rfl:j=v:=by omega
  exact⟨o,hlen,hr,fun R h=>h⟩
 |succ d ih=>
  intro o j hj hji hlen hr
  have w1:wrap64 (j - 1)=j - 1:=wrap_pos (by omega) (by omega)
  have hr1:=hr _ (rd_mem (xs:=o) (i:=j - 1) (by omega) (by omega))
  obtain⟨o',k1,k2,k3⟩:=ih (o.set j.toNat (rd o (j - 1))) (j - 1) (by omega) (by omega) (by rw [List.length_set];exact hlen) (fun x hx=>by
   rcases List.mem_or_eq_of_mem_set hx with hx|rfl
   ·exact hr x hx
   ·exact hr1)
  refine⟨o',k1,k2,fun R h=>Ev.succ ?_⟩
  simp only [spec_l20Logic.l1,w1]
  exact Ev.ite_pos (by omega) (Ev.ite_pos (by omega) (Ev.ite_pos (by omega) (Ev.ite_pos (by omega) (Ev.ite_pos (by omega) (k3 R h)))))
theorem lg_j2 {m : Nat} {U : List (List Int)} {N : List Int} (S : Sq m U N) {p : Int} (h0 : 0 ≤ p) (h1 : p ≤ 999999700) (n : Int) :
 ∃V M q,Ev (fun k=>spec_l20Logic.j2 k n b p U N) (V,M,q)∧p≤q∧q≤p+110:=by
 have hm:=S.pos
 have hm2:=S.small
 have hU:=S.len
 have hN:=S.lenN
 obtain⟨⟨o,p1⟩,⟨i1,i2,i3,i4⟩,ko⟩:=Ev.run (ρ:=List (List Int) × List Int × Int) (g:=fun k (s:List Int × Int) i=>spec_l20Logic.l0 k n s.1 i b s.2 U N) m (fun i s=>s.1.length=i∧(∀x ∈ s.1,0≤x∧x<(m:Int))∧p≤s.2∧s.2≤p+(i:Int)) (by omega) (fun i s hi hs=>by
  obtain⟨o,q⟩:=s
  obtain⟨j1,j2,j3,j4⟩:=hs
  have j1':o.length=i:=j1
  have j3':p≤q:=j3
  have j4':q≤p+(i:Int):=j4
  have w1:wrap64 ((i:Int)+1)=(i:Int)+1:=wrap_pos (by omega) (by omega)
  obtain⟨v,hv,v0,v1⟩:=pick_ev hb hl (p:=q) (by omega) (by omega) ((i:Int)+1)
  have v2:=v1 (by omega)
  obtain⟨o',k1,k2,k3⟩:=lg_l1 hb hl (U:=U) (N:=N) hi hm2 n (q+1) v v0 ((i:Int) - v).toNat (o ++ [(i:Int)]) (i:Int) (by omega) (by omega) (by rw [List.length_append,j1'];rfl) (fun x hx=>by
   rcases List.mem_append.1 hx with hx|hx
   ·exact j2 x hx
   ·rw [List.mem_singleton.1 hx];omega)
  refine⟨(o'.set v.toNat (i:Int),q+1),⟨by rw [List.length_set];exact k1,fun x hx=>?_,by show p≤q+1;omega,by show q+1≤p+((i+1:Nat):Int);omega⟩,fun R h=>Ev.succ ?_⟩
  ·rcases List.mem_or_eq_of_mem_set hx with hx|rfl
   ·exact k2 x hx
   ·omega
  ·rw [w1] at h
   simp only [spec_l20Logic.l0,w1]
   refine Ev.ite_pos (by omega) (Ev.bind hv ?_)
   dsimp only
   refine Ev.ite_pos (by omega) (k3 R (Ev.succ ?_))
   simp only [spec_l20Logic.l1,w1]
   exact Ev.ite_neg (by omega) (Ev.ite_pos (by omega) (Ev.ite_pos (by omega) h))) ([],p) ⟨rfl,(fun _ h=>by cases h),Int.le_refl _,by show p≤p+((0:Nat):Int);omega⟩
 have i1':o.length=m:=i1
 have i3':p≤p1:=i3
 have i4':p1≤p+(m:Int):=i4
 obtain⟨v,hv,v0,v1⟩:=pick_ev hb hl (p:=p1) (by omega) (by omega) 2
 have fin: ∀V M,Sh m V M→ ∃V' M' q,Ev (fun k=>spec_l20Logic.j5 k n b (p1+1) V M) (V',M',q)∧p≤q∧q≤p+110:=fun V M hS=>by
  obtain⟨V',M',q,h,k1,k2⟩:=lg_j5 hb hl hm hm2 hS (p:=p1+1) (by omega) (by omega) n
  exact⟨V',M',q,h,by omega,by omega⟩
 by_cases e:v=0
 ·obtain⟨V,M,hS,hR⟩:=rename_ev S i1' i2
  obtain⟨V',M',q,h,k1,k2⟩:=fin V M hS
  refine⟨V',M',q,Ev.succ ?_,k1,k2⟩
  simp only [spec_l20Logic.j2]
  refine ko _ (Ev.succ ?_)
  simp only [spec_l20Logic.l0]
  refine Ev.ite_neg (by omega) (Ev.bind hv ?_)
  dsimp only
  exact Ev.ite_pos e (Ev.bind hR h)
 ·obtain⟨V',M',q,h,k1,k2⟩:=fin U N S.sh
  refine⟨V',M',q,Ev.succ ?_,k1,k2⟩
  simp only [spec_l20Logic.j2]
  refine ko _ (Ev.succ ?_)
  simp only [spec_l20Logic.l0]
  refine Ev.ite_neg (by omega) (Ev.bind hv ?_)
  dsimp only
  exact Ev.ite_neg e h
theorem lg_j2' {r : List (List Int) × List Int} (S : sqB r = true) {p : Int} (h0 : 0 ≤ p) (h1 : p ≤ 999999700) (n : Int) :
 ∃V M q,Ev (fun k=>spec_l20Logic.j2 k n b p r.1 r.2) (V,M,q)∧p≤q∧q≤p+110:=lg_j2 hb hl (sq_of S) h0 h1 n
theorem logic_ev {p : Int} (h0 : 0 ≤ p) (h1 : p ≤ 999999600) (n : Int) : ∃ V M q, Ev (fun k => spec_l20Logic.f k b p n) (V, M, q) ∧ p ≤ q ∧ q ≤ p + 120 := by
 obtain⟨v,hv,v0,v1⟩:=pick_ev hb hl h0 (by omega) 9
 have v2:=v1 (by omega)
 have key: ∃V M q,Ev (fun k=>spec_l20Logic.j0 k n v (if v=0 then(v==0) else(v==1)) b (p+1)) (V,M,q)∧p≤q∧q≤p+120:=by
  have hj1: ¬(v=0)→ ¬(v=1)→(∃V M q,Ev (fun k=>spec_l20Logic.j1 k n v (if v=2 then(v==2) else(v==3)) b (p+1)) (V,M,q)∧p≤q∧q≤p+120)→ ∃V M q,Ev (fun k=>spec_l20Logic.j0 k n v (if v=0 then(v==0) else(v==1)) b (p+1)) (V,M,q)∧p≤q∧q≤p+120:=by
   rintro e0 e1 ⟨V,M,q,h,k⟩
   refine⟨V,M,q,Ev.succ ?_,k⟩
   simp only [spec_l20Logic.j0]
   rw [if_neg e0]
   refine Ev.ite_neg (by simpa using e1) ?_
   by_cases e2:v=2
   ·rw [if_pos e2] at h
    exact Ev.ite_pos e2 h
   ·rw [if_neg e2] at h
    exact Ev.ite_neg e2 h
  have hend: ∀r,sqB r=true→ ∃V M q,Ev (fun k=>spec_l20Logic.j2 k n b (p+1) r.1 r.2) (V,M,q)∧p≤q∧q≤p+120:=fun r hr=>by
   obtain⟨V,M,q,h,k1,k2⟩:=lg_j2' hb hl hr (p:=p+1) (by omega) (by omega) n
   exact⟨V,M,q,h,by omega,by omega⟩
  have B2:=(gB_ev (x:=2) (by omega) (by omega)).1
  have B3:=(gB_ev (x:=3) (by omega) (by omega)).1
  have hvs:(v=0∨v=1)∨(v=2∨v=3)∨v=4∨v=5∨v=6∨v=7∨v=8:=by omega
  rcases hvs with e|e|e|e|e|e|e
  ·obtain⟨x,hx,x0,x1⟩:=pick_ev hb hl (p:=p+1) (by omega) (by omega) 4
   obtain⟨g1,g2⟩:=gB_ev x0 (x1 (by omega))
   obtain⟨V,M,q,h,k1,k2⟩:=lg_j2' hb hl g2 (p:=p+1+1) (by omega) (by omega) n
   refine⟨V,M,q,Ev.succ ?_,by omega,by omega⟩
   simp only [spec_l20Logic.j0]
   refine Ev.ite_pos (by rcases e with rfl|rfl <;> rfl) (Ev.bind hx (Ev.bind g1 h))
  ·obtain⟨V,M,q,h,k⟩:=hend _ g22.2
   refine hj1 (by omega) (by omega) ⟨V,M,q,Ev.succ ?_,k⟩
   simp only [spec_l20Logic.j1]
   exact Ev.ite_pos (by rcases e with rfl|rfl <;> rfl) (Ev.bind B2 (Ev.bind B2 (Ev.bind g22.1 h)))
  ·obtain⟨V,M,q,h,k⟩:=hend _ g23.2
   subst e
   refine hj1 (by omega) (by omega) ⟨V,M,q,Ev.succ ?_,k⟩
   simp only [spec_l20Logic.j1]
   exact Ev.ite_neg (by simp) (Ev.ite_pos (by simp) (Ev.bind B2 (Ev.bind B3 (Ev.bind g23.1 h))))
  ·obtain⟨V,M,q,h,k⟩:=hend _ g222.2
   subst e
   refine hj1 (by omega) (by omega) ⟨V,M,q,Ev.succ ?_,k⟩
   simp only [spec_l20Logic.j1]
   exact Ev.ite_neg (by simp) (Ev.ite_neg (by simp) (Ev.ite_pos (by simp) (Ev.bind B2 (Ev.bind B2 (Ev.bind g22.1 (Ev.bind B2 (Ev.bind g222.1 h)))))))
  ·obtain⟨V,M,q,h,k⟩:=hend _ gS_ev.2
   subst e
   refine hj1 (by omega) (by omega) ⟨V,M,q,Ev.succ ?_,k⟩
   simp only [spec_l20Logic.j1]
   exact Ev.ite_neg (by simp) (Ev.ite_neg (by simp) (Ev.ite_neg (by simp) (Ev.ite_pos (by simp) (Ev.pbind gS_ev.1 h))))
  ·obtain⟨V,M,q,h,k⟩:=hend _ gS2.2
   subst e
   refine hj1 (by omega) (by omega) ⟨V,M,q,Ev.succ ?_,k⟩
   simp only [spec_l20Logic.j1]
   exact Ev.ite_neg (by simp) (Ev.ite_neg (by simp) (Ev.ite_neg (by simp) (Ev.ite_neg (by simp) (Ev.ite_pos (by simp) (Ev.pbind gS_ev.1 (Ev.bind B2 (Ev.bind gS2.1 h)))))))
  ·obtain⟨V,M,q,h,k⟩:=hend _ gP_ev.2
   subst e
   refine hj1 (by omega) (by omega) ⟨V,M,q,Ev.succ ?_,k⟩
   simp only [spec_l20Logic.j1]
   exact Ev.ite_neg (by simp) (Ev.ite_neg (by simp) (Ev.ite_neg (by simp) (Ev.ite_neg (by simp) (Ev.ite_neg (by simp) (Ev.bind gP_ev.1 h)))))
 obtain⟨V,M,q,h,k⟩:=key
 refine⟨V,M,q,?_,k⟩
 unfold spec_l20Logic.f
 refine Ev.bind hv ?_
 dsimp only
 by_cases e:v=0
 ·rw [if_pos e] at h
  exact Ev.ite_pos e h
 ·rw [if_neg e] at h
  exact Ev.ite_neg e h
end
end
theorem alive_ok : Ev (fun k => laws_alive.f k) true := by
 unfold laws_alive.f
 refine Ev.bind (impl_OrderOk.ev _) ?_
 rw [show orderB [[1]]=true by decide]
 refine Ev.ite_pos rfl (Ev.bind (impl_OrderOk.ev _) ?_)
 rw [show orderB [[0]]=false by decide]
 exact Ev.now _
theorem sameInts_ev (l : List Int) (hl : l.length < 4611686018427387904) : Ev (fun k => laws_sameInts.f k l l) true := by
 unfold laws_sameInts.f
 refine Ev.ite_pos rfl ?_
 refine Ev.loop (g:=fun k (_:Unit) i=>laws_sameInts.l0 k l l i) l.length (fun _ _=>True) hl (fun _ _=>?_) (fun i _ hi _=>⟨(),trivial,fun hn=>?_⟩) () trivial
 ·refine Ev.succ ?_
  simp only [laws_sameInts.l0]
  exact Ev.ite_neg (by omega) (Ev.now _)
 ·refine Ev.succ ?_
  simp only [laws_sameInts.l0]
  exact Ev.ite_pos (by omega) (Ev.ite_pos (by omega) (Ev.ite_pos (by omega) (Ev.ite_pos (by simp) hn)))
theorem wrap_pos' {x : Int} (h : 0 ≤ x) (h2 : x ≤ 4611686018427387904) : wrap64 x = x := by unfold wrap64; omega
theorem filI_lt {n : Nat} {p : Nat → Bool} {i : Nat} (hi : i + 1 < (filI n p).length) : at1 (filI n p) i < at1 (filI n p) (i + 1) := by
 rw [filI_at,filI_at]
 have hl:(filI n p).length=(filN n p).length:=filI_len _ _
 have hp:(filN n p).Pairwise (· < ·):=List.Pairwise.filter _ List.pairwise_lt_range
 have h1:=List.pairwise_iff_getElem.1 hp i (i+1) (by omega) (by omega) (by omega)
 rw [List.getD_eq_getElem?_getD,List.getD_eq_getElem?_getD,List.getElem?_eq_getElem (by omega),List.getElem?_eq_getElem (by omega)]
 show (((filN n p)[i]:Nat):Int)<(((filN n p)[i+1]:Nat):Int)
 omega
theorem ascend_ev {n : Nat} (p : Nat → Bool) (hn : n < 4611686018427387904) : Ev (fun k => laws_ascend.f k (filI n p)) true := by
 have hfl:=filI_length n p
 unfold laws_ascend.f
 have key: ∀d i:Nat,1≤i→(filI n p).length≤i+d→i≤n+1→Ev (fun k=>laws_ascend.l0 k (filI n p) (i:Int)) true:=by
  intro d
  induction d with
  |zero=>
   intro i _ h _
   refine Ev.succ ?_
   simp only [laws_ascend.l0]
   exact Ev.ite_neg (by omega) (Ev.now _)
  |succ d ih=>
   intro i h1 h h2
   refine Ev.succ ?_
   simp only [laws_ascend.l0]
   by_cases hi:i<(filI n p).length
   ·have w1:wrap64 ((i:Int) - 1)=((i - 1:Nat):Int):=by rw [wrap_pos' (by omega) (by omega)];omega
    have w2:wrap64 ((i:Int)+1)=((i+1:Nat):Int):=wrap_nat (by omega)
    have hlt:=filI_lt (n:=n) (p:=p) (i:=i - 1) (by omega)
    rw [show i - 1+1=i by omega] at hlt
    rw [w1,w2,rd_nat,rd_nat]
    exact Ev.ite_pos (by omega) (Ev.ite_pos (by omega) (Ev.ite_pos (by omega) (Ev.ite_pos (by omega) (Ev.ite_neg (by omega) (ih (i+1) (by omega) (by omega) (by omega))))))
   ·exact Ev.ite_neg (by omega) (Ev.now _)
 by_cases h0:n=0
 ·have:=key 0 1 (Nat.le_refl _) (by omega) (by omega)
  exact this
 ·exact key (filI n p).length 1 (Nat.le_refl _) (by omega) (by omega)
end Go.Proofs.Ytmbapglhkbpokaa.Print
end
