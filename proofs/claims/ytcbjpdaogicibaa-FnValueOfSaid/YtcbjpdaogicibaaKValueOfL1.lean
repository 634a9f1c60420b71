/- Part 1 of what this is proved by: The law of ValueOf. -/
import Derived.Test.YtcbjpdaogicibaaLC8
import Derived.Below
import Derived.Deep.Draws
import Derived.Deep.AppendLies
import Derived.Maps.AppendAt
import Derived.OwnWalk
import Derived.Laws.BytesArg
import Derived.Laws.MakeOwn
import Derived.Laws.OwnMore
import Derived.Deep.OwnRows
import Derived.Tactics
import Derived.Lib.ConvBytes
import Derived.Laws.Slices
import Derived.WalkKit
import Derived.KernelRfl
import Derived.RowKit3
import Derived.Deep.LoopGhost
import Derived.Deep.QuietTactic
import Derived.BigQuiet
import Derived.WideLaws
import Derived.Deep.DeepCutAuto
import Derived.Deep.CutBlock
import Derived.Deep.RegionHeld3
import Derived.Laws.Rows
import Derived.Lib.AppendStr
import Derived.ArgAppend
import Derived.Laws.IdiomCopy
import Derived.RowKit
import Derived.Test.YtcbjpdaogicibaaProg
import Derived.OrdersHeld
import Derived.Laws.BitsLemmas
import Derived.ProofKit
import Derived.OpenShut
set_option linter.all false
section
namespace Go.Proofs.YtcbjpdaogicibaaW.PrintWords
open Go.RowKit
section
def nums (k : IntKind) (xs : List Int) : List Value := xs.map fun x => .int k x
theorem own_lit (W : World) (base : Nat) (e : TypeId) (k : IntKind) (xs : List Int) (hb : base ≤ W.heap.size) (hm : xs.length ≤ 9223372036854775807) :
 (W.alloc (.cells (nums k xs).toArray e)).ownsRow base e 1 (.slice (some ⟨W.heap.size,0,none⟩) xs.length xs.length) xs.length (nums k xs):=by
 have h:=World.ownsRow_lit (base:=base) (e:=e) (size:=1) W (nums k xs).toArray xs.length hb (by simpa [maxLen] using hm) (by simp [nums])
 simpa using h
section
variable {P : Program}
theorem results_ctt {fn : Func} {p u v : Tmp} {ty : TypeId} (h : fn.results = #[.cell p ty, .tmp u, .tmp v]) (tmps : Array Value) (w : World) (g : Nat) (t : TypeId) (cs : Array Value) (fr : Nat × Nat) (d : TypeDesc)
 (hp:tmps.getD p undef= .pointer (some ⟨g,0,none⟩)) (hg:w.heap[g]? =some (.cells cs t fr))
 (hu:P.underlying ty=some d) (hd:(match d with| .struct _| .array _ _=>true|_=>false)=true) (hi:(P.info? ty).map (·.size)=some cs.size):
 (results fn tmps).run P w= .ok (.tuple #[.agg cs,tmps.getD u undef,tmps.getD v undef]) w:=by
 have hp':tmps[p]?.getD undef= .pointer (some ⟨g,0,none⟩):=by simpa using hp
 simp [results,h,hp',asAddr,run_loadVar_row w g t ty cs fr d hg hu hd hi]
end
theorem cell_far {W : World} {p a : Addr} (h : a.block ≠ p.block) (u : Value) : (W.setCell p u).cell? a = W.cell? a := by
 have := Below.heap_setCell W p u a.block h
 simp [World.cell?, this]
inductive Vals (P : Program) (tmps : Array Value) (w : World) : List ResultVar → List Value → Prop where
 |nil:Vals P tmps w [] []
 |tmp {u:Tmp} {rs:List ResultVar} {vs:List Value} (h:Vals P tmps w rs vs):Vals P tmps w (.tmp u :: rs) (tmps.getD u undef :: vs)
 | cell {p : Tmp} {ty : TypeId} {rs : List ResultVar} {vs : List Value} (g : Nat) (t : TypeId) (cs : Array Value) (fr : Nat × Nat) (d : TypeDesc)
  (hp:tmps.getD p undef= .pointer (some ⟨g,0,none⟩)) (hg:w.heap[g]? =some (.cells cs t fr))
  (hu:P.underlying ty=some d) (hd:(match d with| .struct _| .array _ _=>true|_=>false)=true) (hi:(P.info? ty).map (·.size)=some cs.size)
  (h:Vals P tmps w rs vs):Vals P tmps w (.cell p ty :: rs) (.agg cs :: vs)
section
variable {P : Program} {tmps : Array Value} {w : World}
theorem vals_run {rs : List ResultVar} {vs : List Value} (hv : Vals P tmps w rs vs) (f : ResultVar → Sem Value) (hf : ∀ u, f (.tmp u) = pure (tmps.getD u undef)) (hc : ∀ a t, f (.cell a t) = (do loadVar t (← asAddr (tmps.getD a undef)))) :
 (rs.mapM f).run P w= .ok vs w:=by
 induction hv with
 |nil=>simp
 |tmp h ih=>simp [List.mapM_cons,hf,ih]
 | cell g t cs fr d hp hg hu hd hi h ih =>
  rw [List.mapM_cons,hc,hp]
  simp [asAddr,run_loadVar_row w g t _ cs fr d hg hu hd hi,ih]
theorem results_list {fn : Func} {rs : List ResultVar} {vs : List Value} (h : fn.results = rs.toArray) (hl : vs.length ≠ 1) (hv : Vals P tmps w rs vs) : (results fn tmps).run P w = .ok (.tuple vs.toArray) w := by
 unfold results
 rw [h,List.mapM_toArray]
 simp only [Sem.run_bind,Sem.run_map]
 rw [vals_run hv]
 ·simp [hl]
 ·intro u
  rfl
 ·intro a t
  rfl
end
end
end Go.Proofs.YtcbjpdaogicibaaW.PrintWords
end
section
namespace Go.Proofs.YtcbjpdaogicibaaW.PrintWords
open Go.RowKit
def mx (a b : Int) : Int := if a < b then b else a
end Go.Proofs.YtcbjpdaogicibaaW.PrintWords

end
section
namespace Go.Proofs.Ytcbjpdaogicibaa
section
variable {p : Prop}
open Go.RowKit Go.Proofs.YtcbjpdaogicibaaW.PrintWords Go.Proofs.YtcbjpdaogicibaaW.PrintLast
theorem zq8 (h:p:=by repeat(first|exact(Kd.Q_reads' a2.out).2.2|(with_reducible refine Kd.C_alloc ?_ _)|(with_reducible refine Kd.C_drewN ?_ _)|(with_reducible refine Kd.C_drew ?_))):p:=h
theorem zq9 (h:p:=by repeat(first|exact(Kd.S_reads' a1.out).2.2|(with_reducible refine Kd.C_alloc ?_ _)|(with_reducible refine Kd.C_drewN ?_ _)|(with_reducible refine Kd.C_drew ?_))):p:=h
theorem zq15 (h:p:=by repeat(first|(with_reducible first|exact HB.out|apply below_alloc|apply pw_below_drewN|apply below_drew1|refine below_set ?_ b0.out)|exact HB.out)):p:=h
theorem zq26 (h:p:=by repeat(first|(with_reducible first|exact a0.out|apply IsS110.alloc|apply IsS110.drewN|apply IsS110.drew|apply IsS110.set_1|refine IsS110.far ?_ a7.out _|refine IsS110.far ?_ a9.out _)|exact a0.out)):p:=h
theorem zq35 (h:p:=by exact(Kd.Q_reads' a2.out).2.1):p:=h
theorem zq36 (h:p:=by exact(Kd.S_reads' a1.out).2.1):p:=h
theorem zq43 (h:p:=by repeat(first|(with_reducible first|exact a0.out|apply IsS110.alloc|apply IsS110.drewN|apply IsS110.drew|apply IsS110.set_1|refine IsS110.far ?_ a7.out _)|exact a0.out)):p:=h
theorem zq45 (h:p:=by repeat(first|(with_reducible first|exact HB.out|apply below_alloc|apply pw_below_drewN|apply below_drew1|refine below_set ?_ (IsS110.ge a0.out)|refine below_set ?_ c2.out|refine below_set ?_ c9.out)|exact HB.out)):p:=h
theorem zq49 (h:p:=by repeat(first|exact g2.out|(with_reducible refine Kd.C_alloc ?_ _)|(with_reducible refine Kd.C_drewN ?_ _)|(with_reducible refine Kd.C_drew ?_))):p:=h
theorem zq50 (h:p:=by repeat(first|(with_reducible first|exact HK.out|apply KeepBut.set_|apply keep_drewN|apply keep_drew|apply keep_alloc|refine keep_far ?_ b9.out _|refine keep_far ?_ d0.out _)|exact HK.out)):p:=h
theorem zq51 (h:p:=by repeat(first|(with_reducible first|exact HB.out|apply below_alloc|apply pw_below_drewN|apply below_drew1|refine below_set ?_ (IsS110.ge a0.out)|refine below_set ?_ b6.out)|exact HB.out)):p:=h
theorem zq54 (h:p:=by repeat(first|(with_reducible first|exact a3.out|apply IsS110.alloc|apply IsS110.drewN|apply IsS110.drew|apply IsS110.set_1|refine IsS110.far ?_ b1.out _|refine IsS110.far ?_ b8.out _)|exact a3.out)):p:=h
theorem zq57 (h:p:=by repeat(first|(with_reducible first|exact HK.out|apply KeepBut.set_|apply keep_drewN|apply keep_drew|apply keep_alloc|refine keep_far ?_ b7.out _)|exact HK.out)):p:=h
theorem zq58 (h:p:=by repeat(first|(with_reducible first|exact HK.out|apply KeepBut.set_|apply keep_drewN|apply keep_drew|apply keep_alloc|refine keep_far ?_ b9.out _)|exact HK.out)):p:=h
theorem zq66 (h:p:=by repeat(first|exact(Kd.C_below a9.out HB.out)|(with_reducible refine Kd.C_alloc ?_ _)|(with_reducible refine Kd.C_drewN ?_ _)|(with_reducible refine Kd.C_drew ?_))):p:=h
theorem zq69 (h:p:=by repeat(first|(with_reducible first|exact a0.out|apply IsS110.alloc|apply IsS110.drewN|apply IsS110.drew|apply IsS110.set_1|refine IsS110.far ?_ a7.out _|refine IsS110.far ?_ b8.out _)|exact a0.out)):p:=h
theorem zq76 (h:p:=by repeat(first|(with_reducible first|exact a3.out|apply IsS110.alloc|apply IsS110.drewN|apply IsS110.drew|apply IsS110.set_1|refine IsS110.far ?_ b1.out _)|exact a3.out)):p:=h
theorem zq77 (h:p:=by repeat(first|(with_reducible first|exact HB.out|apply below_alloc|apply pw_below_drewN|apply below_drew1|refine below_set ?_ (IsS110.ge a0.out)|refine below_set ?_ b6.out|refine below_set ?_ d1.out)|exact HB.out)):p:=h
theorem zq78 (h:p:=by repeat(first|(with_reducible first|exact HB.out|apply below_alloc|apply pw_below_drewN|apply below_drew1|refine below_set ?_ (IsS110.ge a3.out)|refine below_set ?_ c3.out|refine below_set ?_ d2.out)|exact HB.out)):p:=h
theorem zq81 (h:p:=by repeat(first|exact(Kd.C_below a9.out (by repeat(first|(with_reducible first|exact HB.out|apply below_alloc|apply pw_below_drewN|apply below_drew1|refine below_set ?_ a6.out)|exact HB.out)))|(with_reducible refine Kd.C_alloc ?_ _)|(with_reducible refine Kd.C_drewN ?_ _)|(with_reducible refine Kd.C_drew ?_))):p:=h
theorem zq82 (h:p:=by repeat(first|exact(Kd.C_below b0.out (by repeat(first|(with_reducible first|exact HB.out|apply below_alloc|apply pw_below_drewN|apply below_drew1|refine below_set ?_ a6.out)|exact HB.out)))|(with_reducible refine Kd.C_alloc ?_ _)|(with_reducible refine Kd.C_drewN ?_ _)|(with_reducible refine Kd.C_drew ?_))):p:=h
theorem zq90 (h:p:=by repeat(first|(with_reducible first|exact HK.out|apply KeepBut.set_|apply keep_drewN|apply keep_drew|apply keep_alloc|refine keep_far ?_ b7.out _|refine keep_far ?_ d3.out _)|exact HK.out)):p:=h
theorem zq111 (h:p:=by refine zqfQ ?_;exact(Kd.Q_mono (Kd.Q_far (p:=⟨a3,1,none⟩) (Kd.Q_far (p:=⟨a3,0,none⟩) (Kd.Q_types a2.out a0.out (by decide)) (fun _ hk=>hk.2) (.slice b5 a4.length b3)) (fun _ hk=>hk.2) (.slice b6 a5.length b4)) (fun _ h_=>h_.1))):p:=h
theorem zq113 (h:p:=by refine zqfQ ?_;exact(Kd.Q_mono (Kd.Q_far (p:=⟨a3,1,none⟩) (Kd.Q_far (p:=⟨a3,0,none⟩) (Kd.Q_types a2.out a0.out (by decide)) (fun _ hk=>hk.2) (.slice c3 a4.length b7)) (fun _ hk=>hk.2) (.slice c4 a5.length b8)) (fun _ h_=>h_.1))):p:=h
theorem zq115 (h:p:=by refine zqfQ ?_;exact(Kd.Q_mono (Kd.Q_far (p:=⟨a3,1,none⟩) (Kd.Q_far (p:=⟨a3,0,none⟩) (Kd.Q_types a2.out a0.out (by decide)) (fun _ hk=>hk.2) (.slice c5 a4.length b9)) (fun _ hk=>hk.2) (.slice c9 a5.length c1)) (fun _ h_=>h_.1))):p:=h
theorem zq118 (h:p:=by refine zqfQ ?_;exact(Kd.Q_mono (Kd.Q_far (p:=⟨a3,1,none⟩) (Kd.Q_far (p:=⟨a3,0,none⟩) (Kd.Q_types a2.out a0.out (by decide)) (fun _ hk=>hk.2) (.slice d5 a4.length d3)) (fun _ hk=>hk.2) (.slice d6 a5.length d4)) (fun _ h_=>h_.1))):p:=h
theorem zq119 (h:p:=by refine zqfQ ?_;exact(Kd.Q_mono (Kd.Q_far (p:=⟨a3,1,none⟩) (Kd.Q_far (p:=⟨a3,0,none⟩) (Kd.Q_types a2.out a0.out (by decide)) (fun _ hk=>hk.2) (.slice e2 a4.length e0)) (fun _ hk=>hk.2) (.slice e3 a5.length e1)) (fun _ h_=>h_.1))):p:=h
theorem zq120 (h:p:=by refine zqfQ ?_;exact(Kd.Q_mono (Kd.Q_far (p:=⟨a3,1,none⟩) (Kd.Q_far (p:=⟨a3,0,none⟩) (Kd.Q_types a2.out a0.out (by decide)) (fun _ hk=>hk.2) (.slice e4 a4.length d8)) (fun _ hk=>hk.2) (.slice e5 a5.length d9)) (fun _ h_=>h_.1))):p:=h
theorem zq122 (h:p:=by refine zqfQ ?_;exact(Kd.Q_mono (Kd.Q_far (p:=⟨a3,1,none⟩) (Kd.Q_far (p:=⟨a3,0,none⟩) (Kd.Q_types a2.out a0.out (by decide)) (fun _ hk=>hk.2) (.slice e8 a4.length e6)) (fun _ hk=>hk.2) (.slice e9 a5.length e7)) (fun _ h_=>h_.1))):p:=h
theorem zq123 (h:p:=by refine zqfQ ?_;exact(Kd.Q_mono (Kd.Q_far (p:=⟨a3,1,none⟩) (Kd.Q_far (p:=⟨a3,0,none⟩) (Kd.Q_types a2.out a0.out (by decide)) (fun _ hk=>hk.2) (.slice f2 a4.length f0)) (fun _ hk=>hk.2) (.slice f3 a5.length f1)) (fun _ h_=>h_.1))):p:=h
theorem zq130 (h:p:=by refine zqfS ?_;exact(Kd.S_mono (Kd.S_far (p:=⟨a3,1,none⟩) (Kd.S_far (p:=⟨a3,0,none⟩) (Kd.S_types a1.out a0.out (by decide)) (fun _ hk=>hk.2) (.slice b5 a4.length b3)) (fun _ hk=>hk.2) (.slice b6 a5.length b4)) (fun _ h_=>h_.1))):p:=h
theorem zq132 (h:p:=by refine zqfS ?_;exact(Kd.S_mono (Kd.S_far (p:=⟨a3,1,none⟩) (Kd.S_far (p:=⟨a3,0,none⟩) (Kd.S_types a1.out a0.out (by decide)) (fun _ hk=>hk.2) (.slice c3 a4.length b7)) (fun _ hk=>hk.2) (.slice c4 a5.length b8)) (fun _ h_=>h_.1))):p:=h
theorem zq134 (h:p:=by refine zqfS ?_;exact(Kd.S_mono (Kd.S_far (p:=⟨a3,1,none⟩) (Kd.S_far (p:=⟨a3,0,none⟩) (Kd.S_types a1.out a0.out (by decide)) (fun _ hk=>hk.2) (.slice c5 a4.length b9)) (fun _ hk=>hk.2) (.slice c9 a5.length c1)) (fun _ h_=>h_.1))):p:=h
theorem zq137 (h:p:=by refine zqfS ?_;exact(Kd.S_mono (Kd.S_far (p:=⟨a3,1,none⟩) (Kd.S_far (p:=⟨a3,0,none⟩) (Kd.S_types a1.out a0.out (by decide)) (fun _ hk=>hk.2) (.slice d5 a4.length d3)) (fun _ hk=>hk.2) (.slice d6 a5.length d4)) (fun _ h_=>h_.1))):p:=h
theorem zq138 (h:p:=by refine zqfS ?_;exact(Kd.S_mono (Kd.S_far (p:=⟨a3,1,none⟩) (Kd.S_far (p:=⟨a3,0,none⟩) (Kd.S_types a1.out a0.out (by decide)) (fun _ hk=>hk.2) (.slice e2 a4.length e0)) (fun _ hk=>hk.2) (.slice e3 a5.length e1)) (fun _ h_=>h_.1))):p:=h
theorem zq139 (h:p:=by refine zqfS ?_;exact(Kd.S_mono (Kd.S_far (p:=⟨a3,1,none⟩) (Kd.S_far (p:=⟨a3,0,none⟩) (Kd.S_types a1.out a0.out (by decide)) (fun _ hk=>hk.2) (.slice e4 a4.length d8)) (fun _ hk=>hk.2) (.slice e5 a5.length d9)) (fun _ h_=>h_.1))):p:=h
theorem zq141 (h:p:=by refine zqfS ?_;exact(Kd.S_mono (Kd.S_far (p:=⟨a3,1,none⟩) (Kd.S_far (p:=⟨a3,0,none⟩) (Kd.S_types a1.out a0.out (by decide)) (fun _ hk=>hk.2) (.slice e8 a4.length e6)) (fun _ hk=>hk.2) (.slice e9 a5.length e7)) (fun _ h_=>h_.1))):p:=h
theorem zq142 (h:p:=by refine zqfS ?_;exact(Kd.S_mono (Kd.S_far (p:=⟨a3,1,none⟩) (Kd.S_far (p:=⟨a3,0,none⟩) (Kd.S_types a1.out a0.out (by decide)) (fun _ hk=>hk.2) (.slice f2 a4.length f0)) (fun _ hk=>hk.2) (.slice f3 a5.length f1)) (fun _ h_=>h_.1))):p:=h
theorem zq155 (h:p:=by repeat(first|(with_reducible first|exact a3.out|apply IsS110.alloc|apply IsS110.drewN|apply IsS110.drew|apply IsS110.set_1)|exact a3.out)):p:=h
theorem zq163 (h:p:=by repeat(first|(with_reducible first|exact HB.out|apply below_alloc|apply pw_below_drewN|apply below_drew1|refine below_set ?_ (IsS110.ge a0.out)|refine below_set ?_ c2.out)|exact HB.out)):p:=h
theorem zq164 (h:p:=by repeat(first|(with_reducible first|exact HB.out|apply below_alloc|apply pw_below_drewN|apply below_drew1|refine below_set ?_ (IsS110.ge a3.out)|refine below_set ?_ c3.out)|exact HB.out)):p:=h
theorem zq173 (h:p:=by repeat(first|exact(Kd.C_below b0.out HB.out)|(with_reducible refine Kd.C_alloc ?_ _)|(with_reducible refine Kd.C_drewN ?_ _)|(with_reducible refine Kd.C_drew ?_))):p:=h
theorem zq178 (h:p:=by (try simp only [List.map_toArray,List.map_cons,List.map_nil]);first|done|(simp only [c7];rfl)|rfl|(simp only [List.length_drop,List.length_take];rfl)):p:=h
theorem zq229 (h:p:=by repeat(first|exact HUC.out|(refine Kd.C_drewN ?_ _)|(refine Kd.C_drew ?_))):p:=h
theorem zq244 (h:p:=by exact View.alloc HV.out _):p:=h
end
end Go.Proofs.Ytcbjpdaogicibaa
end
section
namespace Go.Proofs.Ytcbjpdaogicibaa.Print
open Go.RowKit Go.Proofs.YtcbjpdaogicibaaW.PrintWords Go.Proofs.YtcbjpdaogicibaaW.PrintLast Go.Proofs.YtcbjpdaogicibaaW.PrintMore
open Oml
section
def inR (n : Nat) (a : Int) : Bool := decide (0 ≤ a) && decide (a < (n : Int))
theorem inR_iff {U : List (List Int)} {a : Int} : inR U.length a = true ↔ In U a := by simp [inR, In]
namespace View
section
variable {W W1 : World} {g : Nat} {U : List (List Int)} {N : List Int} {v : Adr} (h : View W g U N v)
include h
theorem rowsU (L : Logic U N) : Kd.C (Kd.slice 3 (Kd.int .i64)) W (some v.aU) U.length U := by
 have hs:=L.small
 refine⟨rfl,by omega,fun _=>⟨v.aU,rfl,fun j p hp=>?_⟩⟩
 have hj:j<U.length:=(List.getElem?_eq_some_iff.1 hp).1
 have hin:In U (j:Int):=⟨by omega,by omega⟩
 have hpl:p.length=U.length:=by
  have:=L.row j hj
  rw [List.getD_eq_getElem?_getD,hp] at this
  exact this
 refine⟨[.slice (some (v.rU j)) p.length (v.qU j)],rfl,⟨some (v.rU j),v.qU j,rfl,by rw [hpl];have:=h.capR _ hin;simpa using this,?_⟩,fun i u hu=>?_⟩
 ·refine⟨rfl,by omega,fun _=>⟨v.rU j,rfl,fun i q hq=>?_⟩⟩
  have hi:i<p.length:=(List.getElem?_eq_some_iff.1 hq).1
  refine⟨[.int .i64 q],rfl,rfl,fun z u hu=>?_⟩
  have hz:z=0:=by
   rcases z with _|z
   ·rfl
   ·simp at hu
  subst hz
  have hu':Value.int .i64 q=u:=by simpa using hu
  subst hu'
  have:=h.u2 j i hin ⟨by omega,by omega⟩
  simp only [Int.toNat_natCast] at this
  show W.cell? ((v.rU j).add (i*1+0))=_
  rw [Nat.mul_one,Nat.add_zero,this]
  simp [at2,List.getD_eq_getElem?_getD,hp,hq]
 ·have hz:i=0:=by
   rcases i with _|z
   ·rfl
   ·simp at hu
  subst hz
  have hu':Value.slice (some (v.rU j)) p.length (v.qU j)=u:=by simpa using hu
  subst hu'
  have:=h.u j hin
  simp only [Int.toNat_natCast] at this
  show W.cell? (v.aU.add (j*1+0))=_
  rw [Nat.mul_one,Nat.add_zero,this,hpl]
end
end View
end
theorem lit_C (W : World) (e : TypeId) (xs : List Int) (hm : xs.length ≤ 9223372036854775807) :
 Kd.C (Kd.int .i64) (W.alloc (.cells (nums .i64 xs).toArray e)) (some ⟨W.heap.size,0,none⟩) xs.length xs:=
 (Kd.R_reads' (Kd.R_of_own (ok:=fun _=>True) (own_lit W W.heap.size e .i64 xs (Nat.le_refl _) hm) (fun _ _=>trivial))).2.2
theorem isAnswer_eq (U : List (List Int)) (a : Int) : impl_isAnswer.f U a = some (inR U.length a) := by
 unfold impl_isAnswer.f inR
 by_cases h:a≥0
 ·rw [if_pos h];simp [h]
 ·rw [if_neg h];simp;omega
theorem knows_nil (A : Option Addr) (n c : Nat) (w : World) :
 Calls Try.prog 87 #[.pointer none,.slice A n c] w fun e w'=>e= .returned (.bool false)∧Below w.heap.size w w':=by
 go_enter Try.func87,Try.ntmps87
 go_wp2_with fail
 go_ret
 exact⟨rfl,Below.refl _ _⟩
set_option maxHeartbeats 1000000 in
theorem knows_calls (g : Nat) (U : List (List Int)) (N : List Int) (v : Adr) (w : World) (L : Logic U N) (hV : View w g U N v) (A : Option Addr) (c : Nat) (xs : List Int) (n : Nat) (hn : xs.length = n)
 (hr:Kd.C (Kd.int .i64) w A n xs) (hs:n≤100) (b:Bool) (hb:xs.all (inR U.length)=b):
 Calls Try.prog 87 #[.pointer (some ⟨g,0,none⟩),.slice A n c] w fun e w'=>e= .returned (.bool b)∧Below w.heap.size w w':=by
 have hu70:=Try.underlying74
 have HV:=zqm hV
 have HR:=zqm hr
 have HL:=zqm L
 have HN:=zqm hn
 have HBB:=zqm hb
 clear hV hr L hn hb
 go_enter Try.func87,Try.ntmps87
 go_wp2_with fail
 go_loopg [11] (n+1) (fun kq v11 W=> ∃i m:Nat,v11= .int .i64 i∧Aside0 (i+kq=n+1)∧Aside0 (i≤n)∧Aside0 (∀j,j<i→inR U.length (at1 xs j)=true)∧W=w.drewN m)
 case atStart=>exact⟨0,0,rfl,⟨by omega⟩,⟨by omega⟩,⟨fun j hj=>absurd hj (by omega)⟩,rfl⟩
 case round=>
  obtain⟨i,m,rfl,HK,HK2,HS,rfl⟩:=hrel
  cases gk with
  |zero=>exact absurd HK.out (by have:=HK2.out;omega)
  |succ kn=>
  by_cases hlt:i<n
  ·have hlt':decide (i<n)=true:=decide_eq_true hlt
   have HLT:=zqm hlt
   obtain⟨ad,e,hx⟩:=ints_cell HR.out i (by omega) (by omega)
   subst e
   simp only [Int.toNat_natCast] at hx
   have p1:(i<n)=True:=eq_true hlt
   have h0:=HV.out.f0
   have HUC:=zqm (HV.out.rowsU HL.out)
   clear hlt
   cases hi:inR U.length (at1 xs i) with
   |true=>
    have HI:=zqm hi
    have HA:=zqm (show impl_isAnswer.f U (at1 xs i)=some true by rw [isAnswer_eq,hi])
    clear hi
    go_wp2_with (go_at_call 135;(with_reducible refine(impl_isAnswer.calls _ _ U (at1 xs i) true _ ?s1 ?s2 HA.out).mono ?_);(case s1=> exact zq229);(case s2=>exact HV.out.capU);rintro e w' ⟨rfl,⟨nd,rfl⟩⟩)
    go_roundg kn
    case measure=>omega
    case rel=>exact⟨i+1,_,by first|go_num|(rw [wrap_small (by omega) (by have:=HLT.out;omega)];go_num),⟨by have:=HK.out;omega⟩,⟨by have:=HLT.out;omega⟩,⟨fun j hj=>by
     rcases Nat.lt_or_ge j i with h|h
     ·exact HS.out j h
     ·obtain rfl:j=i:=by omega
      exact HI.out⟩,rfl⟩
   |false=>
    have HI:=zqm hi
    have HA:=zqm (show impl_isAnswer.f U (at1 xs i)=some false by rw [isAnswer_eq,hi])
    clear hi
    have hbf:b=false:=by
     rw [← HBB.out,Bool.eq_false_iff]
     intro h
     rw [List.all_eq_true] at h
     have hin:i<xs.length:=by have:=HN.out;have:=HLT.out;omega
     have:=h (xs[i]'hin) (List.getElem_mem _)
     have h2:=HI.out
     rw [show at1 xs i=xs[i]'hin by simp [at1,List.getD_eq_getElem?_getD,List.getElem?_eq_getElem hin],this] at h2
     exact absurd h2 (by simp)
    subst hbf
    go_wp2_with (go_at_call 135;(with_reducible refine(impl_isAnswer.calls _ _ U (at1 xs i) false _ ?s1 ?s2 HA.out).mono ?_);(case s1=> exact zq229);(case s2=>exact HV.out.capU);rintro e w' ⟨rfl,⟨nd,rfl⟩⟩)
    go_ret
    exact⟨rfl,zq193⟩
  ·have hlt':decide (i<n)=false:=decide_eq_false hlt
   obtain rfl:i=n:=by have:=HK2.out;omega
   have hbt:b=true:=by
    rw [← HBB.out,List.all_eq_true]
    intro x hx
    obtain⟨j,hj,rfl⟩:=List.mem_iff_getElem.1 hx
    have:=HS.out j (by have:=HN.out;omega)
    rwa [show at1 xs j=xs[j]'hj by simp [at1,List.getD_eq_getElem?_getD,List.getElem?_eq_getElem hj]] at this
   subst hbt
   clear hlt
   go_wp2_with fail
   go_ret
   exact⟨rfl,zq193⟩
def impl_ValueOf.f (l0_0 : List (List Int)) (l0_1 : List Int) (a1 : ByteArray) (a2 : Int) (a3 : Int) (a4 : Int) : Option (Int) := some (match fmOf a1 with
 |none=> -1
 |some f=>if logicB l0_0 l0_1=true then(if [a2,a3,a4].all (inR l0_0.length)=true then valF l0_0 l0_1 a2 a3 a4 f else -1) else -1)
set_option maxHeartbeats 4000000 in
theorem impl_ValueOf.calls (A0_0 : Option Addr) (c0_0 : Nat) (l0_0 : List (List Int)) (A0_1 : Option Addr) (c0_1 : Nat) (l0_1 : List Int) (a1 : ByteArray) (a2 : Int) (a3 : Int) (a4 : Int) (r : Int) (w : World) (hr0_0 : Kd.C (Kd.slice 3 (Kd.int .i64)) w A0_0 l0_0.length l0_0) (hc0_0 : l0_0.length ≤ c0_0) (hr0_1 : Kd.C (Kd.int .i64) w A0_1 l0_1.length l0_1) (hc0_1 : l0_1.length ≤ c0_1) (h : impl_ValueOf.f l0_0 l0_1 a1 a2 a3 a4 = some r) :
 Calls Try.prog 40 #[.agg #[.slice A0_0 l0_0.length c0_0,.slice A0_1 l0_1.length c0_1],.string a1,.int .i64 a2,.int .i64 a3,.int .i64 a4] w fun e w'=>e= .returned (.int .i64 r)∧Below w.heap.size w w':=by
 obtain⟨k,hF⟩:=told_facts l0_0
 have hu30:=Try.underlying26
 have hu70:=Try.underlying74
 have HF:=zqm hF
 have HR0:=zqm hr0_0
 have HC0:=zqm hc0_0
 have HR1:=zqm hr0_1
 have HC1:=zqm hc0_1
 simp only [impl_ValueOf.f,Option.some.injEq] at h
 clear hr0_0 hc0_0 hr0_1 hc0_1 hF
 have hu87:=Try.underlying97
 cases hfm:fmOf a1 with
 |none=>
  rw [hfm] at h
  have hr_:(-1)=r:=by simpa using h
  subst hr_
  have HFM:=zqm hfm
  cases hL:logicB l0_0 l0_1 with
  |false=>
   have HLB:=zqm hL
   clear h hL hfm
   go_enter Try.func40,Try.ntmps40
   go_wp2_with (first|((with_reducible refine gate_dst (N:=5) rfl ?_);refine box_event ?hg (N:=5) ?hd (cs:= #[.slice A0_0 l0_0.length c0_0,.slice A0_1 l0_1.length c0_1]) (t:=26) ?hr ?_;(case hd=>rfl);(case hg=>rfl);(case hr=> exact zq17);intro gb hg_ w1 hbox hb;have HB:=zqm hb;have hx0:w1.cell? ⟨gb,0,none⟩=some (.slice A0_0 l0_0.length c0_0):=(blk_cell hbox 0).trans rfl;have hx1:w1.cell? ⟨gb,1,none⟩=some (.slice A0_1 l0_1.length c0_1):=(blk_cell hbox 1).trans rfl;have HX:=zqm hbox;clear hbox hb hg_)|(go_at_call 70;(with_reducible refine(told_n k _ _ l0_0 _ _ l0_1 _ ?s1 ?s2 ?s3 ?s4 HF.out HLB.out).mono ?_);(case s1=> exact zq61);(case s2=>exact HC0.out);(case s3=> exact zq64);(case s4=>exact HC1.out);rintro e w2 ⟨rfl,hb⟩;have HB2:=zqm (below_step HB.out hb);clear hb hx0 hx1 HX HB)|(go_at_call 103;(with_reducible refine(formulaOf_calls a1 _).mono ?_);rintro e w3 ⟨hb,hm⟩;rw [HFM.out] at hm;obtain rfl:=hm;have HB3:=zqm (below_step HB2.out hb);clear hb))
   go_ret
   exact⟨rfl,HB3.out⟩
  |true=>
   have HLB:=zqm hL
   clear h hL hfm
   go_enter Try.func40,Try.ntmps40
   go_wp2_with (first|((with_reducible refine gate_dst (N:=5) rfl ?_);refine box_event ?hg (N:=5) ?hd (cs:= #[.slice A0_0 l0_0.length c0_0,.slice A0_1 l0_1.length c0_1]) (t:=26) ?hr ?_;(case hd=>rfl);(case hg=>rfl);(case hr=> exact zq17);intro gb hg_ w1 hbox hb;have HB:=zqm hb;have hx0:w1.cell? ⟨gb,0,none⟩=some (.slice A0_0 l0_0.length c0_0):=(blk_cell hbox 0).trans rfl;have hx1:w1.cell? ⟨gb,1,none⟩=some (.slice A0_1 l0_1.length c0_1):=(blk_cell hbox 1).trans rfl;have HX:=zqm hbox;clear hbox hb hg_)|(go_at_call 70;(with_reducible refine(told_y k _ _ l0_0 _ _ l0_1 _ ?s1 ?s2 ?s3 ?s4 HF.out HLB.out).mono ?_);(case s1=> exact zq61);(case s2=>exact HC0.out);(case s3=> exact zq64);(case s4=>exact HC1.out);rintro e w2 ⟨g,v,rfl,hv,hge,hb⟩;have HB2:=zqm (below_step HB.out hb);have HV:=zqm hv;clear hv hge hb hx0 hx1 HX HB)|(go_at_call 103;(with_reducible refine(formulaOf_calls a1 _).mono ?_);rintro e w3 ⟨hb,hm⟩;rw [HFM.out] at hm;obtain rfl:=hm;have HB3:=zqm (below_step HB2.out hb);clear hb))
   go_ret
   exact⟨rfl,HB3.out⟩
 |some f=>
  have HOK:=zqm (fmOf_ok hfm)
  rw [hfm] at h
  have HFM:=zqm hfm
  cases hL:logicB l0_0 l0_1 with
  |false=>
   rw [hL] at h
   have hr_:(-1)=r:=by simpa using h
   subst hr_
   have HLB:=zqm hL
   clear h hL hfm
   go_enter Try.func40,Try.ntmps40
   go_wp2_with (first|((with_reducible refine gate_dst (N:=5) rfl ?_);refine box_event ?hg (N:=5) ?hd (cs:= #[.slice A0_0 l0_0.length c0_0,.slice A0_1 l0_1.length c0_1]) (t:=26) ?hr ?_;(case hd=>rfl);(case hg=>rfl);(case hr=> exact zq17);intro gb hg_ w1 hbox hb;have HB:=zqm hb;have hx0:w1.cell? ⟨gb,0,none⟩=some (.slice A0_0 l0_0.length c0_0):=(blk_cell hbox 0).trans rfl;have hx1:w1.cell? ⟨gb,1,none⟩=some (.slice A0_1 l0_1.length c0_1):=(blk_cell hbox 1).trans rfl;have HX:=zqm hbox;clear hbox hb hg_)|(go_at_call 70;(with_reducible refine(told_n k _ _ l0_0 _ _ l0_1 _ ?s1 ?s2 ?s3 ?s4 HF.out HLB.out).mono ?_);(case s1=> exact zq61);(case s2=>exact HC0.out);(case s3=> exact zq64);(case s4=>exact HC1.out);rintro e w2 ⟨rfl,hb⟩;have HB2:=zqm (below_step HB.out hb);clear hb hx0 hx1 HX HB)|(go_at_call 103;(with_reducible refine(formulaOf_calls a1 _).mono ?_);rintro e w3 ⟨hb,hm⟩;rw [HFM.out] at hm;obtain⟨pf,rfl,hf⟩:=hm;have HB3:=zqm (below_step HB2.out hb);have HF3:=zqm hf;clear hb hf)|(go_at_call 87;(with_reducible refine(knows_nil _ _ _ _).mono ?_);rintro e w4 ⟨rfl,hb⟩;have HB4:=zqm (below_step (by repeat(first|exact HB3.out|apply below_alloc|apply pw_below_drewN|apply below_drew1)) hb);clear hb))
   go_ret
   exact⟨rfl,HB4.out⟩
  |true=>
   have HLB:=zqm hL
   have HLg:=zqm (logicB_iff.1 hL)
   cases hin: [a2,a3,a4].all (inR l0_0.length) with
   |false=>
    rw [hL] at h
    simp only [hin] at h
    have hr_:(-1)=r:=by simpa using h
    subst hr_
    have HIN:=zqm hin
    clear h hL hin hfm
    go_enter Try.func40,Try.ntmps40
    go_wp2_with (first|((with_reducible refine gate_dst (N:=5) rfl ?_);refine box_event ?hg (N:=5) ?hd (cs:= #[.slice A0_0 l0_0.length c0_0,.slice A0_1 l0_1.length c0_1]) (t:=26) ?hr ?_;(case hd=>rfl);(case hg=>rfl);(case hr=> exact zq17);intro gb hg_ w1 hbox hb;have HB:=zqm hb;have hx0:w1.cell? ⟨gb,0,none⟩=some (.slice A0_0 l0_0.length c0_0):=(blk_cell hbox 0).trans rfl;have hx1:w1.cell? ⟨gb,1,none⟩=some (.slice A0_1 l0_1.length c0_1):=(blk_cell hbox 1).trans rfl;have HX:=zqm hbox;clear hbox hb hg_)|(go_at_call 70;(with_reducible refine(told_y k _ _ l0_0 _ _ l0_1 _ ?s1 ?s2 ?s3 ?s4 HF.out HLB.out).mono ?_);(case s1=> exact zq61);(case s2=>exact HC0.out);(case s3=> exact zq64);(case s4=>exact HC1.out);rintro e w2 ⟨g,v,rfl,hv,hge,hb⟩;have HB2:=zqm (below_step HB.out hb);have HV:=zqm hv;clear hv hge hb hx0 hx1 HX HB)|(go_at_call 103;(with_reducible refine(formulaOf_calls a1 _).mono ?_);rintro e w3 ⟨hb,hm⟩;rw [HFM.out] at hm;obtain⟨pf,rfl,hf⟩:=hm;have HB3:=zqm (below_step HB2.out hb);have HF3:=zqm hf;have HV3:=zqm (View.below HV.out hb);clear hb hf)|(go_at_call 87;(with_reducible refine(knows_calls g l0_0 l0_1 v _ HLg.out ?s1 _ _ [a2,a3,a4] 3 rfl ?s2 (by omega) false HIN.out).mono ?_);(case s1=>exact View.alloc HV3.out _);(case s2=>exact lit_C _ _ [a2,a3,a4] (by simp));rintro e w4 ⟨rfl,hb⟩;have HB4:=zqm (below_step (below_alloc HB3.out _) hb);have HV4:=zqm (View.below (View.alloc HV3.out _) hb);have HF4:=zqm (FAt.below hb _ _ (FAt.below (below_alloc (Below.refl _ _) _) _ _ HF3.out));clear hb))
    go_ret
    exact⟨rfl,HB4.out⟩
   |true=>
    rw [hL] at h
    simp only [hin] at h
    have hr_:valF l0_0 l0_1 a2 a3 a4 f=r:=by simpa using h
    subst hr_
    have HIN:=zqm hin
    have hin2:=hin
    simp only [List.all_cons,List.all_nil,Bool.and_true,Bool.and_eq_true,inR_iff] at hin2
    have Ia2:=zqm hin2.1
    have Ia3:=zqm hin2.2.1
    have Ia4:=zqm hin2.2.2
    clear h hL hin hin2 hfm
    go_enter Try.func40,Try.ntmps40
    go_wp2_with (first|((with_reducible refine gate_dst (N:=5) rfl ?_);refine box_event ?hg (N:=5) ?hd (cs:= #[.slice A0_0 l0_0.length c0_0,.slice A0_1 l0_1.length c0_1]) (t:=26) ?hr ?_;(case hd=>rfl);(case hg=>rfl);(case hr=> exact zq17);intro gb hg_ w1 hbox hb;have HB:=zqm hb;have hx0:w1.cell? ⟨gb,0,none⟩=some (.slice A0_0 l0_0.length c0_0):=(blk_cell hbox 0).trans rfl;have hx1:w1.cell? ⟨gb,1,none⟩=some (.slice A0_1 l0_1.length c0_1):=(blk_cell hbox 1).trans rfl;have HX:=zqm hbox;clear hbox hb hg_)|(go_at_call 70;(with_reducible refine(told_y k _ _ l0_0 _ _ l0_1 _ ?s1 ?s2 ?s3 ?s4 HF.out HLB.out).mono ?_);(case s1=> exact zq61);(case s2=>exact HC0.out);(case s3=> exact zq64);(case s4=>exact HC1.out);rintro e w2 ⟨g,v,rfl,hv,hge,hb⟩;have HB2:=zqm (below_step HB.out hb);have HV:=zqm hv;clear hv hge hb hx0 hx1 HX HB)|(go_at_call 103;(with_reducible refine(formulaOf_calls a1 _).mono ?_);rintro e w3 ⟨hb,hm⟩;rw [HFM.out] at hm;obtain⟨pf,rfl,hf⟩:=hm;have HB3:=zqm (below_step HB2.out hb);have HF3:=zqm hf;have HV3:=zqm (View.below HV.out hb);clear hb hf)|(go_at_call 87;(with_reducible refine(knows_calls g l0_0 l0_1 v _ HLg.out ?s1 _ _ [a2,a3,a4] 3 rfl ?s2 (by omega) true HIN.out).mono ?_);(case s1=>exact View.alloc HV3.out _);(case s2=>exact lit_C _ _ [a2,a3,a4] (by simp));rintro e w4 ⟨rfl,hb⟩;have HB4:=zqm (below_step (below_alloc HB3.out _) hb);have HV4:=zqm (View.below (View.alloc HV3.out _) hb);have HF4:=zqm (FAt.below hb _ _ (FAt.below (below_alloc (Below.refl _ _) _) _ _ HF3.out));clear hb)|(go_at_call 104;(with_reducible refine(value_calls g l0_0 l0_1 v HLg.out a2 a3 a4 Ia2.out Ia3.out Ia4.out f pf _ HV4.out HF4.out HOK.out).mono ?_);rintro e w5 ⟨rfl,hb⟩;have HB5:=zqm (below_step HB4.out hb);clear hb))
    go_ret
    exact⟨rfl,HB5.out⟩
end Go.Proofs.Ytcbjpdaogicibaa.Print
end
section
namespace Go.Proofs.Ytcbjpdaogicibaa.Print
open Go.RowKit Go.Proofs.YtcbjpdaogicibaaW.PrintWords Go.Proofs.YtcbjpdaogicibaaW.PrintLast Go.Proofs.YtcbjpdaogicibaaW.PrintMore
def spec_l2Both.f (k : Nat) (l0_0 : List (List Int)) (l0_1 : List Int) (a1 : Int) (a2 : Int) : Option (Bool) := (spec_LogicOk.f k l0_0 l0_1).bind fun t619 => (if t619 = true then ((spec_l1In.f a1 0 (wrap64 ((l0_1.length : Int) - 1))).bind fun t620 => (if t620 = true then ((spec_l1In.f a2 0 (wrap64 ((l0_1.length : Int) - 1))).bind fun t621 => (some t621)) else (some false))) else (some false))
set_option maxHeartbeats 8000000 in
set_option maxRecDepth 100000 in
theorem spec_l2Both.calls (k : Nat) (A0_0 : Option Addr) (c0_0 : Nat) (l0_0 : List (List Int)) (A0_1 : Option Addr) (c0_1 : Nat) (l0_1 : List Int) (a1 : Int) (a2 : Int) (r : Bool) (w : World) (hr0_0 : Kd.C (Kd.slice 3 (Kd.int .i64)) w A0_0 l0_0.length l0_0) (hc0_0 : l0_0.length ≤ c0_0) (hr0_1 : Kd.C (Kd.int .i64) w A0_1 l0_1.length l0_1) (hc0_1 : l0_1.length ≤ c0_1) (h : spec_l2Both.f k l0_0 l0_1 a1 a2 = some r) :
  Calls Try.prog 106 #[.agg #[.slice A0_0 l0_0.length c0_0, .slice A0_1 l0_1.length c0_1], .int .i64 a1, .int .i64 a2] w fun e w' => e = .returned (.bool r) ∧ Below w.heap.size w w' := by
 have hu26:=Try.underlying26;have a8:=zqm hr0_0;have a6:=zqm hc0_0;clear hr0_0 hc0_0;have a9:=zqm hr0_1;have a7:=zqm hc0_1;clear hr0_1 hc0_1;have HB:=zqm (Below.refl w.heap.size w);have H:((spec_LogicOk.f k l0_0 l0_1).bind fun b0=>(if b0=true then((spec_l1In.f a1 0 (wrap64 ((l0_1.length:Int) - 1))).bind fun b1=>(if b1=true then((spec_l1In.f a2 0 (wrap64 ((l0_1.length:Int) - 1))).bind fun b2=>(some b2)) else(some false))) else(some false)))=some r:=h;clear h;replace H:=Option.bind_eq_some_iff.mp H;obtain⟨b0,b4,H⟩:=H;(try dsimp only at H);have A4:=zqm b4;clear b4
 by_cases c5:b0=true
 ·subst c5;rw [if_pos rfl] at H;replace H:=Option.bind_eq_some_iff.mp H;obtain⟨b1,b5,H⟩:=H;(try dsimp only at H);have A6:=zqm b5;clear b5
  by_cases c7:b1=true
  ·subst c7;rw [if_pos rfl] at H;replace H:=Option.bind_eq_some_iff.mp H;obtain⟨b2,b6,H⟩:=H;(try dsimp only at H);have A8:=zqm b6;clear b6;obtain rfl:=Option.some.inj H
   go_enter Try.func106,Try.ntmps106
   go_wp2_with (first|((with_reducible refine gate_dst (N:=3) rfl ?_);(try(refine gate_guard (by rfl) ?_;dsimp only));refine box_event ?hg (N:=3) ?hd (cs:= #[.slice A0_0 l0_0.length c0_0,.slice A0_1 l0_1.length c0_1]) (t:=26) ?hr ?_;(case hd=>rfl);(case hg=>rfl);(case hr=> exact zq17);intro a3 hg w9 hbox hb;have a5:=zqm (below_step zq0 hb);have a0:=zqm (hbox);have b3:=zqm ((by rw [hg];exact(below_size zq0):w.heap.size≤a3));have a4:=zqm ((by rw [hg];exact(below_size zq0):w.heap.size≤a3));clear HB;have HB:=a5;clear a5 hb hbox hg;have c1:w9.cell? ⟨a3,0,none⟩=some (.slice A0_0 l0_0.length c0_0):=(blk_cell a0.out 0).trans rfl;have c2:w9.cell? ⟨a3,1,none⟩=some (.slice A0_1 l0_1.length c0_1):=(blk_cell a0.out 1).trans rfl;have d3:=blk_frozen a0.out 0;have d4:=blk_frozen a0.out 1)|((with_reducible refine gate_callee (f:=17) rfl ?_);refine goesL_ (some 8) rfl rfl Try.func17 zqk rfl #[.agg #[.slice A0_0 l0_0.length c0_0,.slice A0_1 l0_1.length c0_1]] rfl zq1 ?_;(with_reducible refine(spec_LogicOk.calls k _ _ l0_0 _ _ l0_1 true _ ?side1 ?side2 ?side3 ?side4 A4.out).mono ?_);(case side1=> exact zq65);(case side2=>exact a6.out);(case side3=> exact zq66);(case side4=>exact a7.out);rintro e b7 ⟨rfl,hb⟩;refine⟨_,rfl,?_⟩;replace a0:=zqm (blk_below (g:=a3) (o:= .cells #[.slice A0_0 l0_0.length c0_0,.slice A0_1 l0_1.length c0_1] 26 (0,0)) (zqe a0.out) hb);replace HB:=zqm (below_step zq19 hb);clear hb;have c3:b7.cell? ⟨a3,0,none⟩=some (.slice A0_0 l0_0.length c0_0):=(blk_cell a0.out 0).trans rfl;have c4:b7.cell? ⟨a3,1,none⟩=some (.slice A0_1 l0_1.length c0_1):=(blk_cell a0.out 1).trans rfl;have d5:=blk_frozen a0.out 0;have d6:=blk_frozen a0.out 1)|(go_at_call 78;(with_reducible refine(spec_l1In.calls a1 0 (wrap64 ((l0_1.length:Int) - 1)) true _ A6.out).mono ?_);rintro e w' ⟨rfl,⟨nd,rfl⟩⟩)|(go_at_call 78;(with_reducible refine(spec_l1In.calls a2 0 (wrap64 ((l0_1.length:Int) - 1)) b2 _ A8.out).mono ?_);rintro e w' ⟨rfl,⟨nd,rfl⟩⟩))
   go_ret
   exact⟨zq13,zq19⟩
  ·replace c7:=Bool.eq_false_iff.mpr c7;subst c7;rw [if_neg (show¬(false=true) by decide)] at H;obtain rfl:=Option.some.inj H
   go_enter Try.func106,Try.ntmps106
   go_wp2_with (first|((with_reducible refine gate_dst (N:=3) rfl ?_);(try(refine gate_guard (by rfl) ?_;dsimp only));refine box_event ?hg (N:=3) ?hd (cs:= #[.slice A0_0 l0_0.length c0_0,.slice A0_1 l0_1.length c0_1]) (t:=26) ?hr ?_;(case hd=>rfl);(case hg=>rfl);(case hr=> exact zq17);intro a3 hg b8 hbox hb;have a5:=zqm (below_step zq0 hb);have a0:=zqm (hbox);have b3:=zqm ((by rw [hg];exact(below_size zq0):w.heap.size≤a3));have a4:=zqm ((by rw [hg];exact(below_size zq0):w.heap.size≤a3));clear HB;have HB:=a5;clear a5 hb hbox hg;have c6:b8.cell? ⟨a3,0,none⟩=some (.slice A0_0 l0_0.length c0_0):=(blk_cell a0.out 0).trans rfl;have c8:b8.cell? ⟨a3,1,none⟩=some (.slice A0_1 l0_1.length c0_1):=(blk_cell a0.out 1).trans rfl;have d7:=blk_frozen a0.out 0;have d8:=blk_frozen a0.out 1)|((with_reducible refine gate_callee (f:=17) rfl ?_);refine goesL_ (some 8) rfl rfl Try.func17 zqk rfl #[.agg #[.slice A0_0 l0_0.length c0_0,.slice A0_1 l0_1.length c0_1]] rfl zq1 ?_;(with_reducible refine(spec_LogicOk.calls k _ _ l0_0 _ _ l0_1 true _ ?side1 ?side2 ?side3 ?side4 A4.out).mono ?_);(case side1=> exact zq65);(case side2=>exact a6.out);(case side3=> exact zq66);(case side4=>exact a7.out);rintro e b9 ⟨rfl,hb⟩;refine⟨_,rfl,?_⟩;replace a0:=zqm (blk_below (g:=a3) (o:= .cells #[.slice A0_0 l0_0.length c0_0,.slice A0_1 l0_1.length c0_1] 26 (0,0)) (zqe a0.out) hb);replace HB:=zqm (below_step zq19 hb);clear hb;have c9:b9.cell? ⟨a3,0,none⟩=some (.slice A0_0 l0_0.length c0_0):=(blk_cell a0.out 0).trans rfl;have d0:b9.cell? ⟨a3,1,none⟩=some (.slice A0_1 l0_1.length c0_1):=(blk_cell a0.out 1).trans rfl;have d9:=blk_frozen a0.out 0;have e0:=blk_frozen a0.out 1)|(go_at_call 78;(with_reducible refine(spec_l1In.calls a1 0 (wrap64 ((l0_1.length:Int) - 1)) false _ A6.out).mono ?_);rintro e w' ⟨rfl,⟨nd,rfl⟩⟩))
   go_ret
   exact⟨zq13,zq19⟩
 ·replace c5:=Bool.eq_false_iff.mpr c5;subst c5;rw [if_neg (show¬(false=true) by decide)] at H;obtain rfl:=Option.some.inj H
  go_enter Try.func106,Try.ntmps106
  go_wp2_with (first|((with_reducible refine gate_dst (N:=3) rfl ?_);(try(refine gate_guard (by rfl) ?_;dsimp only));refine box_event ?hg (N:=3) ?hd (cs:= #[.slice A0_0 l0_0.length c0_0,.slice A0_1 l0_1.length c0_1]) (t:=26) ?hr ?_;(case hd=>rfl);(case hg=>rfl);(case hr=> exact zq17);intro a3 hg c0 hbox hb;have a5:=zqm (below_step zq0 hb);have a0:=zqm (hbox);have b3:=zqm ((by rw [hg];exact(below_size zq0):w.heap.size≤a3));have a4:=zqm ((by rw [hg];exact(below_size zq0):w.heap.size≤a3));clear HB;have HB:=a5;clear a5 hb hbox hg;have d1:c0.cell? ⟨a3,0,none⟩=some (.slice A0_0 l0_0.length c0_0):=(blk_cell a0.out 0).trans rfl;have d2:c0.cell? ⟨a3,1,none⟩=some (.slice A0_1 l0_1.length c0_1):=(blk_cell a0.out 1).trans rfl;have e1:=blk_frozen a0.out 0;have e2:=blk_frozen a0.out 1)|((with_reducible refine gate_callee (f:=17) rfl ?_);refine goesL_ (some 8) rfl rfl Try.func17 zqk rfl #[.agg #[.slice A0_0 l0_0.length c0_0,.slice A0_1 l0_1.length c0_1]] rfl zq1 ?_;(with_reducible refine(spec_LogicOk.calls k _ _ l0_0 _ _ l0_1 false _ ?side1 ?side2 ?side3 ?side4 A4.out).mono ?_);(case side1=> exact zq65);(case side2=>exact a6.out);(case side3=> exact zq66);(case side4=>exact a7.out);rintro e e3 ⟨rfl,hb⟩;refine⟨_,rfl,?_⟩;replace a0:=zqm (blk_below (g:=a3) (o:= .cells #[.slice A0_0 l0_0.length c0_0,.slice A0_1 l0_1.length c0_1] 26 (0,0)) (zqe a0.out) hb);replace HB:=zqm (below_step zq19 hb);clear hb))
  go_ret
  exact⟨zq13,zq19⟩
end Go.Proofs.Ytcbjpdaogicibaa.Print
end
section
namespace Go.Proofs.Ytcbjpdaogicibaa.Print
open Go.RowKit Go.Proofs.YtcbjpdaogicibaaW.PrintWords Go.Proofs.YtcbjpdaogicibaaW.PrintLast Go.Proofs.YtcbjpdaogicibaaW.PrintMore
open Oml
theorem spec_l2Both.ev (U : List (List Int)) (N : List Int) (a b : Int) : Ev (fun k => spec_l2Both.f k U N a b) (logicB U N && (inR U.length a && inR U.length b)) := by
 unfold spec_l2Both.f
 refine Ev.bind (spec_LogicOk.ev U N) ?_
 cases hl:logicB U N with
 |false=>
  repeat(with_reducible first|refine Ev.ip ?_|refine Ev.iq ?_)
  exact Ev.now _
 |true=>
  have L:=logicB_iff.1 hl
  have hs:=L.small
  have hp:=L.pos
  have hln:=L.len
  have e: ∀c:Int,(decide (0≤c) && decide (c≤wrap64 ((N.length:Int) - 1)))=inR U.length c:=by
   intro c
   unfold inR
   rw [wrap_small (by omega) (by omega)]
   congr 1
   rw [decide_eq_decide];omega
  repeat(with_reducible first|refine Ev.ip ?_|refine Ev.iq ?_)
  simp only [l1In_eq,e]
  refine Ev.pbind rfl ?_
  cases ha:inR U.length a with
  |false=>
   repeat(with_reducible first|refine Ev.ip ?_|refine Ev.iq ?_)
   exact Ev.eq (Ev.now _) (by simp)
  |true=>
   repeat(with_reducible first|refine Ev.ip ?_|refine Ev.iq ?_)
   exact Ev.eq (Ev.now _) (by simp)
end Go.Proofs.Ytcbjpdaogicibaa.Print
end
section
namespace Go.Proofs.Ytcbjpdaogicibaa.Print
open Go.RowKit Go.Proofs.YtcbjpdaogicibaaW.PrintWords Go.Proofs.YtcbjpdaogicibaaW.PrintLast Go.Proofs.YtcbjpdaogicibaaW.PrintMore
def spec_ValueOf.j0 : Nat → ByteArray → Int → Int → Int → Bool → List (List Int) → List Int → Option (Int)
 | 0, _, _, _, _, _, _, _ => none
 | k + 1, x1, x2, x3, x4, x29, x888000, x888001 => if x29 = true then (some (-1)) else ((spec_NoOf.f k x888000 x888001).bind fun t891 => ((spec_l10Value.f k x888000 x888001 x1 x2 x3 x4 t891).bind fun t892 => (some t892)))
def spec_ValueOf.f (k : Nat) (l0_0 : List (List Int)) (l0_1 : List Int) (a1 : ByteArray) (a2 : Int) (a3 : Int) (a4 : Int) : Option (Int) := (spec_FormulaOk.f k a1).bind fun t888 => (if t888 = true then ((spec_l2Both.f k l0_0 l0_1 a2 a3).bind fun t889 => (if t889 = true then ((spec_l1In.f a4 0 (wrap64 ((l0_1.length : Int) - 1))).bind fun t890 => (spec_ValueOf.j0 k a1 a2 a3 a4 (!t890) l0_0 l0_1)) else (spec_ValueOf.j0 k a1 a2 a3 a4 true l0_0 l0_1))) else (spec_ValueOf.j0 k a1 a2 a3 a4 true l0_0 l0_1))
def spec_ValueOf.T3 : Bool × List (List Nat × List Nat) := (true, [([], []), ([], []), ([], []), ([], []), ([], []), ([], []), ([5], [5]), ([0, 1, 2, 3, 4, 6, 6], [0, 1, 2, 3, 4, 6]), ([7, 7, 0, 1, 2, 3, 4, 5, 6, 7], [7])])
def spec_ValueOf.B3 : List Nat := [0, 0, 0, 0, 0, 0, 32, 127, 255]
theorem spec_ValueOf.tab3 : rtab .any (opsOf Try.f41 3) = spec_ValueOf.T3 := by kernel_rfl
theorem spec_ValueOf.bits3 : waitsOk spec_ValueOf.T3.2 spec_ValueOf.B3 = true := by kernel_rfl
set_option maxHeartbeats 8000000 in
set_option maxRecDepth 100000 in
theorem spec_ValueOf.calls (k : Nat) (A0_0 : Option Addr) (c0_0 : Nat) (l0_0 : List (List Int)) (A0_1 : Option Addr) (c0_1 : Nat) (l0_1 : List Int) (a1 : ByteArray) (a2 : Int) (a3 : Int) (a4 : Int) (r : Int) (w : World) (hr0_0 : Kd.C (Kd.slice 3 (Kd.int .i64)) w A0_0 l0_0.length l0_0) (hc0_0 : l0_0.length ≤ c0_0) (hr0_1 : Kd.C (Kd.int .i64) w A0_1 l0_1.length l0_1) (hc0_1 : l0_1.length ≤ c0_1) (h : spec_ValueOf.f k l0_0 l0_1 a1 a2 a3 a4 = some r) :
  Calls Try.prog 41 #[.agg #[.slice A0_0 l0_0.length c0_0, .slice A0_1 l0_1.length c0_1], .string a1, .int .i64 a2, .int .i64 a3, .int .i64 a4] w fun e w' => e = .returned (.int .i64 r) ∧ Below w.heap.size w w' := by
 have hu26:=Try.underlying26;have a9:=zqm hr0_0;have a7:=zqm hc0_0;clear hr0_0 hc0_0;have b0:=zqm hr0_1;have a8:=zqm hc0_1;clear hr0_1 hc0_1;have HB:=zqm (Below.refl w.heap.size w);have H:((spec_FormulaOk.f k a1).bind fun b4=>(if b4=true then((spec_l2Both.f k l0_0 l0_1 a2 a3).bind fun b5=>(if b5=true then((spec_l1In.f a4 0 (wrap64 ((l0_1.length:Int) - 1))).bind fun b2=>(spec_ValueOf.j0 k a1 a2 a3 a4 (!b2) l0_0 l0_1)) else(spec_ValueOf.j0 k a1 a2 a3 a4 true l0_0 l0_1))) else(spec_ValueOf.j0 k a1 a2 a3 a4 true l0_0 l0_1)))=some r:=h;clear h;have d7:=zqm H;clear H
 go_enter Try.func41,Try.ntmps41
 go_upto_region 1 with (first|((with_reducible refine gate_dst (N:=5) rfl ?_);(try(refine gate_guard (by rfl) ?_;dsimp only));refine box_event ?hg (N:=5) ?hd (cs:= #[.slice A0_0 l0_0.length c0_0,.slice A0_1 l0_1.length c0_1]) (t:=26) ?hr ?_;(case hd=>rfl);(case hg=>rfl);(case hr=> exact zq17);intro a5 hg w7 hbox hb;have e1:=zqm (below_step zq0 hb);have a0:=zqm (hbox);have e8:=zqm ((by rw [hg];exact(below_size zq0):w.heap.size≤a5));have a6:=zqm ((by rw [hg];exact(below_size zq0):w.heap.size≤a5));clear HB;have HB:=e1;clear e1 hb hbox hg))
 (try simp only [Act.put,List.setIfInBounds_toArray,List.set_cons_zero,List.set_cons_succ])
 go_cut [29] (fun e7 wc=> ∃(kq:Nat) (b1:Bool),e7= .bool b1∧Aside0 (spec_ValueOf.j0 kq a1 a2 a3 a4 b1 l0_0 l0_1=some r)∧Aside0 (kq≤k)∧Aside0 (wc.heap[a5]? =some (.cells #[(.slice A0_0 l0_0.length c0_0),(.slice A0_1 l0_1.length c0_1)] 26 (0,0)))∧Aside0 (Below w.heap.size w wc))
 case first=>
  have H:=d7.out;clear d7;replace H:=Option.bind_eq_some_iff.mp H;obtain⟨b4,d9,H⟩:=H;(try dsimp only at H);have A8:=zqm d9;clear d9
  by_cases c9:b4=true
  ·subst c9;rw [if_pos rfl] at H;replace H:=Option.bind_eq_some_iff.mp H;obtain⟨b5,d3,H⟩:=H;(try dsimp only at H);have d8:=zqm d3;clear d3
   by_cases b3:b5=true
   ·subst b3;rw [if_pos rfl] at H;replace H:=Option.bind_eq_some_iff.mp H;obtain⟨b2,d4,H⟩:=H;(try dsimp only at H);have e4:=zqm d4;clear d4;have H':=zqm H;clear H
    go_wp2_with (first|((with_reducible refine gate_callee (f:=105) rfl ?_);refine goesL_ (some 12) rfl rfl Try.func105 zqk rfl #[.string a1] rfl zq1 ?_;(with_reducible refine(spec_FormulaOk.calls k a1 true _ A8.out).mono ?_);rintro e w' ⟨rfl,⟨nd,rfl⟩⟩;refine⟨_,rfl,?_⟩;have b8:w7.cell? ⟨a5,0,none⟩=some (.slice A0_0 l0_0.length c0_0):=(blk_cell a0.out 0).trans rfl;have b9:w7.cell? ⟨a5,1,none⟩=some (.slice A0_1 l0_1.length c0_1):=(blk_cell a0.out 1).trans rfl;have c6:=blk_frozen a0.out 0;have c7:=blk_frozen a0.out 1)|(go_at_call 106;(with_reducible refine(spec_l2Both.calls k _ _ l0_0 _ _ l0_1 a2 a3 true _ ?side1 ?side2 ?side3 ?side4 d8.out).mono ?_);(case side1=> exact zq81);(case side2=>exact a7.out);(case side3=> exact zq82);(case side4=>exact a8.out);rintro e e2 ⟨rfl,hb⟩;replace a0:=zqm (blk_below (g:=a5) (o:= .cells #[.slice A0_0 l0_0.length c0_0,.slice A0_1 l0_1.length c0_1] 26 (0,0)) (zqe a0.out) hb);replace HB:=zqm (below_step zq4 hb);clear hb;have c0:e2.cell? ⟨a5,0,none⟩=some (.slice A0_0 l0_0.length c0_0):=(blk_cell a0.out 0).trans rfl;have c2:e2.cell? ⟨a5,1,none⟩=some (.slice A0_1 l0_1.length c0_1):=(blk_cell a0.out 1).trans rfl;have c8:=blk_frozen a0.out 0;have d0:=blk_frozen a0.out 1)|(go_at_call 78;(with_reducible refine(spec_l1In.calls a4 0 (wrap64 ((l0_1.length:Int) - 1)) b2 _ e4.out).mono ?_);rintro e w' ⟨rfl,⟨nd,rfl⟩⟩))
    go_meet
    case rel=>exact⟨_,(!b2),zq7,H',⟨zq62⟩,⟨zqe a0.out⟩,⟨zq4⟩⟩
   ·replace b3:=Bool.eq_false_iff.mpr b3;subst b3;rw [if_neg (show¬(false=true) by decide)] at H;have H':=zqm H;clear H
    go_wp2_with (first|((with_reducible refine gate_callee (f:=105) rfl ?_);refine goesL_ (some 12) rfl rfl Try.func105 zqk rfl #[.string a1] rfl zq1 ?_;(with_reducible refine(spec_FormulaOk.calls k a1 true _ A8.out).mono ?_);rintro e w' ⟨rfl,⟨nd,rfl⟩⟩;refine⟨_,rfl,?_⟩;have c3:w7.cell? ⟨a5,0,none⟩=some (.slice A0_0 l0_0.length c0_0):=(blk_cell a0.out 0).trans rfl;have c5:w7.cell? ⟨a5,1,none⟩=some (.slice A0_1 l0_1.length c0_1):=(blk_cell a0.out 1).trans rfl;have d1:=blk_frozen a0.out 0;have d2:=blk_frozen a0.out 1)|(go_at_call 106;(with_reducible refine(spec_l2Both.calls k _ _ l0_0 _ _ l0_1 a2 a3 false _ ?side1 ?side2 ?side3 ?side4 d8.out).mono ?_);(case side1=> exact zq81);(case side2=>exact a7.out);(case side3=> exact zq82);(case side4=>exact a8.out);rintro e f1 ⟨rfl,hb⟩;replace a0:=zqm (blk_below (g:=a5) (o:= .cells #[.slice A0_0 l0_0.length c0_0,.slice A0_1 l0_1.length c0_1] 26 (0,0)) (zqe a0.out) hb);replace HB:=zqm (below_step zq4 hb);clear hb))
    go_meet
    case rel=>exact⟨_,(true),zq7,H',⟨zq62⟩,⟨zqe a0.out⟩,⟨zq4⟩⟩
  ·replace c9:=Bool.eq_false_iff.mpr c9;subst c9;rw [if_neg (show¬(false=true) by decide)] at H;have H':=zqm H;clear H
   go_wp2_with (first|((with_reducible refine gate_callee (f:=105) rfl ?_);refine goesL_ (some 12) rfl rfl Try.func105 zqk rfl #[.string a1] rfl zq1 ?_;(with_reducible refine(spec_FormulaOk.calls k a1 false _ A8.out).mono ?_);rintro e w' ⟨rfl,⟨nd,rfl⟩⟩;refine⟨_,rfl,?_⟩))
   go_meet
   case rel=>exact⟨_,(true),zq7,H',⟨zq62⟩,⟨zqe a0.out⟩,⟨zq4⟩⟩
 case rest=>
  clear d7;(try clear c1);(try clear p2);(try clear c4);(try clear p6);(try clear c9);(try clear f0);(try clear b3);(try clear b8);(try clear b9);(try clear c0);(try clear c2);(try clear c3);(try clear c5);(try clear c6);(try clear c7);(try clear c8);(try clear d0);(try clear d1);(try clear d2);obtain⟨kq,b1,rfl,HA,e9,a0,HB⟩:=hcut
  cases kq with
  |zero=>exact absurd HA.out (by simp [spec_ValueOf.j0])
  |succ e0=>
   have H:=HA.out;clear HA;simp only [spec_ValueOf.j0] at H
   by_cases b7:b1=true
   ·subst b7;rw [if_pos rfl] at H;obtain rfl:=Option.some.inj H
    go_wp2
    go_ret
    exact⟨zq13,zq4⟩
   ·replace b7:=Bool.eq_false_iff.mpr b7;subst b7;rw [if_neg (show¬(false=true) by decide)] at H;replace H:=Option.bind_eq_some_iff.mp H;obtain⟨b6,d5,H⟩:=H;(try dsimp only at H);have e5:=zqm d5;clear d5;replace H:=Option.bind_eq_some_iff.mp H;obtain⟨e3,d6,H⟩:=H;(try dsimp only at H);have e6:=zqm d6;clear d6;obtain rfl:=Option.some.inj H;(try go_wp2);replace a0:=zqm (blk_drew a0.out);replace HB:=zqm (below_drew1 HB.out);refine start_ (n:=9) (S:=fun w'=>w'.cell? ⟨a5,0,none⟩=some (.slice A0_0 l0_0.length c0_0)∧w'.cell? ⟨a5,1,none⟩=some (.slice A0_1 l0_1.length c0_1)) (ds:= []) (zqb 9 0) zqk rfl rfl ⟨(blk_cell a0.out 0).trans rfl,(blk_cell a0.out 1).trans rfl⟩ (fun hHeld=>?_);refine with_tabW spec_ValueOf.tab3 spec_ValueOf.bits3 (fun HT_ HW_=>?_);generalize wc.drew=f2 at a0 HB hHeld ⊢;refine zqp 1 31 (zqb 9 2) HT_ ?_;refine zqp 2 32 (zqb 9 6) HT_ ?_;refine zqp 3 33 (zqb 9 14) HT_ ?_;refine zqp 4 34 (zqb 9 30) HT_ ?_;refine zqw 0 30 (zqb 9 31) HT_ HW_ hHeld ?_;refine zqw 5 35 (zqb 9 63) HT_ HW_ hHeld ?_;refine one_ (i:=6) (N:=some 36) (zqb 9 127) rfl rfl (one_of HT_.out zqk) (by decide) (fun K hK=>?_);refine goes_ Try.func108 zqk rfl #[.agg #[.slice A0_0 l0_0.length c0_0,.slice A0_1 l0_1.length c0_1]] (by rfl) rfl rfl zq1 ?_;(with_reducible refine(spec_NoOf.calls e0 _ _ l0_0 _ _ l0_1 b6 _ ?side1 ?side2 ?side3 ?side4 e5.out).mono ?_);(case side1=> exact zq66);(case side2=>exact a7.out);(case side3=> exact zq173);(case side4=>exact a8.out);rintro e f3 ⟨rfl,hb⟩;refine⟨_,rfl,?_⟩;replace a0:=zqm (blk_below (g:=a5) (o:= .cells #[.slice A0_0 l0_0.length c0_0,.slice A0_1 l0_1.length c0_1] 26 (0,0)) (zqe a0.out) hb);replace HB:=zqm (below_step zq4 hb);clear hb;refine hK.out _ _ ⟨(blk_cell a0.out 0).trans rfl,(blk_cell a0.out 1).trans rfl⟩ (fun hHeld=>?_);clear hK K;refine norm_ (a':=?_) ?_ ?_;rotate_left
    ·show Act.put _ (some 36) _=_;exact zqs
    refine one_ (i:=7) (N:=some 37) (zqb 9 255) rfl rfl (one_of HT_.out zqk) (by decide) (fun K hK=>?_);refine goes_ Try.func107 zqk rfl #[.agg #[.slice A0_0 l0_0.length c0_0,.slice A0_1 l0_1.length c0_1],.string a1,.int .i64 a2,.int .i64 a3,.int .i64 a4,.int .i64 b6] (by rfl) rfl rfl zq1 ?_;(with_reducible refine(spec_l10Value.calls e0 _ _ l0_0 _ _ l0_1 a1 a2 a3 a4 b6 e3 _ ?side1 ?side2 ?side3 ?side4 e6.out).mono ?_);(case side1=> exact zq66);(case side2=>exact a7.out);(case side3=> exact zq173);(case side4=>exact a8.out);rintro e f4 ⟨rfl,hb⟩;refine⟨_,rfl,?_⟩;replace a0:=zqm (blk_below (g:=a5) (o:= .cells #[.slice A0_0 l0_0.length c0_0,.slice A0_1 l0_1.length c0_1] 26 (0,0)) (zqe a0.out) hb);replace HB:=zqm (below_step zq4 hb);clear hb;refine hK.out _ _ ⟨(blk_cell a0.out 0).trans rfl,(blk_cell a0.out 1).trans rfl⟩ (fun hHeld=>?_);clear hK K;refine norm_ (a':=?_) ?_ ?_;rotate_left
    ·show Act.put _ (some 37) _=_;exact zqs
    refine zqp 8 10 (zqb 9 511) HT_ ?_;refine done_ (done_of HT_.out zqk) ?_;try go_wp2
    go_ret
    exact⟨zq13,zq4⟩
end Go.Proofs.Ytcbjpdaogicibaa.Print
end
section
namespace Go.Proofs.Ytcbjpdaogicibaa.Print
open Go.RowKit Go.Proofs.YtcbjpdaogicibaaW.PrintWords Go.Proofs.YtcbjpdaogicibaaW.PrintLast Go.Proofs.YtcbjpdaogicibaaW.PrintMore
open Oml
theorem spec_ValueOf.ev (U : List (List Int)) (N : List Int) (s : ByteArray) (a b c : Int) : Ev (fun k => spec_ValueOf.f k U N s a b c) (match fmOf s with
 |none=> -1
 |some f=>if logicB U N=true then(if [a,b,c].all (inR U.length)=true then valF U N a b c f else -1) else -1):=by
 unfold spec_ValueOf.f
 have hT: ∀a b c,Ev (fun k=>spec_ValueOf.j0 k s a b c true U N) (-1):=fun a b c=>by
  refine Ev.succ ?_
  simp only [spec_ValueOf.j0]
  repeat(with_reducible first|refine Ev.ip ?_|refine Ev.iq ?_)
  exact Ev.now _
 refine Ev.bind (spec_FormulaOk.ev s) ?_
 cases hf:fmOf s with
 |none=>
  repeat(with_reducible first|refine Ev.ip ?_|refine Ev.iq ?_)
  exact hT _ _ _
 |some f=>
  show Ev _ (if logicB U N=true then(if [a,b,c].all (inR U.length)=true then valF U N a b c f else -1) else -1)
  repeat(with_reducible first|refine Ev.ip ?_|refine Ev.iq ?_)
  refine Ev.bind (spec_l2Both.ev U N a b) ?_
  cases hl:logicB U N with
  |false=>
   repeat(with_reducible first|refine Ev.ip ?_|refine Ev.iq ?_)
   exact hT _ _ _
  |true=>
   have L:=logicB_iff.1 hl
   have hs:=L.small
   have hp:=L.pos
   have hlen:=L.len
   cases h1:(inR U.length a && inR U.length b) with
   |false=>
    have h2: [a,b,c].all (inR U.length)=false:=by
     simp only [List.all_cons,List.all_nil,Bool.and_true,← Bool.and_assoc,h1,Bool.false_and]
    rw [if_pos rfl,if_neg (by rw [h2];simp)]
    repeat(with_reducible first|refine Ev.ip ?_|refine Ev.iq ?_)
    exact hT _ _ _
   |true=>
    repeat(with_reducible first|refine Ev.ip ?_|refine Ev.iq ?_)
    have w1:wrap64 ((N.length:Int) - 1)=((U.length - 1:Nat):Int):=by rw [hlen,show (U.length:Int) - 1=((U.length - 1:Nat):Int) by omega];exact wrap_small (by omega) (by omega)
    rw [w1]
    have hin:spec_l1In.f c 0 ((U.length - 1:Nat):Int)=some (inR U.length c):=by
     unfold spec_l1In.f inR
     by_cases h3:c≥0
     ·rw [if_pos h3]
      congr 1
      rw [decide_eq_true (show (0:Int)≤c by omega),Bool.true_and,decide_eq_decide];omega
     ·rw [if_neg h3,decide_eq_false (show¬(0:Int)≤c by omega),Bool.false_and]
    refine Ev.pbind hin ?_
    cases h4:inR U.length c with
    |false=>
     have h2: [a,b,c].all (inR U.length)=false:=by
      simp only [List.all_cons,List.all_nil,Bool.and_true,h4,Bool.and_false]
     rw [if_pos rfl,h2,if_neg (by simp)]
     exact hT _ _ _
    |true=>
     have h2: [a,b,c].all (inR U.length)=true:=by
      simp only [List.all_cons,List.all_nil,Bool.and_true,h4,h1]
     rw [if_pos rfl,if_pos h2]
     rw [Bool.and_eq_true] at h1
     refine Ev.succ ?_
     simp only [spec_ValueOf.j0]
     repeat(with_reducible first|refine Ev.ip ?_|refine Ev.iq ?_)
     refine Ev.bind (spec_NoOf.ev U N) ?_
     rw [hl,if_pos rfl]
     refine Ev.bind (value_of_ev L (inR_iff.1 h1.1) (inR_iff.1 h1.2) (inR_iff.1 h4) hf) ?_
     exact Ev.now _
section
section
variable {U : List (List Int)} {N : List Int} (L : Logic U N)
theorem fin_of {a : Int} (ia : In U a) : ∃ x : Fin U.length, a = ((x.1 : Nat) : Int) := ⟨⟨a.toNat, by have := ia.1; have := ia.2; omega⟩, by have := ia.1; show a = ((a.toNat : Nat) : Int); omega⟩
theorem in_fin (x : Fin U.length) : In U ((x.1 : Nat) : Int) := ⟨by omega, by have := x.2; omega⟩
end
end
theorem inR_two {U : List (List Int)} (x y : Fin U.length) : [((x.1 : Nat) : Int), ((y.1 : Nat) : Int)].all (inR U.length) = true := by
 simp only [List.all_cons,List.all_nil,Bool.and_true,Bool.and_eq_true,inR_iff];exact⟨in_fin x,in_fin y⟩
theorem inR_one {U : List (List Int)} (x : Fin U.length) : [((x.1 : Nat) : Int)].all (inR U.length) = true := by
 simp only [List.all_cons, List.all_nil, Bool.and_true, inR_iff]; exact in_fin x
theorem fm_b : fmOf ⟨#[98]⟩ = some (.leaf 98) := by kernel_rfl
theorem fm_ac : fmOf ⟨#[40, 97, 38, 99, 41]⟩ = some (.bin 38 (.leaf 97) (.leaf 99)) := by kernel_rfl
theorem fm_neg {s : ByteArray} (h : s.size < 60) : fmOf ((⟨#[33]⟩ : ByteArray) ++ s) = (fmOf s).map Fm.neg := by
 have e1:(⟨#[33]⟩:ByteArray).size=1:=rfl
 have hs:((⟨#[33]⟩:ByteArray) ++ s).size=s.size+1:=by rw [ByteArray.size_append,e1];omega
 have hb:bt ((⟨#[33]⟩:ByteArray) ++ s) 0=33:=by
  have h0:(0:Int).toNat<((⟨#[33]⟩:ByteArray) ++ s).size:=by rw [hs];exact Nat.succ_pos _
  rw [← bt_at _ 0 h0]
  have h2:(((⟨#[33]⟩:ByteArray) ++ s)[(0:Int).toNat]'h0)=(⟨#[33]⟩:ByteArray)[0]'(by rw [e1];omega):=ByteArray.getElem_append_left _
  rw [h2];rfl
 have hx:((⟨#[33]⟩:ByteArray) ++ s).extract 1 ((⟨#[33]⟩:ByteArray) ++ s).size=s:=by
  apply ByteArray.extract_append_eq_right
  ·rfl
  ·rw [hs,e1];omega
 unfold fmOf
 rw [if_neg (by rw [hs];omega),if_neg (by omega)]
 have hr:rdF ((⟨#[33]⟩:ByteArray) ++ s).size ((⟨#[33]⟩:ByteArray) ++ s)=(rdF s.size s).map fun fr=>(.neg fr.1,fr.2):=by
  rw [hs]
  simp only [rdF]
  rw [if_neg (by rw [hs];omega),hb,if_neg (by unfold isLeaf;omega),if_pos rfl,hx]
  cases rdF s.size s <;> rfl
 rw [hr]
 rcases rdF s.size s with _|⟨f,r⟩
 ·rfl
 ·simp only [Option.map_some]
  split <;> rfl
end Go.Proofs.Ytcbjpdaogicibaa.Print
end
section
namespace Go.Proofs.Ytcbjpdaogicibaa.Print
open Go.RowKit Go.Proofs.YtcbjpdaogicibaaW.PrintWords Go.Proofs.YtcbjpdaogicibaaW.PrintLast Go.Proofs.YtcbjpdaogicibaaW.PrintMore
def spec_l20Two.f (k : Nat) (s0_0 : List Int) (s0_1 : Int) (a1 : Int) : Option ((List (List Int)) × List Int × Int × Int × Int) := (spec_l20Logic.f k s0_0 s0_1 a1).bind fun bt564 => ((spec_l20Rd_pick.f k s0_0 bt564.2.2 (mx (bt564.2.1.length : Int) 1)).bind fun bt572 => ((spec_l20Rd_pick.f k s0_0 bt572.2 40).bind fun bt574 => ((spec_l20Rd_pick.f k s0_0 bt574.2 (mx (bt564.2.1.length : Int) 1)).bind fun bt576 => ((spec_l20Rd_pick.f k s0_0 bt576.2 40).bind fun bt578 => (some (bt564.1, bt564.2.1, wrap64 (bt572.1 + (wrap64 ((wrap64 (Int.tdiv bt574.1 39)) * 12))), wrap64 (bt576.1 - (wrap64 ((wrap64 (Int.tdiv bt578.1 39)) * 12))), bt578.2))))))
def spec_l20Two.T3 : Bool × List (List Nat × List Nat) := (true, [([], []), ([], []), ([], []), ([1, 2], [1, 2]), ([], []), ([4, 3], [4]), ([5], [5]), ([6], [6]), ([3, 7], [3, 7]), ([], []), ([], []), ([9, 10, 5], [9, 10]), ([], []), ([12, 11], [12]), ([13], [13]), ([14], [14]), ([11, 15], [11, 15]), ([0, 13, 0], [0]), ([8, 17, 0, 1, 2, 3, 4, 5, 6, 7, 8, 17], [8]), ([16, 18, 0, 1, 2, 3, 4, 5, 6, 7, 8, 9, 10, 11, 12, 13, 14, 15, 16, 17, 18], [16])])
def spec_l20Two.B3 : List Nat := [0, 0, 0, 6, 0, 30, 62, 126, 254, 0, 0, 1598, 0, 7742, 15934, 32318, 65086, 15935, 147455, 524287]
theorem spec_l20Two.tab3 : rtab .any (opsOf Try.f86 3) = spec_l20Two.T3 := by kernel_rfl
theorem spec_l20Two.bits3 : waitsOk spec_l20Two.T3.2 spec_l20Two.B3 = true := by kernel_rfl
set_option maxHeartbeats 8000000 in
set_option maxRecDepth 100000 in
theorem spec_l20Two.calls (k : Nat) (g : Nat) (s0_0 : List Int) (s0_1 : Int) (a1 : Int) (r1 : List (List Int)) (r2 : List Int) (r3 : Int) (r4 : Int) (r5 : Int) (w0 w : World) (hI : IsS110 w0 w g s0_0 s0_1) (hB : Below w0.heap.size w0 w) (h : spec_l20Two.f k s0_0 s0_1 a1 = some (r1, r2, r3, r4, r5)) :
  Calls Try.prog 86 #[.pointer (some ⟨g, 0, none⟩), .int .i64 a1] w fun e w' => ∃ v0_ v1_ : Value, e = .returned (.tuple #[.agg #[v0_, v1_], .int .i64 r3, .int .i64 r4]) ∧ Kd.S (Kd.slice 3 (Kd.int .i64)) 24 w' w.heap.size (fun k_ => some k_ ≠ (v1_ : Value).ownBlock) v0_ r1 ∧ Kd.Q (Kd.int .i64) 3 w' w.heap.size (fun _ => True) v1_ r2 ∧ IsS110 w0 w' g s0_0 r5 ∧ Below w0.heap.size w0 w' ∧ KeepBut w w' g none := by
 have hu26:=Try.underlying26;have a0:=zqm hI;have HK:=zqm (KeepBut.refl w g none);have HL:=zqm hB.size;clear hI;have f3:=zqm hB.size;have HB:=zqm hB;clear hB;have H:((spec_l20Logic.f k s0_0 s0_1 a1).bind fun d2=>((spec_l20Rd_pick.f k s0_0 d2.2.2 (mx (d2.2.1.length:Int) 1)).bind fun c3=>((spec_l20Rd_pick.f k s0_0 c3.2 40).bind fun c0=>((spec_l20Rd_pick.f k s0_0 c0.2 (mx (d2.2.1.length:Int) 1)).bind fun b7=>((spec_l20Rd_pick.f k s0_0 b7.2 40).bind fun b4=>(some (d2.1,d2.2.1,wrap64 (c3.1+(wrap64 ((wrap64 (Int.tdiv c0.1 39))*12))),wrap64 (b7.1 - (wrap64 ((wrap64 (Int.tdiv b4.1 39))*12))),b4.2)))))))=some (r1,r2,r3,r4,r5):=h;clear h;replace H:=Option.bind_eq_some_iff.mp H;obtain⟨⟨a8,a6,c6⟩,e8,H⟩:=H;replace H:((spec_l20Rd_pick.f k s0_0 c6 (mx (a6.length:Int) 1)).bind fun c3=>((spec_l20Rd_pick.f k s0_0 c3.2 40).bind fun c0=>((spec_l20Rd_pick.f k s0_0 c0.2 (mx (a6.length:Int) 1)).bind fun b7=>((spec_l20Rd_pick.f k s0_0 b7.2 40).bind fun b4=>(some (a8,a6,wrap64 (c3.1+(wrap64 ((wrap64 (Int.tdiv c0.1 39))*12))),wrap64 (b7.1 - (wrap64 ((wrap64 (Int.tdiv b4.1 39))*12))),b4.2))))))=some (r1,r2,r3,r4,r5):=H;have A3:=zqm e8;clear e8;obtain⟨c8,c7⟩: ∃j_:Int,(mx (a6.length:Int) 1)=j_:=⟨_,rfl⟩;(replace H:((spec_l20Rd_pick.f k s0_0 c6 (c8)).bind fun c3=>((spec_l20Rd_pick.f k s0_0 c3.2 40).bind fun c0=>((spec_l20Rd_pick.f k s0_0 c0.2 (c8)).bind fun b7=>((spec_l20Rd_pick.f k s0_0 b7.2 40).bind fun b4=>(some (a8,a6,wrap64 (c3.1+(wrap64 ((wrap64 (Int.tdiv c0.1 39))*12))),wrap64 (b7.1 - (wrap64 ((wrap64 (Int.tdiv b4.1 39))*12))),b4.2))))))=some (r1,r2,r3,r4,r5):=by first|(rw [c7] at H;exact H)|(simp only [c7] at H ⊢;exact H));(try rw [c7] at A3);(try(have hji4l:1≤c8:=by(rw [← c7];unfold mx;(repeat' split) <;> omega)));(try(have hji4m:0≤c8:=by omega));have g4:(if(a6.length:Int)<1 then 1 else(a6.length:Int))=c8:=c7;replace H:=Option.bind_eq_some_iff.mp H;obtain⟨⟨d3,d4⟩,e9,H⟩:=H;replace H:((spec_l20Rd_pick.f k s0_0 d4 40).bind fun c0=>((spec_l20Rd_pick.f k s0_0 c0.2 (c8)).bind fun b7=>((spec_l20Rd_pick.f k s0_0 b7.2 40).bind fun b4=>(some (a8,a6,wrap64 (d3+(wrap64 ((wrap64 (Int.tdiv c0.1 39))*12))),wrap64 (b7.1 - (wrap64 ((wrap64 (Int.tdiv b4.1 39))*12))),b4.2)))))=some (r1,r2,r3,r4,r5):=H;have A5:=zqm e9;clear e9;replace H:=Option.bind_eq_some_iff.mp H;obtain⟨⟨e2,d5⟩,f0,H⟩:=H;replace H:((spec_l20Rd_pick.f k s0_0 d5 (c8)).bind fun b7=>((spec_l20Rd_pick.f k s0_0 b7.2 40).bind fun b4=>(some (a8,a6,wrap64 (d3+(wrap64 ((wrap64 (Int.tdiv e2 39))*12))),wrap64 (b7.1 - (wrap64 ((wrap64 (Int.tdiv b4.1 39))*12))),b4.2))))=some (r1,r2,r3,r4,r5):=H;have A6:=zqm f0;clear f0;replace H:=Option.bind_eq_some_iff.mp H;obtain⟨⟨e3,d6⟩,f1,H⟩:=H;replace H:((spec_l20Rd_pick.f k s0_0 d6 40).bind fun b4=>(some (a8,a6,wrap64 (d3+(wrap64 ((wrap64 (Int.tdiv e2 39))*12))),wrap64 (e3 - (wrap64 ((wrap64 (Int.tdiv b4.1 39))*12))),b4.2)))=some (r1,r2,r3,r4,r5):=H;have A7:=zqm f1;clear f1;replace H:=Option.bind_eq_some_iff.mp H;obtain⟨⟨e6,e7⟩,f2,H⟩:=H;replace H:(some (a8,a6,wrap64 (d3+(wrap64 ((wrap64 (Int.tdiv e2 39))*12))),wrap64 (e3 - (wrap64 ((wrap64 (Int.tdiv e6 39))*12))),e7))=some (r1,r2,r3,r4,r5):=H;have A8:=zqm f2;clear f2;simp only [Option.some.injEq,Prod.mk.injEq] at H;obtain⟨rfl,rfl,rfl,rfl,rfl⟩:=H
 go_enter Try.func86,Try.ntmps86
 (try go_wp2_with (first|((with_reducible refine gate_dst (N:=4) rfl ?_);refine box_event ?hg (N:=4) ?hd (cs:= #[.slice none 0 0,.slice none 0 0]) (t:=26) ?hr ?_;(case hd=>rfl);(case hg=>rfl);(case hr=> exact zq17);intro a5 hg w9 hbox hb;have d7:=zqm (IsS110.below zq20 hb);have d8:=zqm (KeepBut.trans zq11 (KeepBut.of_below hb g none) (.inl rfl));replace HB:=zqm (below_step zq21 hb);have a4:=zqm (hbox);have b9:=zqm ((by rw [hg];exact(keep_size (w:=w) (g:=g) (row:=none) zq11):w.heap.size≤a5));have c2:=zqm ((Nat.le_trans f3.out (by rw [hg];exact(keep_size (w:=w) (g:=g) (row:=none) zq11):w.heap.size≤a5):w0.heap.size≤a5));have a7:=zqm ((by rw [hg];exact Nat.ne_of_lt (IsS110.lt (show IsS110 w0 _ g s0_0 s0_1 from zq20)):g≠a5));have c4:=zqm ((by rw [hg];exact Nat.ne_of_gt (IsS110.lt (show IsS110 w0 _ g s0_0 s0_1 from zq20)):a5≠g));clear a0 HK;have a0:=d7;have HK:=d8;clear d7 d8 hb hbox hg)|((with_reducible refine gate_callee (f:=68) rfl ?_);refine goesL_ (some 11) rfl rfl Try.func68 zqk rfl #[.pointer (some ⟨g,0,none⟩),.int .i64 a1] rfl zq1 ?_;(with_reducible refine(spec_l20Logic.calls k g s0_0 s0_1 a1 a8 a6 c6 w0 _ ?side1 ?side2 A3.out).mono ?_);(case side1=> exact zq43);(case side2=> exact zq163);rintro e h1 ⟨g9,h0,rfl,f4,f5,hi,hb,hk⟩;refine⟨_,rfl,?_⟩;replace a4:=zqm (KeepBut.blk hk (g':=a5) (o:= .cells #[.slice none 0 0,.slice none 0 0] 26 (0,0)) (zqe a4.out) c4.out (by simp));have b2:=zqm (Kd.S_lower f4 (keep_size (w:=w) (g:=g) (row:=none) zq58));have b3:=zqm (Kd.Q_lower f5 (keep_size (w:=w) (g:=g) (row:=none) zq58));replace HK:=zqm (KeepBut.trans zq58 hk (.inl rfl));replace HB:=zqm (hb);replace a0:=zqm (hi);clear hb hk hi f4 f5)|((with_reducible refine gate_dst (N:=7) rfl ?_);refine box_event ?hg (N:=7) ?hd (cs:= #[.slice none 0 0,.slice none 0 0]) (t:=26) ?hr ?_;(case hd=>rfl);(case hg=>rfl);(case hr=> exact zq17);intro a2 hg d1 hbox hb;replace b2:=zqm (Kd.S_below (zqfS b2.out) hb);replace b3:=zqm (Kd.Q_below (zqfQ b3.out) hb);have d9:=zqm (IsS110.below zq43 hb);have e0:=zqm (blk_below (g:=a5) (o:= .cells #[.slice none 0 0,.slice none 0 0] 26 (0,0)) (zqe a4.out) hb);have e1:=zqm (KeepBut.trans zq58 (KeepBut.of_below hb g none) (.inl rfl));replace HB:=zqm (below_step zq163 hb);have a3:=zqm (hbox);have d0:=zqm ((by rw [hg];exact(keep_size (w:=w) (g:=g) (row:=none) zq58):w.heap.size≤a2));have c9:=zqm ((Nat.le_trans f3.out (by rw [hg];exact(keep_size (w:=w) (g:=g) (row:=none) zq58):w.heap.size≤a2):w0.heap.size≤a2));have c1:=zqm ((by rw [hg];exact Nat.ne_of_lt (blk_lt (g:=a5) (o:= .cells #[.slice none 0 0,.slice none 0 0] 26 (0,0)) (zqe a4.out)):a5≠a2));have b8:=zqm ((by rw [hg];exact Nat.ne_of_gt (blk_lt (g:=a5) (o:= .cells #[.slice none 0 0,.slice none 0 0] 26 (0,0)) (zqe a4.out)):a2≠a5));have a9:=zqm ((by rw [hg];exact Nat.ne_of_lt (IsS110.lt (show IsS110 w0 _ g s0_0 c6 from zq43)):g≠a2));have c5:=zqm ((by rw [hg];exact Nat.ne_of_gt (IsS110.lt (show IsS110 w0 _ g s0_0 c6 from zq43)):a2≠g));clear a0 a4 HK;have a0:=d9;have a4:=e0;have HK:=e1;clear d9 e0 e1 hb hbox hg;obtain⟨b0,b1,f7⟩:=Kd.S_slice b2.out;subst f7;have g5:=b8.out;have g7:=c1.out;have g6:=c5.out;have g8:=a9.out;have f9:d1.cell? ⟨a2,0,none⟩=some (.slice none 0 0):=(blk_cell a3.out 0).trans rfl;have g0:d1.cell? ⟨a2,1,none⟩=some (.slice none 0 0):=(blk_cell a3.out 1).trans rfl;have g1:=blk_frozen a3.out 0;have g2:=blk_frozen a3.out 1;obtain⟨b5,b6,f8,_⟩:=Kd.Q_slice b3.out;subst f8)))
 have d7:Aside0 (Kd.S (Kd.slice 3 (Kd.int .i64)) 24 ((d1.setCell ⟨a2,0,none⟩ (.slice b0 a8.length b1)).setCell ⟨a2,1,none⟩ (.slice b5 a6.length b6)) w.heap.size (fun k_=>some k_≠(.slice b5 a6.length b6:Value).ownBlock) (.slice b0 a8.length b1) a8):=⟨by refine zqfS ?_;exact Kd.S_mono (Kd.S_far (p:=⟨a2,1,none⟩) (Kd.S_far (p:=⟨a2,0,none⟩) (Kd.S_types b2.out a3.out (by decide)) (fun _ hk=>hk.2) (.slice b0 a8.length b1)) (fun _ hk=>hk.2) (.slice b5 a6.length b6)) (fun _ hk=>hk.1)⟩;have d8:Aside0 (Kd.Q (Kd.int .i64) 3 ((d1.setCell ⟨a2,0,none⟩ (.slice b0 a8.length b1)).setCell ⟨a2,1,none⟩ (.slice b5 a6.length b6)) w.heap.size (fun _=>True) (.slice b5 a6.length b6) a6):=⟨by refine zqfQ ?_;exact Kd.Q_mono (Kd.Q_far (p:=⟨a2,1,none⟩) (Kd.Q_far (p:=⟨a2,0,none⟩) (Kd.Q_types b3.out a3.out (by decide)) (fun _ hk=>hk.2) (.slice b0 a8.length b1)) (fun _ hk=>hk.2) (.slice b5 a6.length b6)) (fun _ hk=>trivial)⟩;have d9:Aside0 (((d1.setCell ⟨a2,0,none⟩ (.slice b0 a8.length b1)).setCell ⟨a2,1,none⟩ (.slice b5 a6.length b6)).heap[a5]? =some (.cells #[.slice none 0 0,.slice none 0 0] 26 (0,0))):=⟨zq196⟩;have e0:Aside0 (((d1.setCell ⟨a2,0,none⟩ (.slice b0 a8.length b1)).setCell ⟨a2,1,none⟩ (.slice b5 a6.length b6)).heap[a2]? =some (.cells #[.slice b0 a8.length b1,.slice b5 a6.length b6] 26 (0,0))):=⟨by refine zqe ?_;refine blk_put (cs:= #[.slice b0 a8.length b1,.slice none 0 0]) ?_ 1 _ rfl;refine zqe ?_;refine blk_put (cs:= #[.slice none 0 0,.slice none 0 0]) ?_ 0 _ rfl;refine zqe ?_;exact a3.out⟩;have e1:Aside0 (IsS110 w0 ((d1.setCell ⟨a2,0,none⟩ (.slice b0 a8.length b1)).setCell ⟨a2,1,none⟩ (.slice b5 a6.length b6)) g s0_0 c6):=⟨zq26⟩;have e4:Aside0 (KeepBut w ((d1.setCell ⟨a2,0,none⟩ (.slice b0 a8.length b1)).setCell ⟨a2,1,none⟩ (.slice b5 a6.length b6)) g none):=⟨zq50⟩;have e5:Aside0 (Below w0.heap.size w0 ((d1.setCell ⟨a2,0,none⟩ (.slice b0 a8.length b1)).setCell ⟨a2,1,none⟩ (.slice b5 a6.length b6))):=⟨zq45⟩;generalize ((d1.setCell ⟨a2,0,none⟩ (.slice b0 a8.length b1)).setCell ⟨a2,1,none⟩ (.slice b5 a6.length b6))=g3 at d7 d8 d9 e0 e1 e4 e5 ⊢;have b2:=d7;have b3:=d8;have a4:=d9;have a3:=e0;have a0:=e1;have HK:=e4;have HB:=e5;clear d7 d8 d9 e0 e1 e4 e5;replace b2:=zqm (Kd.S_drew b2.out);replace b3:=zqm (Kd.Q_drew b3.out);replace a4:=zqm (blk_drew a4.out);replace a3:=zqm (blk_drew a3.out);replace a0:=zqm (IsS110.drew a0.out);replace HK:=zqm (keep_drew HK.out);replace HB:=zqm (below_drew1 HB.out);refine start_ (n:=20) (S:=fun w'=>w'.cell? ⟨a2,0,none⟩=some (.slice b0 a8.length b1)∧w'.cell? ⟨a2,1,none⟩=some (.slice b5 a6.length b6)) (ds:= []) (zqb 20 0) zqk rfl rfl ⟨(blk_cell a3.out 0).trans rfl,(blk_cell a3.out 1).trans rfl⟩ (fun hHeld=>?_);refine with_tabW spec_l20Two.tab3 spec_l20Two.bits3 (fun HT_ HW_=>?_);generalize g3.drew=h2 at b2 b3 a4 a3 a0 HK HB hHeld ⊢;refine zqp 1 17 (zqb 20 2) HT_ ?_;refine zqp 2 18 (zqb 20 6) HT_ ?_;refine zqp 4 20 (zqb 20 22) HT_ ?_;refine zqp 9 25 (zqb 20 534) HT_ ?_;refine zqp 10 26 (zqb 20 1558) HT_ ?_;refine zqp 12 28 (zqb 20 5654) HT_ ?_;refine zqw 0 16 (zqb 20 5655) HT_ HW_ hHeld ?_;refine one_ (i:=3) (N:=some 19) (zqb 20 5663) rfl rfl (one_of HT_.out zqk) (by decide) (fun K hK=>?_);refine goes_ Try.func91 zqk rfl #[.pointer (some ⟨g,0,none⟩),.int .i64 c8] (by rfl) rfl rfl zq178 ?_;(with_reducible refine(spec_l20Rd_pick.calls k g s0_0 c6 c8 d3 d4 w0 _ ?side1 ?side2 A5.out).mono ?_);(case side1=> exact zq26)
 (case side2=> exact zq45);rintro e h3 ⟨rfl,hi,hb,hk⟩;refine⟨_,rfl,?_⟩;replace a4:=zqm (KeepBut.blk hk (g':=a5) (o:= .cells #[.slice none 0 0,.slice none 0 0] 26 (0,0)) (zqe a4.out) c4.out (by simp));replace b2:=zqm (Kd.S_mono (Kd.S_keep (IsS110.apartS (show IsS110 w0 _ g s0_0 c6 from zq26) (zqfS b2.out) (by decide)) hk (fun _ h=>h.2)) (fun _ h=>h.1));replace b3:=zqm (Kd.Q_mono (Kd.Q_keep (IsS110.apartQ (show IsS110 w0 _ g s0_0 c6 from zq26) (zqfQ b3.out) (by decide)) hk (fun _ h=>h.2)) (fun _ h=>h.1));replace a3:=zqm (KeepBut.blk hk (g':=a2) (o:= .cells #[.slice b0 a8.length b1,.slice b5 a6.length b6] 26 (0,0)) (zqe a3.out) c5.out (by simp));replace HK:=zqm (KeepBut.trans zq50 hk (.inl rfl));replace HB:=zqm (hb);replace a0:=zqm (hi);clear hb hk hi;refine hK.out _ _ ⟨(blk_cell a3.out 0).trans rfl,(blk_cell a3.out 1).trans rfl⟩ (fun hHeld=>?_);clear hK K;refine norm_ (a':=?_) ?_ ?_;rotate_left
 ·show Act.put _ (some 19) _=_;exact zqs
 refine one_ (i:=5) (N:=some 21) (zqb 20 5695) rfl rfl (one_of HT_.out zqk) (by decide) (fun K hK=>?_);refine goes_ Try.func91 zqk rfl #[.pointer (some ⟨g,0,none⟩),.int .i64 40] (by rfl) rfl rfl zq1 ?_;(with_reducible refine(spec_l20Rd_pick.calls k g s0_0 d4 40 e2 d5 w0 _ ?side1 ?side2 A6.out).mono ?_);(case side1=> exact zq26);(case side2=> exact zq45);rintro e h4 ⟨rfl,hi,hb,hk⟩;refine⟨_,rfl,?_⟩;replace a4:=zqm (KeepBut.blk hk (g':=a5) (o:= .cells #[.slice none 0 0,.slice none 0 0] 26 (0,0)) (zqe a4.out) c4.out (by simp));replace b2:=zqm (Kd.S_mono (Kd.S_keep (IsS110.apartS (show IsS110 w0 _ g s0_0 d4 from zq26) (zqfS b2.out) (by decide)) hk (fun _ h=>h.2)) (fun _ h=>h.1));replace b3:=zqm (Kd.Q_mono (Kd.Q_keep (IsS110.apartQ (show IsS110 w0 _ g s0_0 d4 from zq26) (zqfQ b3.out) (by decide)) hk (fun _ h=>h.2)) (fun _ h=>h.1));replace a3:=zqm (KeepBut.blk hk (g':=a2) (o:= .cells #[.slice b0 a8.length b1,.slice b5 a6.length b6] 26 (0,0)) (zqe a3.out) c5.out (by simp));replace HK:=zqm (KeepBut.trans zq50 hk (.inl rfl));replace HB:=zqm (hb);replace a0:=zqm (hi);clear hb hk hi;refine hK.out _ _ ⟨(blk_cell a3.out 0).trans rfl,(blk_cell a3.out 1).trans rfl⟩ (fun hHeld=>?_);clear hK K;refine norm_ (a':=?_) ?_ ?_;rotate_left
 ·show Act.put _ (some 21) _=_;exact zqs
 refine zqp 6 22 (zqb 20 5759) HT_ ?_;refine zqp 7 23 (zqb 20 5887) HT_ ?_;refine zqp 8 24 (zqb 20 6143) HT_ ?_;refine one_ (i:=11) (N:=some 27) (zqb 20 8191) rfl rfl (one_of HT_.out zqk) (by decide) (fun K hK=>?_);refine goes_ Try.func91 zqk rfl #[.pointer (some ⟨g,0,none⟩),.int .i64 c8] (by rfl) rfl rfl zq178 ?_;(with_reducible refine(spec_l20Rd_pick.calls k g s0_0 d5 c8 e3 d6 w0 _ ?side1 ?side2 A7.out).mono ?_);(case side1=> exact zq26);(case side2=> exact zq45);rintro e h5 ⟨rfl,hi,hb,hk⟩;refine⟨_,rfl,?_⟩;replace a4:=zqm (KeepBut.blk hk (g':=a5) (o:= .cells #[.slice none 0 0,.slice none 0 0] 26 (0,0)) (zqe a4.out) c4.out (by simp));replace b2:=zqm (Kd.S_mono (Kd.S_keep (IsS110.apartS (show IsS110 w0 _ g s0_0 d5 from zq26) (zqfS b2.out) (by decide)) hk (fun _ h=>h.2)) (fun _ h=>h.1));replace b3:=zqm (Kd.Q_mono (Kd.Q_keep (IsS110.apartQ (show IsS110 w0 _ g s0_0 d5 from zq26) (zqfQ b3.out) (by decide)) hk (fun _ h=>h.2)) (fun _ h=>h.1));replace a3:=zqm (KeepBut.blk hk (g':=a2) (o:= .cells #[.slice b0 a8.length b1,.slice b5 a6.length b6] 26 (0,0)) (zqe a3.out) c5.out (by simp));replace HK:=zqm (KeepBut.trans zq50 hk (.inl rfl));replace HB:=zqm (hb);replace a0:=zqm (hi);clear hb hk hi;refine hK.out _ _ ⟨(blk_cell a3.out 0).trans rfl,(blk_cell a3.out 1).trans rfl⟩ (fun hHeld=>?_);clear hK K;refine norm_ (a':=?_) ?_ ?_;rotate_left
 ·show Act.put _ (some 27) _=_;exact zqs
 refine one_ (i:=13) (N:=some 29) (zqb 20 16383) rfl rfl (one_of HT_.out zqk) (by decide) (fun K hK=>?_);refine goes_ Try.func91 zqk rfl #[.pointer (some ⟨g,0,none⟩),.int .i64 40] (by rfl) rfl rfl zq1 ?_;(with_reducible refine(spec_l20Rd_pick.calls k g s0_0 d6 40 e6 e7 w0 _ ?side1 ?side2 A8.out).mono ?_);(case side1=> exact zq26);(case side2=> exact zq45);rintro e f6 ⟨rfl,hi,hb,hk⟩;refine⟨_,rfl,?_⟩;replace a4:=zqm (KeepBut.blk hk (g':=a5) (o:= .cells #[.slice none 0 0,.slice none 0 0] 26 (0,0)) (zqe a4.out) c4.out (by simp));replace b2:=zqm (Kd.S_mono (Kd.S_keep (IsS110.apartS (show IsS110 w0 _ g s0_0 d6 from zq26) (zqfS b2.out) (by decide)) hk (fun _ h=>h.2)) (fun _ h=>h.1));replace b3:=zqm (Kd.Q_mono (Kd.Q_keep (IsS110.apartQ (show IsS110 w0 _ g s0_0 d6 from zq26) (zqfQ b3.out) (by decide)) hk (fun _ h=>h.2)) (fun _ h=>h.1));replace a3:=zqm (KeepBut.blk hk (g':=a2) (o:= .cells #[.slice b0 a8.length b1,.slice b5 a6.length b6] 26 (0,0)) (zqe a3.out) c5.out (by simp));replace HK:=zqm (KeepBut.trans zq50 hk (.inl rfl));replace HB:=zqm (hb);replace a0:=zqm (hi);clear hb hk hi;refine hK.out _ _ ⟨(blk_cell a3.out 0).trans rfl,(blk_cell a3.out 1).trans rfl⟩ (fun hHeld=>?_);clear hK K;refine norm_ (a':=?_) ?_ ?_;rotate_left
 ·show Act.put _ (some 29) _=_;exact zqs
 refine zqp 14 30 (zqb 20 32767) HT_ ?_;refine zqp 15 31 (zqb 20 65535) HT_ ?_;refine zqp 16 32 (zqb 20 131071) HT_ ?_;refine one_ (i:=17) (N:=none) (zqb 20 262143) rfl rfl (one_of HT_.out zqk) (by decide) (fun K hK=>?_);have hs23:f6.cell? ⟨a5,0,none⟩=some (.slice none 0 0):=(blk_cell a4.out 0).trans rfl;have hfs23:=blk_frozen a4.out 0;have hns23_1:=b8.out;have hms23_1:=c1.out;have hs24:f6.cell? ⟨a5,1,none⟩=some (.slice none 0 0):=(blk_cell a4.out 1).trans rfl;have hfs24:=blk_frozen a4.out 1;have hns24_1:=b8.out;have hms24_1:=c1.out;refine skip_ (w1:=?_) (by rfl) rfl ?_ ?_;rotate_left
 ·go_simp;rfl
 refine hK.out _ _ ⟨((cell_far (p:=⟨a5,_,none⟩) b8.out _).trans (((cell_far (p:=⟨a5,_,none⟩) b8.out _).trans (hHeld.1)))),((cell_far (p:=⟨a5,_,none⟩) b8.out _).trans (((cell_far (p:=⟨a5,_,none⟩) b8.out _).trans (hHeld.2))))⟩ (fun hHeld=>?_);clear hK K;refine zqp 18 5 (zqb 20 524287) HT_ ?_;refine zqp 19 6 (zqb 20 1048575) HT_ ?_;refine done_ (done_of HT_.out zqk) ?_;(try go_wp2);refine bodyPost_ret (results_ctt rfl _ _ a5 26 #[.slice b0 a8.length b1,.slice b5 a6.length b6] (0,0) _ rfl (by refine zqe ?_;refine blk_put (cs:= #[.slice b0 a8.length b1,.slice none 0 0]) ?_ 1 _ rfl;refine zqe ?_;refine blk_put (cs:= #[.slice none 0 0,.slice none 0 0]) ?_ 0 _ rfl;refine zqe ?_;exact a4.out) Try.underlying26 rfl zqk) rfl ?_;exact⟨_,_,by first|rfl|(simp [errW_none,errW_some] <;> rfl)|(simp only [← c7];first|rfl|(simp [errW_none,errW_some] <;> rfl))|(simp [*,errW_none,errW_some] <;> rfl),by refine zqfS ?_;exact Kd.S_mono (Kd.S_far (p:=⟨a5,1,none⟩) (Kd.S_far (p:=⟨a5,0,none⟩) (Kd.S_types b2.out a4.out (by decide)) (fun _ hk=>hk.2) (.slice b0 a8.length b1)) (fun _ hk=>hk.2) (.slice b5 a6.length b6)) (fun _ hk=>hk.1),by refine zqfQ ?_;exact Kd.Q_mono (Kd.Q_far (p:=⟨a5,1,none⟩) (Kd.Q_far (p:=⟨a5,0,none⟩) (Kd.Q_types b3.out a4.out (by decide)) (fun _ hk=>hk.2) (.slice b0 a8.length b1)) (fun _ hk=>hk.2) (.slice b5 a6.length b6)) (fun _ hk=>trivial),zq26,zq45,zq50⟩
end Go.Proofs.Ytcbjpdaogicibaa.Print
end
section
namespace Go.Proofs.Ytcbjpdaogicibaa.Print
open Go.RowKit Go.Proofs.YtcbjpdaogicibaaW.PrintWords Go.Proofs.YtcbjpdaogicibaaW.PrintLast Go.Proofs.YtcbjpdaogicibaaW.PrintMore
open Oml
section
section
variable {b : List Int} (hb : Bytes b) (hl : b.length ≤ 2000)
include hb hl
theorem two_ev {p : Int} (h0 : 0 ≤ p) (h1 : p ≤ 999999000) (n : Int) : ∃ V M x y q, Ev (fun k => spec_l20Two.f k b p n) (V, M, x, y, q) ∧ p ≤ q ∧ q ≤ p + 124 := by
 obtain⟨V,M,q,h,k1,k2⟩:=logic_ev hb hl h0 (by omega) n
 obtain⟨v1,e1,_,_⟩:=pick_ev hb hl (p:=q) (by omega) (by omega) (mx (M.length:Int) 1)
 obtain⟨v2,e2,_,_⟩:=pick_ev hb hl (p:=q+1) (by omega) (by omega) 40
 obtain⟨v3,e3,_,_⟩:=pick_ev hb hl (p:=q+1+1) (by omega) (by omega) (mx (M.length:Int) 1)
 obtain⟨v4,e4,_,_⟩:=pick_ev hb hl (p:=q+1+1+1) (by omega) (by omega) 40
 exact⟨_,_,_,_,q+1+1+1+1,Ev.bind h (Ev.bind e1 (Ev.bind e2 (Ev.bind e3 (Ev.bind e4 (Ev.now _))))),by omega,by omega⟩
end
end
end Go.Proofs.Ytcbjpdaogicibaa.Print
end
section
namespace Go.Proofs.Ytcbjpdaogicibaa.Print
open Go.RowKit Go.Proofs.YtcbjpdaogicibaaW.PrintWords Go.Proofs.YtcbjpdaogicibaaW.PrintLast Go.Proofs.YtcbjpdaogicibaaW.PrintMore
def spec_l20Three.f (k : Nat) (s0_0 : List Int) (s0_1 : Int) (a1 : Int) : Option ((List (List Int)) × List Int × Int × Int × Int × Int) := (spec_l20Two.f k s0_0 s0_1 a1).bind fun bt805 => ((spec_l20Rd_pick.f k s0_0 bt805.2.2.2.2 (mx (bt805.2.1.length : Int) 1)).bind fun bt815 => (some (bt805.1, bt805.2.1, bt805.2.2.1, bt805.2.2.2.1, bt815.1, bt815.2)))
def spec_l20Three.T2 : Bool × List (List Nat × List Nat) := (true, [([], []), ([], []), ([], []), ([], []), ([], []), ([4], [4]), ([5], [5]), ([6], [6]), ([3, 7], [3, 7]), ([0, 8, 0], [0]), ([1, 9, 0, 1, 9], [1]), ([2, 10, 0, 1, 2, 9, 10], [2]), ([8, 11, 0, 1, 2, 3, 4, 5, 6, 7, 8, 9, 10, 11], [8])])
def spec_l20Three.B2 : List Nat := [0, 0, 0, 0, 0, 16, 48, 112, 248, 505, 1019, 2047, 4095]
theorem spec_l20Three.tab2 : rtab .any (opsOf Try.f101 2) = spec_l20Three.T2 := by kernel_rfl
theorem spec_l20Three.bits2 : waitsOk spec_l20Three.T2.2 spec_l20Three.B2 = true := by kernel_rfl
set_option maxHeartbeats 8000000 in
set_option maxRecDepth 100000 in
theorem spec_l20Three.calls (k : Nat) (g : Nat) (s0_0 : List Int) (s0_1 : Int) (a1 : Int) (r1 : List (List Int)) (r2 : List Int) (r3 : Int) (r4 : Int) (r5 : Int) (r6 : Int) (w0 w : World) (hI : IsS110 w0 w g s0_0 s0_1) (hB : Below w0.heap.size w0 w) (h : spec_l20Three.f k s0_0 s0_1 a1 = some (r1, r2, r3, r4, r5, r6)) :
  Calls Try.prog 101 #[.pointer (some ⟨g, 0, none⟩), .int .i64 a1] w fun e w' => ∃ v0_ v1_ : Value, e = .returned (.tuple #[.agg #[v0_, v1_], .int .i64 r3, .int .i64 r4, .int .i64 r5]) ∧ Kd.S (Kd.slice 3 (Kd.int .i64)) 24 w' w.heap.size (fun k_ => some k_ ≠ (v1_ : Value).ownBlock) v0_ r1 ∧ Kd.Q (Kd.int .i64) 3 w' w.heap.size (fun _ => True) v1_ r2 ∧ IsS110 w0 w' g s0_0 r6 ∧ Below w0.heap.size w0 w' ∧ KeepBut w w' g none := by
 have hu26:=Try.underlying26;have a3:=zqm hI;have HK:=zqm (KeepBut.refl w g none);have HL:=zqm hB.size;clear hI;have e2:=zqm hB.size;have HB:=zqm hB;clear hB;have H:((spec_l20Two.f k s0_0 s0_1 a1).bind fun c1=>((spec_l20Rd_pick.f k s0_0 c1.2.2.2.2 (mx (c1.2.1.length:Int) 1)).bind fun b9=>(some (c1.1,c1.2.1,c1.2.2.1,c1.2.2.2.1,b9.1,b9.2))))=some (r1,r2,r3,r4,r5,r6):=h;clear h;replace H:=Option.bind_eq_some_iff.mp H;obtain⟨⟨a6,a4,d4,d5,c0⟩,e0,H⟩:=H;replace H:((spec_l20Rd_pick.f k s0_0 c0 (mx (a4.length:Int) 1)).bind fun b9=>(some (a6,a4,d4,d5,b9.1,b9.2)))=some (r1,r2,r3,r4,r5,r6):=H;have A3:=zqm e0;clear e0;obtain⟨c6,c2⟩: ∃j_:Int,(mx (a4.length:Int) 1)=j_:=⟨_,rfl⟩;(replace H:((spec_l20Rd_pick.f k s0_0 c0 (c6)).bind fun b9=>(some (a6,a4,d4,d5,b9.1,b9.2)))=some (r1,r2,r3,r4,r5,r6):=by first|(rw [c2] at H;exact H)|(simp only [c2] at H ⊢;exact H));(try rw [c2] at A3);(try(have hji4l:1≤c6:=by(rw [← c2];unfold mx;(repeat' split) <;> omega)));(try(have hji4m:0≤c6:=by omega));have f3:(if(a4.length:Int)<1 then 1 else(a4.length:Int))=c6:=c2;replace H:=Option.bind_eq_some_iff.mp H;obtain⟨⟨d8,d9⟩,e1,H⟩:=H;replace H:(some (a6,a4,d4,d5,d8,d9))=some (r1,r2,r3,r4,r5,r6):=H;have A5:=zqm e1;clear e1;simp only [Option.some.injEq,Prod.mk.injEq] at H;obtain⟨rfl,rfl,rfl,rfl,rfl,rfl⟩:=H
 go_enter Try.func101,Try.ntmps101
 (try go_wp2_with (first|((with_reducible refine gate_dst (N:=4) rfl ?_);refine box_event ?hg (N:=4) ?hd (cs:= #[.slice none 0 0,.slice none 0 0]) (t:=26) ?hr ?_;(case hd=>rfl);(case hg=>rfl);(case hr=> exact zq17);intro a2 hg w6 hbox hb;have c7:=zqm (IsS110.below zq155 hb);have c8:=zqm (KeepBut.trans zq11 (KeepBut.of_below hb g none) (.inl rfl));replace HB:=zqm (below_step (by repeat(first|(with_reducible first|exact HB.out|apply below_alloc|apply pw_below_drewN|apply below_drew1|refine below_set ?_ (IsS110.ge a3.out))|exact HB.out)) hb);have a5:=zqm (hbox);have b7:=zqm ((by rw [hg];exact(keep_size (w:=w) (g:=g) (row:=none) zq11):w.heap.size≤a2));have c3:=zqm ((Nat.le_trans e2.out (by rw [hg];exact(keep_size (w:=w) (g:=g) (row:=none) zq11):w.heap.size≤a2):w0.heap.size≤a2));have b1:=zqm ((by rw [hg];exact Nat.ne_of_lt (IsS110.lt (show IsS110 w0 _ g s0_0 s0_1 from zq155)):g≠a2));have c4:=zqm ((by rw [hg];exact Nat.ne_of_gt (IsS110.lt (show IsS110 w0 _ g s0_0 s0_1 from zq155)):a2≠g));clear a3 HK;have a3:=c7;have HK:=c8;clear c7 c8 hb hbox hg)|((with_reducible refine gate_callee (f:=86) rfl ?_);refine goesL_ (some 14) rfl rfl Try.func86 zqk rfl #[.pointer (some ⟨g,0,none⟩),.int .i64 a1] rfl zq1 ?_;(with_reducible refine(spec_l20Two.calls k g s0_0 s0_1 a1 a6 a4 d4 d5 c0 w0 _ ?side1 ?side2 A3.out).mono ?_);(case side1=> exact zq76);(case side2=> exact zq164);rintro e w7 ⟨f8,f9,rfl,e3,e4,hi,hb,hk⟩;refine⟨_,rfl,?_⟩;replace a5:=zqm (KeepBut.blk hk (g':=a2) (o:= .cells #[.slice none 0 0,.slice none 0 0] 26 (0,0)) (zqe a5.out) c4.out (by simp));have b3:=zqm (Kd.S_lower e3 (keep_size (w:=w) (g:=g) (row:=none) zq57));have b4:=zqm (Kd.Q_lower e4 (keep_size (w:=w) (g:=g) (row:=none) zq57));replace HK:=zqm (KeepBut.trans zq57 hk (.inl rfl));replace HB:=zqm (hb);replace a3:=zqm (hi);clear hb hk hi e3 e4)|((with_reducible refine gate_dst (N:=8) rfl ?_);refine box_event ?hg (N:=8) ?hd (cs:= #[.slice none 0 0,.slice none 0 0]) (t:=26) ?hr ?_;(case hd=>rfl);(case hg=>rfl);(case hr=> exact zq17);intro a0 hg w8 hbox hb;replace b3:=zqm (Kd.S_below (zqfS b3.out) hb);replace b4:=zqm (Kd.Q_below (zqfQ b4.out) hb);have c9:=zqm (IsS110.below zq76 hb);have d0:=zqm (blk_below (g:=a2) (o:= .cells #[.slice none 0 0,.slice none 0 0] 26 (0,0)) (zqe a5.out) hb);have d1:=zqm (KeepBut.trans zq57 (KeepBut.of_below hb g none) (.inl rfl));replace HB:=zqm (below_step zq164 hb);have a7:=zqm (hbox);have d3:=zqm ((by rw [hg];exact(keep_size (w:=w) (g:=g) (row:=none) zq57):w.heap.size≤a0));have d2:=zqm ((Nat.le_trans e2.out (by rw [hg];exact(keep_size (w:=w) (g:=g) (row:=none) zq57):w.heap.size≤a0):w0.heap.size≤a0));have b6:=zqm ((by rw [hg];exact Nat.ne_of_lt (blk_lt (g:=a2) (o:= .cells #[.slice none 0 0,.slice none 0 0] 26 (0,0)) (zqe a5.out)):a2≠a0));have b0:=zqm ((by rw [hg];exact Nat.ne_of_gt (blk_lt (g:=a2) (o:= .cells #[.slice none 0 0,.slice none 0 0] 26 (0,0)) (zqe a5.out)):a0≠a2));have b8:=zqm ((by rw [hg];exact Nat.ne_of_lt (IsS110.lt (show IsS110 w0 _ g s0_0 c0 from zq76)):g≠a0));have c5:=zqm ((by rw [hg];exact Nat.ne_of_gt (IsS110.lt (show IsS110 w0 _ g s0_0 c0 from zq76)):a0≠g));clear a3 a5 HK;have a3:=c9;have a5:=d0;have HK:=d1;clear c9 d0 d1 hb hbox hg;obtain⟨b2,b5,f1⟩:=Kd.S_slice b3.out;subst f1;have f4:=b0.out;have f6:=b6.out;have f5:=c5.out;have f7:=b8.out;have e7:w8.cell? ⟨a0,0,none⟩=some (.slice none 0 0):=(blk_cell a7.out 0).trans rfl;have e8:w8.cell? ⟨a0,1,none⟩=some (.slice none 0 0):=(blk_cell a7.out 1).trans rfl;have e9:=blk_frozen a7.out 0;have f0:=blk_frozen a7.out 1;obtain⟨a8,a9,e6,_⟩:=Kd.Q_slice b4.out;subst e6)))
 have c7:Aside0 (Kd.S (Kd.slice 3 (Kd.int .i64)) 24 ((w8.setCell ⟨a0,0,none⟩ (.slice b2 a6.length b5)).setCell ⟨a0,1,none⟩ (.slice a8 a4.length a9)) w.heap.size (fun k_=>some k_≠(.slice a8 a4.length a9:Value).ownBlock) (.slice b2 a6.length b5) a6):=⟨by refine zqfS ?_;exact Kd.S_mono (Kd.S_far (p:=⟨a0,1,none⟩) (Kd.S_far (p:=⟨a0,0,none⟩) (Kd.S_types b3.out a7.out (by decide)) (fun _ hk=>hk.2) (.slice b2 a6.length b5)) (fun _ hk=>hk.2) (.slice a8 a4.length a9)) (fun _ hk=>hk.1)⟩;have c8:Aside0 (Kd.Q (Kd.int .i64) 3 ((w8.setCell ⟨a0,0,none⟩ (.slice b2 a6.length b5)).setCell ⟨a0,1,none⟩ (.slice a8 a4.length a9)) w.heap.size (fun _=>True) (.slice a8 a4.length a9) a4):=⟨by refine zqfQ ?_;exact Kd.Q_mono (Kd.Q_far (p:=⟨a0,1,none⟩) (Kd.Q_far (p:=⟨a0,0,none⟩) (Kd.Q_types b4.out a7.out (by decide)) (fun _ hk=>hk.2) (.slice b2 a6.length b5)) (fun _ hk=>hk.2) (.slice a8 a4.length a9)) (fun _ hk=>trivial)⟩;have c9:Aside0 (((w8.setCell ⟨a0,0,none⟩ (.slice b2 a6.length b5)).setCell ⟨a0,1,none⟩ (.slice a8 a4.length a9)).heap[a2]? =some (.cells #[.slice none 0 0,.slice none 0 0] 26 (0,0))):=⟨by refine zqe ?_;refine blk_far ?_ b6.out _;refine zqe ?_;refine blk_far ?_ b6.out _;refine zqe ?_;exact a5.out⟩;have d0:Aside0 (((w8.setCell ⟨a0,0,none⟩ (.slice b2 a6.length b5)).setCell ⟨a0,1,none⟩ (.slice a8 a4.length a9)).heap[a0]? =some (.cells #[.slice b2 a6.length b5,.slice a8 a4.length a9] 26 (0,0))):=⟨by refine zqe ?_;refine blk_put (cs:= #[.slice b2 a6.length b5,.slice none 0 0]) ?_ 1 _ rfl;refine zqe ?_;refine blk_put (cs:= #[.slice none 0 0,.slice none 0 0]) ?_ 0 _ rfl;refine zqe ?_;exact a7.out⟩;have d1:Aside0 (IsS110 w0 ((w8.setCell ⟨a0,0,none⟩ (.slice b2 a6.length b5)).setCell ⟨a0,1,none⟩ (.slice a8 a4.length a9)) g s0_0 c0):=⟨zq54⟩;have d6:Aside0 (KeepBut w ((w8.setCell ⟨a0,0,none⟩ (.slice b2 a6.length b5)).setCell ⟨a0,1,none⟩ (.slice a8 a4.length a9)) g none):=⟨zq90⟩;have d7:Aside0 (Below w0.heap.size w0 ((w8.setCell ⟨a0,0,none⟩ (.slice b2 a6.length b5)).setCell ⟨a0,1,none⟩ (.slice a8 a4.length a9))):=⟨zq78⟩;generalize ((w8.setCell ⟨a0,0,none⟩ (.slice b2 a6.length b5)).setCell ⟨a0,1,none⟩ (.slice a8 a4.length a9))=f2 at c7 c8 c9 d0 d1 d6 d7 ⊢;have b3:=c7;have b4:=c8;have a5:=c9;have a7:=d0;have a3:=d1;have HK:=d6;have HB:=d7;clear c7 c8 c9 d0 d1 d6 d7;replace b3:=zqm (Kd.S_drew b3.out);replace b4:=zqm (Kd.Q_drew b4.out);replace a5:=zqm (blk_drew a5.out);replace a7:=zqm (blk_drew a7.out);replace a3:=zqm (IsS110.drew a3.out);replace HK:=zqm (keep_drew HK.out);replace HB:=zqm (below_drew1 HB.out);refine start_ (n:=13) (S:=fun w'=>w'.cell? ⟨a0,0,none⟩=some (.slice b2 a6.length b5)∧w'.cell? ⟨a0,1,none⟩=some (.slice a8 a4.length a9)) (ds:= []) (zqb 13 0) zqk rfl rfl ⟨(blk_cell a7.out 0).trans rfl,(blk_cell a7.out 1).trans rfl⟩ (fun hHeld=>?_);refine with_tabW spec_l20Three.tab2 spec_l20Three.bits2 (fun HT_ HW_=>?_);generalize f2.drew=g0 at b3 b4 a5 a7 a3 HK HB hHeld ⊢;refine zqp 1 19 (zqb 13 2) HT_ ?_;refine zqp 2 20 (zqb 13 6) HT_ ?_;refine zqp 3 21 (zqb 13 14) HT_ ?_;refine zqp 4 22 (zqb 13 30) HT_ ?_;refine zqw 0 18 (zqb 13 31) HT_ HW_ hHeld ?_;refine zqw 5 23 (zqb 13 63) HT_ HW_ hHeld ?_;refine zqp 6 24 (zqb 13 127) HT_ ?_;refine zqp 7 25 (zqb 13 255) HT_ ?_;refine one_ (i:=8) (N:=some 26) (zqb 13 511) rfl rfl (one_of HT_.out zqk) (by decide) (fun K hK=>?_);refine goes_ Try.func91 zqk rfl #[.pointer (some ⟨g,0,none⟩),.int .i64 c6] (by rfl) rfl rfl (by(try simp only [List.map_toArray,List.map_cons,List.map_nil]);first|done|(simp only [c2];rfl)|rfl|(simp only [List.length_drop,List.length_take];rfl)) ?_;(with_reducible refine(spec_l20Rd_pick.calls k g s0_0 c0 c6 d8 d9 w0 _ ?side1 ?side2 A5.out).mono ?_);(case side1=> exact zq54);(case side2=> exact zq78)
 rintro e e5 ⟨rfl,hi,hb,hk⟩;refine⟨_,rfl,?_⟩;replace a5:=zqm (KeepBut.blk hk (g':=a2) (o:= .cells #[.slice none 0 0,.slice none 0 0] 26 (0,0)) (zqe a5.out) c4.out (by simp));replace b3:=zqm (Kd.S_mono (Kd.S_keep (IsS110.apartS (show IsS110 w0 _ g s0_0 c0 from zq54) (zqfS b3.out) (by decide)) hk (fun _ h=>h.2)) (fun _ h=>h.1));replace b4:=zqm (Kd.Q_mono (Kd.Q_keep (IsS110.apartQ (show IsS110 w0 _ g s0_0 c0 from zq54) (zqfQ b4.out) (by decide)) hk (fun _ h=>h.2)) (fun _ h=>h.1));replace a7:=zqm (KeepBut.blk hk (g':=a0) (o:= .cells #[.slice b2 a6.length b5,.slice a8 a4.length a9] 26 (0,0)) (zqe a7.out) c5.out (by simp));replace HK:=zqm (KeepBut.trans zq90 hk (.inl rfl));replace HB:=zqm (hb);replace a3:=zqm (hi);clear hb hk hi;refine hK.out _ _ ⟨(blk_cell a7.out 0).trans rfl,(blk_cell a7.out 1).trans rfl⟩ (fun hHeld=>?_);clear hK K;refine norm_ (a':=?_) ?_ ?_;rotate_left
 ·show Act.put _ (some 26) _=_;exact zqs
 refine one_ (i:=9) (N:=none) (zqb 13 1023) rfl rfl (one_of HT_.out zqk) (by decide) (fun K hK=>?_);have hs17:e5.cell? ⟨a2,0,none⟩=some (.slice none 0 0):=(blk_cell a5.out 0).trans rfl;have hfs17:=blk_frozen a5.out 0;have hns17_1:=b0.out;have hms17_1:=b6.out;have hs18:e5.cell? ⟨a2,1,none⟩=some (.slice none 0 0):=(blk_cell a5.out 1).trans rfl;have hfs18:=blk_frozen a5.out 1;have hns18_1:=b0.out;have hms18_1:=b6.out;refine skip_ (w1:=?_) (by rfl) rfl ?_ ?_;rotate_left
 ·go_simp;rfl
 refine hK.out _ _ ⟨((cell_far (p:=⟨a2,_,none⟩) b0.out _).trans (((cell_far (p:=⟨a2,_,none⟩) b0.out _).trans (hHeld.1)))),((cell_far (p:=⟨a2,_,none⟩) b0.out _).trans (((cell_far (p:=⟨a2,_,none⟩) b0.out _).trans (hHeld.2))))⟩ (fun hHeld=>?_);clear hK K;refine zqp 10 5 (zqb 13 2047) HT_ ?_;refine zqp 11 6 (zqb 13 4095) HT_ ?_;refine zqp 12 7 (zqb 13 8191) HT_ ?_;refine done_ (done_of HT_.out zqk) ?_;(try go_wp2);refine bodyPost_ret (results_list (rs:= [.cell 4 26,.tmp 5,.tmp 6,.tmp 7]) rfl (by simp) (.cell a2 26 #[.slice b2 a6.length b5,.slice a8 a4.length a9] (0,0) _ rfl (by refine zqe ?_;refine blk_put (cs:= #[.slice b2 a6.length b5,.slice none 0 0]) ?_ 1 _ rfl;refine zqe ?_;refine blk_put (cs:= #[.slice none 0 0,.slice none 0 0]) ?_ 0 _ rfl;refine zqe ?_;exact a5.out) Try.underlying26 rfl zqk (.tmp (.tmp (.tmp .nil))))) rfl ?_;exact⟨_,_,by first|rfl|(simp [errW_none,errW_some] <;> rfl)|(simp only [← c2];first|rfl|(simp [errW_none,errW_some] <;> rfl))|(simp [*,errW_none,errW_some] <;> rfl),by refine zqfS ?_;exact Kd.S_mono (Kd.S_far (p:=⟨a2,1,none⟩) (Kd.S_far (p:=⟨a2,0,none⟩) (Kd.S_types b3.out a5.out (by decide)) (fun _ hk=>hk.2) (.slice b2 a6.length b5)) (fun _ hk=>hk.2) (.slice a8 a4.length a9)) (fun _ hk=>hk.1),by refine zqfQ ?_;exact Kd.Q_mono (Kd.Q_far (p:=⟨a2,1,none⟩) (Kd.Q_far (p:=⟨a2,0,none⟩) (Kd.Q_types b4.out a5.out (by decide)) (fun _ hk=>hk.2) (.slice b2 a6.length b5)) (fun _ hk=>hk.2) (.slice a8 a4.length a9)) (fun _ hk=>trivial),zq54,zq78,zq90⟩
def spec_DrawValueOf.f (k : Nat) (l0 : List Int) : Option ((List (List Int)) × List Int × ByteArray × Int × Int × Int) := (spec_l20Open.f l0).bind fun bt854 => ((spec_l20Three.f k bt854.1 bt854.2 14).bind fun bt857 => ((spec_l20Formed.f k bt854.1 bt857.2.2.2.2.2 14).bind fun bt868 => (some (bt857.1, bt857.2.1, bt868.1, bt857.2.2.1, bt857.2.2.2.1, bt857.2.2.2.2.1))))
def spec_DrawValueOf.T3 : Bool × List (List Nat × List Nat) := (true, [([], []), ([], []), ([1], [1]), ([], []), ([], []), ([], []), ([0, 2, 0], [0]), ([2, 6, 0, 1, 2, 6], [2]), ([3, 7, 0, 1, 2, 3, 6, 7], [3]), ([4, 8, 0, 1, 2, 3, 4, 6, 7, 8], [4]), ([5, 9, 0, 1, 2, 3, 4, 5, 6, 7, 8, 9], [5])])
def spec_DrawValueOf.B3 : List Nat := [0, 0, 2, 0, 0, 0, 7, 71, 207, 479, 1023]
theorem spec_DrawValueOf.tab3 : rtab .any (opsOf Try.f39 3) = spec_DrawValueOf.T3 := by kernel_rfl
theorem spec_DrawValueOf.bits3 : waitsOk spec_DrawValueOf.T3.2 spec_DrawValueOf.B3 = true := by kernel_rfl
set_option maxHeartbeats 8000000 in
set_option maxRecDepth 100000 in
theorem spec_DrawValueOf.calls (k : Nat) (A0 : Option Addr) (c0 : Nat) (l0 : List Int) (r1 : List (List Int)) (r2 : List Int) (r3 : ByteArray) (r4 : Int) (r5 : Int) (r6 : Int) (w : World) (hr0 : Kd.C (Kd.int .u8) w A0 l0.length l0) (hc0 : l0.length ≤ c0) (h : spec_DrawValueOf.f k l0 = some (r1, r2, r3, r4, r5, r6)) :
  Calls Try.prog 39 #[.slice A0 l0.length c0] w fun e w' => ∃ v0_ v1_ : Value, e = .returned (.tuple #[.agg #[v0_, v1_], .string r3, .int .i64 r4, .int .i64 r5, .int .i64 r6]) ∧ Kd.S (Kd.slice 3 (Kd.int .i64)) 24 w' w.heap.size (fun k_ => some k_ ≠ (v1_ : Value).ownBlock) v0_ r1 ∧ Kd.Q (Kd.int .i64) 3 w' w.heap.size (fun _ => True) v1_ r2 ∧ Below w.heap.size w w' := by
 have hu26:=Try.underlying26;have f1:=zqm hr0;have f0:=zqm hc0;clear hr0 hc0;have HB:=zqm (Below.refl w.heap.size w);have H:((spec_l20Open.f l0).bind fun d2=>((spec_l20Three.f k d2.1 d2.2 14).bind fun b3=>((spec_l20Formed.f k d2.1 b3.2.2.2.2.2 14).bind fun c3=>(some (b3.1,b3.2.1,c3.1,b3.2.2.1,b3.2.2.2.1,b3.2.2.2.2.1)))))=some (r1,r2,r3,r4,r5,r6):=h;clear h;replace H:=Option.bind_eq_some_iff.mp H;obtain⟨⟨b9,d3⟩,d8,H⟩:=H;replace H:((spec_l20Three.f k b9 d3 14).bind fun b3=>((spec_l20Formed.f k b9 b3.2.2.2.2.2 14).bind fun c3=>(some (b3.1,b3.2.1,c3.1,b3.2.2.1,b3.2.2.2.1,b3.2.2.2.2.1))))=some (r1,r2,r3,r4,r5,r6):=H;have A2:=zqm d8;clear d8;replace H:=Option.bind_eq_some_iff.mp H;obtain⟨⟨a5,a6,d4,d5,d6,c2⟩,d9,H⟩:=H;replace H:((spec_l20Formed.f k b9 c2 14).bind fun c3=>(some (a5,a6,c3.1,d4,d5,d6)))=some (r1,r2,r3,r4,r5,r6):=H;have A3:=zqm d9;clear d9;replace H:=Option.bind_eq_some_iff.mp H;obtain⟨⟨d7,e5⟩,e0,H⟩:=H;replace H:(some (a5,a6,d7,d4,d5,d6))=some (r1,r2,r3,r4,r5,r6):=H;have A4:=zqm e0;clear e0;simp only [Option.some.injEq,Prod.mk.injEq] at H;obtain⟨rfl,rfl,rfl,rfl,rfl,rfl⟩:=H
 go_enter Try.func39,Try.ntmps39
 (try go_wp2_with (first|((with_reducible refine gate_dst (N:=2) rfl ?_);refine box_event ?hg (N:=2) ?hd (cs:= #[.slice none 0 0,.slice none 0 0]) (t:=26) ?hr ?_;(case hd=>rfl);(case hg=>rfl);(case hr=> exact zq17);intro a3 hg w5 hbox hb;have c1:=zqm (below_step zq0 hb);have a2:=zqm (hbox);have f4:=zqm ((by rw [hg];exact(below_size zq0):w.heap.size≤a3));have b6:=zqm ((by rw [hg];exact(below_size zq0):w.heap.size≤a3));clear HB;have HB:=c1;clear c1 hb hbox hg)|((with_reducible refine gate_callee (f:=69) rfl ?_);refine goesL_ (some 13) rfl rfl Try.func69 zqk rfl #[.slice A0 l0.length c0] rfl zq1 ?_;(with_reducible refine(spec_l20Open.calls _ _ l0 b9 d3 w _ ?side1 ?side2 ?side3 A2.out).mono ?_);(case side1=>repeat(first|(with_reducible first|exact HB.out|apply below_alloc|apply pw_below_drewN|apply below_drew1|refine below_set ?_ b6.out)|exact HB.out));(case side2=>exact f1.out);(case side3=>exact f0.out);rintro e w6 ⟨g856,rfl,hi,hb,hb2⟩;refine⟨_,rfl,?_⟩;have c1:=zqm (blk_below (g:=a3) (o:= .cells #[.slice none 0 0,.slice none 0 0] 26 (0,0)) (zqe a2.out) hb2);replace HB:=zqm (hb);have a0:=zqm (hi);have a7:=zqm (IsS110.ne_blk hi (blk_below (g:=a3) (o:= .cells #[.slice none 0 0,.slice none 0 0] 26 (0,0)) (zqe a2.out) hb2) (by decide));have c7:=zqm (Ne.symm (IsS110.ne_blk hi (blk_below (g:=a3) (o:= .cells #[.slice none 0 0,.slice none 0 0] 26 (0,0)) (zqe a2.out) hb2) (by decide)));clear a2;have a2:=c1;clear c1 hb hb2 hi)|((with_reducible refine gate_callee (f:=101) rfl ?_);refine goesL_ (some 16) rfl rfl Try.func101 zqk rfl #[.pointer (some ⟨g856,0,none⟩),.int .i64 14] rfl zq1 ?_;(with_reducible refine(spec_l20Three.calls k g856 b9 d3 14 a5 a6 d4 d5 d6 c2 w _ ?side1 ?side2 A3.out).mono ?_);(case side1=> exact zq43);(case side2=> exact zq51);rintro e w7 ⟨g0,g1,rfl,e1,e2,hi,hb,hk⟩;refine⟨_,rfl,?_⟩;replace a2:=zqm (KeepBut.blk hk (g':=a3) (o:= .cells #[.slice none 0 0,.slice none 0 0] 26 (0,0)) (zqe a2.out) c7.out (by simp));have b1:=zqm (Kd.S_lower e1 (below_size zq51));have b2:=zqm (Kd.Q_lower e2 (below_size zq51));replace HB:=zqm (hb);replace a0:=zqm (hi);clear hb hk hi e1 e2)|((with_reducible refine gate_dst (N:=8) rfl ?_);refine box_event ?hg (N:=8) ?hd (cs:= #[.slice none 0 0,.slice none 0 0]) (t:=26) ?hr ?_;(case hd=>rfl);(case hg=>rfl);(case hr=> exact zq17);intro a1 hg w8 hbox hb;replace b1:=zqm (Kd.S_below (zqfS b1.out) hb);replace b2:=zqm (Kd.Q_below (zqfQ b2.out) hb);have c4:=zqm (blk_below (g:=a3) (o:= .cells #[.slice none 0 0,.slice none 0 0] 26 (0,0)) (zqe a2.out) hb);have c5:=zqm (IsS110.below zq43 hb);have c6:=zqm (below_step zq51 hb);have a4:=zqm (hbox);have f5:=zqm ((by rw [hg];exact(below_size zq51):w.heap.size≤a1));have d1:=zqm ((by rw [hg];exact(below_size zq51):w.heap.size≤a1));have b7:=zqm ((by rw [hg];exact Nat.ne_of_lt (blk_lt (g:=a3) (o:= .cells #[.slice none 0 0,.slice none 0 0] 26 (0,0)) (zqe a2.out)):a3≠a1));have a9:=zqm ((by rw [hg];exact Nat.ne_of_gt (blk_lt (g:=a3) (o:= .cells #[.slice none 0 0,.slice none 0 0] 26 (0,0)) (zqe a2.out)):a1≠a3));have b8:=zqm ((by rw [hg];exact Nat.ne_of_lt (IsS110.lt (show IsS110 w _ g856 b9 c2 from zq43)):g856≠a1));have c8:=zqm ((by rw [hg];exact Nat.ne_of_gt (IsS110.lt (show IsS110 w _ g856 b9 c2 from zq43)):a1≠g856));clear a2 a0 HB;have a2:=c4;have a0:=c5;have HB:=c6;clear c4 c5 c6 hb hbox hg;obtain⟨b4,b5,f2⟩:=Kd.S_slice b1.out;subst f2;have f6:=a9.out;have f8:=b7.out;have f7:=c8.out;have f9:=b8.out;have e6:w8.cell? ⟨a1,0,none⟩=some (.slice none 0 0):=(blk_cell a4.out 0).trans rfl;have e7:w8.cell? ⟨a1,1,none⟩=some (.slice none 0 0):=(blk_cell a4.out 1).trans rfl;have e8:=blk_frozen a4.out 0;have e9:=blk_frozen a4.out 1;obtain⟨a8,b0,e4,_⟩:=Kd.Q_slice b2.out;subst e4)))
 have c1:Aside0 (Kd.S (Kd.slice 3 (Kd.int .i64)) 24 ((w8.setCell ⟨a1,0,none⟩ (.slice b4 a5.length b5)).setCell ⟨a1,1,none⟩ (.slice a8 a6.length b0)) w.heap.size (fun k_=>some k_≠(.slice a8 a6.length b0:Value).ownBlock) (.slice b4 a5.length b5) a5):=⟨by refine zqfS ?_;exact Kd.S_mono (Kd.S_far (p:=⟨a1,1,none⟩) (Kd.S_far (p:=⟨a1,0,none⟩) (Kd.S_types b1.out a4.out (by decide)) (fun _ hk=>hk.2) (.slice b4 a5.length b5)) (fun _ hk=>hk.2) (.slice a8 a6.length b0)) (fun _ hk=>hk.1)⟩;have c9:Aside0 (Kd.Q (Kd.int .i64) 3 ((w8.setCell ⟨a1,0,none⟩ (.slice b4 a5.length b5)).setCell ⟨a1,1,none⟩ (.slice a8 a6.length b0)) w.heap.size (fun _=>True) (.slice a8 a6.length b0) a6):=⟨by refine zqfQ ?_;exact Kd.Q_mono (Kd.Q_far (p:=⟨a1,1,none⟩) (Kd.Q_far (p:=⟨a1,0,none⟩) (Kd.Q_types b2.out a4.out (by decide)) (fun _ hk=>hk.2) (.slice b4 a5.length b5)) (fun _ hk=>hk.2) (.slice a8 a6.length b0)) (fun _ hk=>trivial)⟩;have c4:Aside0 (((w8.setCell ⟨a1,0,none⟩ (.slice b4 a5.length b5)).setCell ⟨a1,1,none⟩ (.slice a8 a6.length b0)).heap[a3]? =some (.cells #[.slice none 0 0,.slice none 0 0] 26 (0,0))):=⟨zq195⟩;have c5:Aside0 (((w8.setCell ⟨a1,0,none⟩ (.slice b4 a5.length b5)).setCell ⟨a1,1,none⟩ (.slice a8 a6.length b0)).heap[a1]? =some (.cells #[.slice b4 a5.length b5,.slice a8 a6.length b0] 26 (0,0))):=⟨by refine zqe ?_;refine blk_put (cs:= #[.slice b4 a5.length b5,.slice none 0 0]) ?_ 1 _ rfl;refine zqe ?_;refine blk_put (cs:= #[.slice none 0 0,.slice none 0 0]) ?_ 0 _ rfl;refine zqe ?_;exact a4.out⟩;have c6:Aside0 (IsS110 w ((w8.setCell ⟨a1,0,none⟩ (.slice b4 a5.length b5)).setCell ⟨a1,1,none⟩ (.slice a8 a6.length b0)) g856 b9 c2):=⟨zq69⟩;have d0:Aside0 (Below w.heap.size w ((w8.setCell ⟨a1,0,none⟩ (.slice b4 a5.length b5)).setCell ⟨a1,1,none⟩ (.slice a8 a6.length b0))):=⟨zq77⟩;(try clear b1);(try clear b2);(try clear a2);(try clear a4);(try clear a0);(try clear HB);generalize ((w8.setCell ⟨a1,0,none⟩ (.slice b4 a5.length b5)).setCell ⟨a1,1,none⟩ (.slice a8 a6.length b0))=f3 at c1 c9 c4 c5 c6 d0 ⊢;have b1:=c1;have b2:=c9;have a2:=c4;have a4:=c5;have a0:=c6;have HB:=d0;clear c1 c9 c4 c5 c6 d0;replace b1:=zqm (Kd.S_drew b1.out);replace b2:=zqm (Kd.Q_drew b2.out);replace a2:=zqm (blk_drew a2.out);replace a4:=zqm (blk_drew a4.out);replace a0:=zqm (IsS110.drew a0.out);replace HB:=zqm (below_drew1 HB.out);refine start_ (n:=11) (S:=fun w'=>w'.cell? ⟨a1,0,none⟩=some (.slice b4 a5.length b5)∧w'.cell? ⟨a1,1,none⟩=some (.slice a8 a6.length b0)) (ds:= []) (zqb 11 0) zqk rfl rfl ⟨(blk_cell a4.out 0).trans rfl,(blk_cell a4.out 1).trans rfl⟩ (fun hHeld=>?_);refine with_tabW spec_DrawValueOf.tab3 spec_DrawValueOf.bits3 (fun HT_ HW_=>?_);generalize f3.drew=g2 at b1 b2 a2 a4 a0 HB hHeld ⊢;refine zqp 1 22 (zqb 11 2) HT_ ?_;refine zqp 3 24 (zqb 11 10) HT_ ?_;refine zqp 4 25 (zqb 11 26) HT_ ?_;refine zqp 5 26 (zqb 11 58) HT_ ?_;refine zqw 0 21 (zqb 11 59) HT_ HW_ hHeld ?_;refine one_ (i:=2) (N:=some 23) (zqb 11 63) rfl rfl (one_of HT_.out zqk) (by decide) (fun K hK=>?_);refine goes_ Try.func102 zqk rfl #[.pointer (some ⟨g856,0,none⟩),.int .i64 14] (by rfl) rfl rfl zq1 ?_;(with_reducible refine(spec_l20Formed.calls k g856 b9 c2 14 d7 e5 w _ ?side1 ?side2 A4.out).mono ?_);(case side1=> exact zq69);(case side2=> exact zq77);rintro e e3 ⟨rfl,hi,hb,hk⟩;refine⟨_,rfl,?_⟩;have c1:=zqm (KeepBut.blk hk (g':=a3) (o:= .cells #[.slice none 0 0,.slice none 0 0] 26 (0,0)) (zqe a2.out) c7.out (by simp));have c9:=zqm (Kd.S_mono (Kd.S_keep (IsS110.apartS (show IsS110 w _ g856 b9 c2 from zq69) (zqfS b1.out) (by decide)) hk (fun _ h=>h.2)) (fun _ h=>h.1));have c4:=zqm (Kd.Q_mono (Kd.Q_keep (IsS110.apartQ (show IsS110 w _ g856 b9 c2 from zq69) (zqfQ b2.out) (by decide)) hk (fun _ h=>h.2)) (fun _ h=>h.1))
 have c5:=zqm (KeepBut.blk hk (g':=a1) (o:= .cells #[.slice b4 a5.length b5,.slice a8 a6.length b0] 26 (0,0)) (zqe a4.out) c8.out (by simp));have c6:=zqm (hb);have d0:=zqm (hi);clear a2 b1 b2 a4 HB a0;have a2:=c1;have b1:=c9;have b2:=c4;have a4:=c5;have HB:=c6;have a0:=d0;clear c1 c9 c4 c5 c6 d0;(try clear hb);(try clear hb2);(try clear hk);(try clear hi);refine hK.out _ _ ⟨(blk_cell a4.out 0).trans rfl,(blk_cell a4.out 1).trans rfl⟩ (fun hHeld=>?_);clear hK K;refine norm_ (a':=?_) ?_ ?_;rotate_left
 ·show Act.put _ (some 23) _=_;exact zqs
 refine one_ (i:=6) (N:=none) (zqb 11 127) rfl rfl (one_of HT_.out zqk) (by decide) (fun K hK=>?_);have hs17:e3.cell? ⟨a3,0,none⟩=some (.slice none 0 0):=(blk_cell a2.out 0).trans rfl;have hfs17:=blk_frozen a2.out 0;have hns17_1:=a9.out;have hms17_1:=b7.out;have hs18:e3.cell? ⟨a3,1,none⟩=some (.slice none 0 0):=(blk_cell a2.out 1).trans rfl;have hfs18:=blk_frozen a2.out 1;have hns18_1:=a9.out;have hms18_1:=b7.out;refine skip_ (w1:=?_) (by rfl) rfl ?_ ?_;rotate_left
 ·go_simp;rfl
 refine hK.out _ _ ⟨((cell_far (p:=⟨a3,_,none⟩) a9.out _).trans (((cell_far (p:=⟨a3,_,none⟩) a9.out _).trans (hHeld.1)))),((cell_far (p:=⟨a3,_,none⟩) a9.out _).trans (((cell_far (p:=⟨a3,_,none⟩) a9.out _).trans (hHeld.2))))⟩ (fun hHeld=>?_);clear hK K;refine zqp 7 3 (zqb 11 255) HT_ ?_;refine zqp 8 4 (zqb 11 511) HT_ ?_;refine zqp 9 5 (zqb 11 1023) HT_ ?_;refine zqp 10 6 (zqb 11 2047) HT_ ?_;refine done_ (done_of HT_.out zqk) ?_;(try go_wp2);refine bodyPost_ret (results_list (rs:= [.cell 2 26,.tmp 3,.tmp 4,.tmp 5,.tmp 6]) rfl (by simp) (.cell a3 26 #[.slice b4 a5.length b5,.slice a8 a6.length b0] (0,0) _ rfl (by refine zqe ?_;refine blk_put (cs:= #[.slice b4 a5.length b5,.slice none 0 0]) ?_ 1 _ rfl;refine zqe ?_;refine blk_put (cs:= #[.slice none 0 0,.slice none 0 0]) ?_ 0 _ rfl;refine zqe ?_;exact a2.out) Try.underlying26 rfl zqk (.tmp (.tmp (.tmp (.tmp .nil)))))) rfl ?_;exact⟨_,_,zq13,by refine zqfS ?_;exact Kd.S_mono (Kd.S_far (p:=⟨a3,1,none⟩) (Kd.S_far (p:=⟨a3,0,none⟩) (Kd.S_types b1.out a2.out (by decide)) (fun _ hk=>hk.2) (.slice b4 a5.length b5)) (fun _ hk=>hk.2) (.slice a8 a6.length b0)) (fun _ hk=>hk.1),by refine zqfQ ?_;exact Kd.Q_mono (Kd.Q_far (p:=⟨a3,1,none⟩) (Kd.Q_far (p:=⟨a3,0,none⟩) (Kd.Q_types b2.out a2.out (by decide)) (fun _ hk=>hk.2) (.slice b4 a5.length b5)) (fun _ hk=>hk.2) (.slice a8 a6.length b0)) (fun _ hk=>trivial),zq77⟩
end Go.Proofs.Ytcbjpdaogicibaa.Print
end
section
namespace Go.Proofs.Ytcbjpdaogicibaa.Print
open Go.RowKit Go.Proofs.YtcbjpdaogicibaaW.PrintWords Go.Proofs.YtcbjpdaogicibaaW.PrintLast Go.Proofs.YtcbjpdaogicibaaW.PrintMore
open Oml
def impl_AndOf.f (l0_0 : List (List Int)) (l0_1 : List Int) (a1 : Int) (a2 : Int) : Option (Int) := some (if logicB l0_0 l0_1 = true then (if [a1, a2].all (inR l0_0.length) = true then (andI l0_0 a1 a2) else (-1)) else (-1))
set_option maxHeartbeats 1000000 in
theorem impl_AndOf.calls (A0_0 : Option Addr) (c0_0 : Nat) (l0_0 : List (List Int)) (A0_1 : Option Addr) (c0_1 : Nat) (l0_1 : List Int) (a1 : Int) (a2 : Int) (r : Int) (w : World) (hr0_0 : Kd.C (Kd.slice 3 (Kd.int .i64)) w A0_0 l0_0.length l0_0) (hc0_0 : l0_0.length ≤ c0_0) (hr0_1 : Kd.C (Kd.int .i64) w A0_1 l0_1.length l0_1) (hc0_1 : l0_1.length ≤ c0_1) (h : impl_AndOf.f l0_0 l0_1 a1 a2 = some r) :
 Calls Try.prog 42 #[.agg #[.slice A0_0 l0_0.length c0_0,.slice A0_1 l0_1.length c0_1],.int .i64 a1,.int .i64 a2] w fun e w'=>e= .returned (.int .i64 r)∧Below w.heap.size w w':=by
 obtain⟨k,hF⟩:=told_facts l0_0
 have hu30:=Try.underlying26
 have hu70:=Try.underlying74
 have HF:=zqm hF
 have HR0:=zqm hr0_0
 have HC0:=zqm hc0_0
 have HR1:=zqm hr0_1
 have HC1:=zqm hc0_1
 simp only [impl_AndOf.f,Option.some.injEq] at h
 clear hr0_0 hc0_0 hr0_1 hc0_1 hF
 cases hL:logicB l0_0 l0_1 with
 |false=>
  rw [hL] at h
  have hr_:(-1)=r:=by simpa using h
  subst hr_
  have HLB:=zqm hL
  clear h hL
  go_enter Try.func42,Try.ntmps42
  go_wp2_with (first|((with_reducible refine gate_dst (N:=3) rfl ?_);refine box_event ?hg (N:=3) ?hd (cs:= #[.slice A0_0 l0_0.length c0_0,.slice A0_1 l0_1.length c0_1]) (t:=26) ?hr ?_;(case hd=>rfl);(case hg=>rfl);(case hr=> exact zq17);intro gb hg_ w1 hbox hb;have HB:=zqm hb;have hx0:w1.cell? ⟨gb,0,none⟩=some (.slice A0_0 l0_0.length c0_0):=(blk_cell hbox 0).trans rfl;have hx1:w1.cell? ⟨gb,1,none⟩=some (.slice A0_1 l0_1.length c0_1):=(blk_cell hbox 1).trans rfl;have HX:=zqm hbox;clear hbox hb hg_)|(go_at_call 70;(with_reducible refine(told_n k _ _ l0_0 _ _ l0_1 _ ?s1 ?s2 ?s3 ?s4 HF.out HLB.out).mono ?_);(case s1=> exact zq61);(case s2=>exact HC0.out);(case s3=> exact zq64);(case s4=>exact HC1.out);rintro e w2 ⟨rfl,hb⟩;have HB2:=zqm (below_step HB.out hb);clear hb hx0 hx1 HX HB)|(go_at_call 87;(with_reducible refine(knows_nil _ _ _ _).mono ?_);rintro e w3 ⟨rfl,hb⟩;have HB3:=zqm (below_step zq152 hb);clear hb))
  go_ret
  exact⟨rfl,HB3.out⟩
 |true=>
  have HLB:=zqm hL
  have HLg:=zqm (logicB_iff.1 hL)
  cases hin: [a1,a2].all (inR l0_0.length) with
  |false=>
   rw [hL,hin] at h
   have hr_:(-1)=r:=by simpa using h
   subst hr_
   have HIN:=zqm hin
   clear h hL hin
   go_enter Try.func42,Try.ntmps42
   go_wp2_with (first|((with_reducible refine gate_dst (N:=3) rfl ?_);refine box_event ?hg (N:=3) ?hd (cs:= #[.slice A0_0 l0_0.length c0_0,.slice A0_1 l0_1.length c0_1]) (t:=26) ?hr ?_;(case hd=>rfl);(case hg=>rfl);(case hr=> exact zq17);intro gb hg_ w1 hbox hb;have HB:=zqm hb;have hx0:w1.cell? ⟨gb,0,none⟩=some (.slice A0_0 l0_0.length c0_0):=(blk_cell hbox 0).trans rfl;have hx1:w1.cell? ⟨gb,1,none⟩=some (.slice A0_1 l0_1.length c0_1):=(blk_cell hbox 1).trans rfl;have HX:=zqm hbox;clear hbox hb hg_)|(go_at_call 70;(with_reducible refine(told_y k _ _ l0_0 _ _ l0_1 _ ?s1 ?s2 ?s3 ?s4 HF.out HLB.out).mono ?_);(case s1=> exact zq61);(case s2=>exact HC0.out);(case s3=> exact zq64);(case s4=>exact HC1.out);rintro e w2 ⟨g,v,rfl,hv,hge,hb⟩;have HB2:=zqm (below_step HB.out hb);have HV:=zqm hv;clear hv hge hb hx0 hx1 HX HB)|(go_at_call 87;(with_reducible refine(knows_calls g l0_0 l0_1 v _ HLg.out ?s1 _ _ [a1,a2] 2 rfl ?s2 (by omega) false HIN.out).mono ?_);(case s1=> exact zq244);(case s2=>exact lit_C _ _ [a1,a2] (by simp));rintro e w3 ⟨rfl,hb⟩;have HB3:=zqm (below_step (below_alloc HB2.out _) hb);have HV3:=zqm (View.below (View.alloc HV.out _) hb);clear hb))
   go_ret
   exact⟨rfl,HB3.out⟩
  |true=>
   rw [hL,hin] at h
   have hr_:(andI l0_0 a1 a2)=r:=by simpa using h
   subst hr_
   have HIN:=zqm hin
   have hin2:=hin
   simp only [List.all_cons,List.all_nil,Bool.and_true,Bool.and_eq_true,inR_iff] at hin2
   have Ia1:=zqm (hin2.1)
   have Ia2:=zqm (hin2.2)
   clear h hL hin hin2
   go_enter Try.func42,Try.ntmps42
   go_wp2_with (first|((with_reducible refine gate_dst (N:=3) rfl ?_);refine box_event ?hg (N:=3) ?hd (cs:= #[.slice A0_0 l0_0.length c0_0,.slice A0_1 l0_1.length c0_1]) (t:=26) ?hr ?_;(case hd=>rfl);(case hg=>rfl);(case hr=> exact zq17);intro gb hg_ w1 hbox hb;have HB:=zqm hb;have hx0:w1.cell? ⟨gb,0,none⟩=some (.slice A0_0 l0_0.length c0_0):=(blk_cell hbox 0).trans rfl;have hx1:w1.cell? ⟨gb,1,none⟩=some (.slice A0_1 l0_1.length c0_1):=(blk_cell hbox 1).trans rfl;have HX:=zqm hbox;clear hbox hb hg_)|(go_at_call 70;(with_reducible refine(told_y k _ _ l0_0 _ _ l0_1 _ ?s1 ?s2 ?s3 ?s4 HF.out HLB.out).mono ?_);(case s1=> exact zq61);(case s2=>exact HC0.out);(case s3=> exact zq64);(case s4=>exact HC1.out);rintro e w2 ⟨g,v,rfl,hv,hge,hb⟩;have HB2:=zqm (below_step HB.out hb);have HV:=zqm hv;clear hv hge hb hx0 hx1 HX HB)|(go_at_call 87;(with_reducible refine(knows_calls g l0_0 l0_1 v _ HLg.out ?s1 _ _ [a1,a2] 2 rfl ?s2 (by omega) true HIN.out).mono ?_);(case s1=> exact zq244);(case s2=>exact lit_C _ _ [a1,a2] (by simp));rintro e w3 ⟨rfl,hb⟩;have HB3:=zqm (below_step (below_alloc HB2.out _) hb);have HV3:=zqm (View.below (View.alloc HV.out _) hb);clear hb;have b0_:=eq_true Ia1.out.1;have c0_:=eq_true Ia1.out.2;have b1_:=eq_true Ia2.out.1;have c1_:=eq_true Ia2.out.2;have hf1_:=HV3.out.f1;have r3_:=HV3.out.m a1 Ia1.out;have s4_:=HV3.out.m2 a1 a2 Ia1.out Ia2.out))
   go_ret
   exact⟨rfl,HB3.out⟩
def impl_NotOf.f (l0_0 : List (List Int)) (l0_1 : List Int) (a1 : Int) : Option (Int) := some (if logicB l0_0 l0_1 = true then (if [a1].all (inR l0_0.length) = true then (notI l0_1 a1) else (-1)) else (-1))
set_option maxHeartbeats 1000000 in
theorem impl_NotOf.calls (A0_0 : Option Addr) (c0_0 : Nat) (l0_0 : List (List Int)) (A0_1 : Option Addr) (c0_1 : Nat) (l0_1 : List Int) (a1 : Int) (r : Int) (w : World) (hr0_0 : Kd.C (Kd.slice 3 (Kd.int .i64)) w A0_0 l0_0.length l0_0) (hc0_0 : l0_0.length ≤ c0_0) (hr0_1 : Kd.C (Kd.int .i64) w A0_1 l0_1.length l0_1) (hc0_1 : l0_1.length ≤ c0_1) (h : impl_NotOf.f l0_0 l0_1 a1 = some r) :
 Calls Try.prog 25 #[.agg #[.slice A0_0 l0_0.length c0_0,.slice A0_1 l0_1.length c0_1],.int .i64 a1] w fun e w'=>e= .returned (.int .i64 r)∧Below w.heap.size w w':=by
 obtain⟨k,hF⟩:=told_facts l0_0
 have hu30:=Try.underlying26
 have hu70:=Try.underlying74
 have HF:=zqm hF
 have HR0:=zqm hr0_0
 have HC0:=zqm hc0_0
 have HR1:=zqm hr0_1
 have HC1:=zqm hc0_1
 simp only [impl_NotOf.f,Option.some.injEq] at h
 clear hr0_0 hc0_0 hr0_1 hc0_1 hF
 cases hL:logicB l0_0 l0_1 with
 |false=>
  rw [hL] at h
  have hr_:(-1)=r:=by simpa using h
  subst hr_
  have HLB:=zqm hL
  clear h hL
  go_enter Try.func25,Try.ntmps25
  go_wp2_with (first|((with_reducible refine gate_dst (N:=2) rfl ?_);refine box_event ?hg (N:=2) ?hd (cs:= #[.slice A0_0 l0_0.length c0_0,.slice A0_1 l0_1.length c0_1]) (t:=26) ?hr ?_;(case hd=>rfl);(case hg=>rfl);(case hr=> exact zq17);intro gb hg_ w1 hbox hb;have HB:=zqm hb;have hx0:w1.cell? ⟨gb,0,none⟩=some (.slice A0_0 l0_0.length c0_0):=(blk_cell hbox 0).trans rfl;have hx1:w1.cell? ⟨gb,1,none⟩=some (.slice A0_1 l0_1.length c0_1):=(blk_cell hbox 1).trans rfl;have HX:=zqm hbox;clear hbox hb hg_)|(go_at_call 70;(with_reducible refine(told_n k _ _ l0_0 _ _ l0_1 _ ?s1 ?s2 ?s3 ?s4 HF.out HLB.out).mono ?_);(case s1=> exact zq61);(case s2=>exact HC0.out);(case s3=> exact zq64);(case s4=>exact HC1.out);rintro e w2 ⟨rfl,hb⟩;have HB2:=zqm (below_step HB.out hb);clear hb hx0 hx1 HX HB)|(go_at_call 87;(with_reducible refine(knows_nil _ _ _ _).mono ?_);rintro e w3 ⟨rfl,hb⟩;have HB3:=zqm (below_step zq152 hb);clear hb))
  go_ret
  exact⟨rfl,HB3.out⟩
 |true=>
  have HLB:=zqm hL
  have HLg:=zqm (logicB_iff.1 hL)
  cases hin: [a1].all (inR l0_0.length) with
  |false=>
   rw [hL,hin] at h
   have hr_:(-1)=r:=by simpa using h
   subst hr_
   have HIN:=zqm hin
   clear h hL hin
   go_enter Try.func25,Try.ntmps25
   go_wp2_with (first|((with_reducible refine gate_dst (N:=2) rfl ?_);refine box_event ?hg (N:=2) ?hd (cs:= #[.slice A0_0 l0_0.length c0_0,.slice A0_1 l0_1.length c0_1]) (t:=26) ?hr ?_;(case hd=>rfl);(case hg=>rfl);(case hr=> exact zq17);intro gb hg_ w1 hbox hb;have HB:=zqm hb;have hx0:w1.cell? ⟨gb,0,none⟩=some (.slice A0_0 l0_0.length c0_0):=(blk_cell hbox 0).trans rfl;have hx1:w1.cell? ⟨gb,1,none⟩=some (.slice A0_1 l0_1.length c0_1):=(blk_cell hbox 1).trans rfl;have HX:=zqm hbox;clear hbox hb hg_)|(go_at_call 70;(with_reducible refine(told_y k _ _ l0_0 _ _ l0_1 _ ?s1 ?s2 ?s3 ?s4 HF.out HLB.out).mono ?_);(case s1=> exact zq61);(case s2=>exact HC0.out);(case s3=> exact zq64);(case s4=>exact HC1.out);rintro e w2 ⟨g,v,rfl,hv,hge,hb⟩;have HB2:=zqm (below_step HB.out hb);have HV:=zqm hv;clear hv hge hb hx0 hx1 HX HB)|(go_at_call 87;(with_reducible refine(knows_calls g l0_0 l0_1 v _ HLg.out ?s1 _ _ [a1] 1 rfl ?s2 (by omega) false HIN.out).mono ?_);(case s1=> exact zq244);(case s2=>exact lit_C _ _ [a1] (by simp));rintro e w3 ⟨rfl,hb⟩;have HB3:=zqm (below_step (below_alloc HB2.out _) hb);have HV3:=zqm (View.below (View.alloc HV.out _) hb);clear hb))
   go_ret
   exact⟨rfl,HB3.out⟩
  |true=>
   rw [hL,hin] at h
   have hr_:(notI l0_1 a1)=r:=by simpa using h
   subst hr_
   have HIN:=zqm hin
   have hin2:=hin
   simp only [List.all_cons,List.all_nil,Bool.and_true,Bool.and_eq_true,inR_iff] at hin2
   have Ia1:=zqm (hin2)
   clear h hL hin hin2
   go_enter Try.func25,Try.ntmps25
   go_wp2_with (first|((with_reducible refine gate_dst (N:=2) rfl ?_);refine box_event ?hg (N:=2) ?hd (cs:= #[.slice A0_0 l0_0.length c0_0,.slice A0_1 l0_1.length c0_1]) (t:=26) ?hr ?_;(case hd=>rfl);(case hg=>rfl);(case hr=> exact zq17);intro gb hg_ w1 hbox hb;have HB:=zqm hb;have hx0:w1.cell? ⟨gb,0,none⟩=some (.slice A0_0 l0_0.length c0_0):=(blk_cell hbox 0).trans rfl;have hx1:w1.cell? ⟨gb,1,none⟩=some (.slice A0_1 l0_1.length c0_1):=(blk_cell hbox 1).trans rfl;have HX:=zqm hbox;clear hbox hb hg_)|(go_at_call 70;(with_reducible refine(told_y k _ _ l0_0 _ _ l0_1 _ ?s1 ?s2 ?s3 ?s4 HF.out HLB.out).mono ?_);(case s1=> exact zq61);(case s2=>exact HC0.out);(case s3=> exact zq64);(case s4=>exact HC1.out);rintro e w2 ⟨g,v,rfl,hv,hge,hb⟩;have HB2:=zqm (below_step HB.out hb);have HV:=zqm hv;clear hv hge hb hx0 hx1 HX HB)|(go_at_call 87;(with_reducible refine(knows_calls g l0_0 l0_1 v _ HLg.out ?s1 _ _ [a1] 1 rfl ?s2 (by omega) true HIN.out).mono ?_);(case s1=> exact zq244);(case s2=>exact lit_C _ _ [a1] (by simp));rintro e w3 ⟨rfl,hb⟩;have HB3:=zqm (below_step (below_alloc HB2.out _) hb);have HV3:=zqm (View.below (View.alloc HV.out _) hb);clear hb;have b0_:=eq_true Ia1.out.1;have c0_:=eq_true Ia1.out.2;have hf3_:=HV3.out.f3;have n2_:=HV3.out.n a1 Ia1.out))
   go_ret
   exact⟨rfl,HB3.out⟩
end Go.Proofs.Ytcbjpdaogicibaa.Print
end
section
namespace Go.Proofs.Ytcbjpdaogicibaa.Print
open Go.RowKit Go.Proofs.YtcbjpdaogicibaaW.PrintWords Go.Proofs.YtcbjpdaogicibaaW.PrintLast Go.Proofs.YtcbjpdaogicibaaW.PrintMore
def laws_FnValueOf.f (k : Nat) (l0 : List Int) : Option (Bool) := if (l0.length : Int) > 1048576 then (some true) else ((spec_DrawValueOf.f k l0).bind fun bt893 => ((impl_ValueOf.f bt893.1 bt893.2.1 bt893.2.2.1 bt893.2.2.2.1 bt893.2.2.2.2.1 bt893.2.2.2.2.2).bind fun t904 => ((spec_ValueOf.f k bt893.1 bt893.2.1 bt893.2.2.1 bt893.2.2.2.1 bt893.2.2.2.2.1 bt893.2.2.2.2.2).bind fun t905 => (if t904 = t905 then (if t904 < 0 then (if t904 = (-1) then ((laws_alive.f k).bind fun t906 => (some t906)) else (some false)) else (if (bt893.2.2.1.size : Int) ≥ 60 then ((impl_ValueOf.f bt893.1 bt893.2.1 (⟨#[98]⟩ : ByteArray) bt893.2.2.2.1 bt893.2.2.2.2.1 bt893.2.2.2.2.2).bind fun t907 => (if t907 = bt893.2.2.2.2.1 then ((impl_ValueOf.f bt893.1 bt893.2.1 (⟨#[40, 97, 38, 99, 41]⟩ : ByteArray) bt893.2.2.2.1 bt893.2.2.2.2.1 bt893.2.2.2.2.2).bind fun t908 => ((impl_AndOf.f bt893.1 bt893.2.1 bt893.2.2.2.1 bt893.2.2.2.2.2).bind fun t909 => (some (t908 == t909)))) else (some false))) else (if 1 + bt893.2.2.1.size ≤ 9223372036854775807 then ((impl_ValueOf.f bt893.1 bt893.2.1 ((⟨#[33]⟩ : ByteArray) ++ bt893.2.2.1) bt893.2.2.2.1 bt893.2.2.2.2.1 bt893.2.2.2.2.2).bind fun t910 => ((impl_NotOf.f bt893.1 bt893.2.1 t904).bind fun t911 => (if t910 = t911 then ((impl_ValueOf.f bt893.1 bt893.2.1 (⟨#[98]⟩ : ByteArray) bt893.2.2.2.1 bt893.2.2.2.2.1 bt893.2.2.2.2.2).bind fun t912 => (if t912 = bt893.2.2.2.2.1 then ((impl_ValueOf.f bt893.1 bt893.2.1 (⟨#[40, 97, 38, 99, 41]⟩ : ByteArray) bt893.2.2.2.1 bt893.2.2.2.2.1 bt893.2.2.2.2.2).bind fun t913 => ((impl_AndOf.f bt893.1 bt893.2.1 bt893.2.2.2.1 bt893.2.2.2.2.2).bind fun t914 => (some (t913 == t914)))) else (some false))) else (some false)))) else (none)))) else (some false)))))
def laws_FnValueOf.T9 : Bool × List (List Nat × List Nat) := (true, [([], []), ([0], [0]), ([1], [1]), ([2], [2]), ([3], [3]), ([3], [3]), ([5, 3], [3, 5]), ([3], [3]), ([3], [3]), ([3], [3]), ([4, 6, 7, 8, 9, 3, 3], [3, 4, 6, 7, 8, 9]), ([3], [3]), ([3], [3]), ([11, 12, 10, 3], [3, 11, 12]), ([10, 13, 3], [3, 10, 13]), ([3, 14], [3, 14]), ([15, 13], [15]), ([16], [16]), ([16], [16]), ([16], [16]), ([16], [16]), ([17, 18, 19, 20, 16, 16], [16, 17, 18, 19, 20]), ([16], [16]), ([21, 22, 16], [16, 21, 22]), ([16, 23], [16, 23]), ([24, 21], [24]), ([25], [25]), ([25], [25]), ([25], [25]), ([25], [25]), ([26, 27, 28, 29, 25, 25], [25, 26, 27, 28, 29]), ([25], [25]), ([25], [25]), ([25], [25]), ([31, 32, 33, 30, 25], [25, 31, 32, 33]), ([30, 34, 25], [25, 30, 34]), ([25, 35], [25, 35]), ([36, 34, 0, 1, 2, 3, 4, 5, 6, 7, 8, 9, 10, 11, 12, 13, 14, 15, 16, 17, 18, 19, 20, 21, 22, 23, 24, 25, 26, 27, 28, 29, 30, 31, 32, 33, 34, 35, 36], [36])])
def laws_FnValueOf.B9 : List Nat := [0, 1, 3, 7, 15, 15, 47, 15, 15, 15, 1023, 15, 15, 8191, 16383, 32767, 65535, 131071, 131071, 131071, 131071, 2097151, 131071, 8388607, 16777215, 33554431, 67108863, 67108863, 67108863, 67108863, 1073741823, 67108863, 67108863, 67108863, 17179869183, 34359738367, 68719476735, 137438953471]
theorem laws_FnValueOf.tab9 : rtab .any (opsOf Try.f7 9) = laws_FnValueOf.T9 := by kernel_rfl
theorem laws_FnValueOf.bits9 : waitsOk laws_FnValueOf.T9.2 laws_FnValueOf.B9 = true := by kernel_rfl
set_option maxHeartbeats 8000000 in
set_option maxRecDepth 100000 in
theorem laws_FnValueOf.calls (k : Nat) (A0 : Option Addr) (c0 : Nat) (l0 : List Int) (r : Bool) (w : World) (hr0 : Kd.C (Kd.int .u8) w A0 l0.length l0) (hc0 : l0.length ≤ c0) (h : laws_FnValueOf.f k l0 = some r) :
  Calls Try.prog 7 #[.slice A0 l0.length c0] w fun e w' => e = .returned (.bool r) ∧ Below w.heap.size w w' := by
 have hu26:=Try.underlying26;have g2:=zqm hr0;have g1:=zqm hc0;clear hr0 hc0;have HB:=zqm (Below.refl w.heap.size w);have H:(if(l0.length:Int)>1048576 then(some true) else((spec_DrawValueOf.f k l0).bind fun a7=>((impl_ValueOf.f a7.1 a7.2.1 a7.2.2.1 a7.2.2.2.1 a7.2.2.2.2.1 a7.2.2.2.2.2).bind fun b2=>((spec_ValueOf.f k a7.1 a7.2.1 a7.2.2.1 a7.2.2.2.1 a7.2.2.2.2.1 a7.2.2.2.2.2).bind fun d7=>(if b2=d7 then(if b2<0 then(if b2=(-1) then((laws_alive.f k).bind fun g8=>(some g8)) else(some false)) else(if(a7.2.2.1.size:Int)≥60 then((impl_ValueOf.f a7.1 a7.2.1 (⟨#[98]⟩:ByteArray) a7.2.2.2.1 a7.2.2.2.2.1 a7.2.2.2.2.2).bind fun f7=>(if f7=a7.2.2.2.2.1 then((impl_ValueOf.f a7.1 a7.2.1 (⟨#[40,97,38,99,41]⟩:ByteArray) a7.2.2.2.1 a7.2.2.2.2.1 a7.2.2.2.2.2).bind fun g9=>((impl_AndOf.f a7.1 a7.2.1 a7.2.2.2.1 a7.2.2.2.2.2).bind fun h0=>(some (g9==h0)))) else(some false))) else(if 1+a7.2.2.1.size≤9223372036854775807 then((impl_ValueOf.f a7.1 a7.2.1 ((⟨#[33]⟩:ByteArray) ++ a7.2.2.1) a7.2.2.2.1 a7.2.2.2.2.1 a7.2.2.2.2.2).bind fun f4=>((impl_NotOf.f a7.1 a7.2.1 b2).bind fun f5=>(if f4=f5 then((impl_ValueOf.f a7.1 a7.2.1 (⟨#[98]⟩:ByteArray) a7.2.2.2.1 a7.2.2.2.2.1 a7.2.2.2.2.2).bind fun f8=>(if f8=a7.2.2.2.2.1 then((impl_ValueOf.f a7.1 a7.2.1 (⟨#[40,97,38,99,41]⟩:ByteArray) a7.2.2.2.1 a7.2.2.2.2.1 a7.2.2.2.2.2).bind fun h1=>((impl_AndOf.f a7.1 a7.2.1 a7.2.2.2.1 a7.2.2.2.2.2).bind fun h2=>(some (h1==h2)))) else(some false))) else(some false)))) else(none)))) else(some false))))))=some r:=h;clear h
 by_cases c2:(l0.length:Int)>1048576
 ·rw [if_pos c2] at H;have l6:decide (1048576<(l0.length:Int))=true:=decide_eq_true c2;have l7:decide (1048576<l0.length)=true:=decide_eq_true (by omega);clear c2;obtain rfl:=Option.some.inj H
  go_enter Try.func7,Try.ntmps7
  go_wp2
  go_ret
  exact⟨zq13,zq0⟩
 ·rw [if_neg c2] at H;have l6:decide (1048576<(l0.length:Int))=false:=decide_eq_false c2;have l7:decide (1048576<l0.length)=false:=decide_eq_false (by omega);clear c2;replace H:=Option.bind_eq_some_iff.mp H;obtain⟨⟨a4,a5,b1,a8,a6,a9⟩,h3,H⟩:=H;(try dsimp only at H);have A3:=zqm h3;clear h3;replace H:=Option.bind_eq_some_iff.mp H;obtain⟨b2,j7,H⟩:=H;(try dsimp only at H);have A4:=zqm j7;clear j7;replace H:=Option.bind_eq_some_iff.mp H;obtain⟨d7,j8,H⟩:=H;(try dsimp only at H);have A5:=zqm j8;clear j8
  by_cases c6:b2=d7
  ·rw [if_pos c6] at H;have l8:(b2==d7)=true:=beq_iff_eq.mpr c6;have l9:(b2 !=d7)=false:=bne_eq_false_iff_eq.mpr c6;clear c6
   by_cases c7:b2<0
   ·rw [if_pos c7] at H;have m0:decide (b2<0)=true:=decide_eq_true c7;clear c7
    by_cases c8:b2=(-1)
    ·rw [if_pos c8] at H;have m1:(b2==(-1))=true:=beq_iff_eq.mpr c8;have m2:(b2 !=(-1))=false:=bne_eq_false_iff_eq.mpr c8;clear c8;replace H:=Option.bind_eq_some_iff.mp H;obtain⟨g8,k0,H⟩:=H;(try dsimp only at H);have A9:=zqm k0;clear k0;obtain rfl:=Option.some.inj H
     go_enter Try.func7,Try.ntmps7
     go_wp2_with (first|((with_reducible refine gate_callee (f:=39) rfl ?_);refine goesL_ (some 14) rfl rfl Try.func39 zqk rfl #[.slice A0 l0.length c0] rfl zq1 ?_;(with_reducible refine(spec_DrawValueOf.calls k _ _ l0 a4 a5 b1 a8 a6 a9 _ ?side1 ?side2 A3.out).mono ?_);(case side1=> exact zq49);(case side2=>exact g1.out);rintro e v4 ⟨f9,g0,rfl,d0,d1,hb⟩;refine⟨_,rfl,?_⟩;have a1:=zqm (Kd.S_lower d0 (below_size zq0));have a2:=zqm (Kd.Q_lower d1 (below_size zq0));replace HB:=zqm (below_step zq0 hb);clear hb d0 d1)|((with_reducible refine gate_dst (N:=3) rfl ?_);refine box_event ?hg (N:=3) ?hd (cs:= #[.slice none 0 0,.slice none 0 0]) (t:=26) ?hr ?_;(case hd=>rfl);(case hg=>rfl);(case hr=> exact zq17);intro a3 hg k1 hbox hb;replace a1:=zqm (Kd.S_below (zqfS a1.out) hb);replace a2:=zqm (Kd.Q_below (zqfQ a2.out) hb);have d2:=zqm (below_step zq0 hb);have a0:=zqm (hbox);have f6:=zqm ((by rw [hg];exact(below_size zq0):w.heap.size≤a3));have b0:=zqm ((by rw [hg];exact(below_size zq0):w.heap.size≤a3));clear HB;have HB:=d2;clear d2 hb hbox hg;obtain⟨e8,e6,m3⟩:=Kd.S_slice a1.out;subst m3;have o5:k1.cell? ⟨a3,0,none⟩=some (.slice none 0 0):=(blk_cell a0.out 0).trans rfl;have o6:k1.cell? ⟨a3,1,none⟩=some (.slice none 0 0):=(blk_cell a0.out 1).trans rfl;have r3:=blk_frozen a0.out 0;have r4:=blk_frozen a0.out 1;obtain⟨e9,e7,m4,_⟩:=Kd.Q_slice a2.out;subst m4)|((with_reducible refine gate_callee (f:=40) rfl ?_);refine goesL_ (some 25) rfl rfl Try.func40 zqk rfl #[.agg #[.slice e8 a4.length e6,.slice e9 a5.length e7],.string b1,.int .i64 a8,.int .i64 a6,.int .i64 a9] rfl zq1 ?_;(with_reducible refine(impl_ValueOf.calls _ _ a4 _ _ a5 b1 a8 a6 a9 b2 _ ?side1 ?side2 ?side3 ?side4 A4.out).mono ?_);(case side1=>refine(Kd.S_reads' (e:=24) (base:=w.heap.size) (ok:=fun k_=>some k_≠(.slice e9 a5.length e7:Value).ownBlock) (n:=a4.length) (c:=e6) ?_).2.2;exact zq141);(case side2=> exact zq36);(case side3=>refine(Kd.Q_reads' (e:=3) (base:=w.heap.size) (ok:=fun k_=>True) (n:=a5.length) (c:=e7) ?_).2.2;exact zq122);(case side4=> exact zq35);rintro e k2 ⟨rfl,hb⟩;refine⟨_,rfl,?_⟩;replace a1:=zqm (Kd.S_below zq141 hb);replace a2:=zqm (Kd.Q_below zq122 hb);replace a0:=zqm (blk_below (g:=a3) (o:= .cells #[.slice e8 a4.length e6,.slice e9 a5.length e7] 26 (0,0)) (by refine zqe ?_;refine blk_put (cs:= #[.slice e8 a4.length e6,.slice none 0 0]) ?_ 1 _ rfl;refine zqe ?_;refine blk_put (cs:= #[.slice none 0 0,.slice none 0 0]) ?_ 0 _ rfl;refine zqe ?_;exact a0.out) hb);replace HB:=zqm (below_step zq15 hb);clear hb;have o7:k2.cell? ⟨a3,0,none⟩=some (.slice e8 a4.length e6):=(blk_cell a0.out 0).trans rfl;have o8:k2.cell? ⟨a3,1,none⟩=some (.slice e9 a5.length e7):=(blk_cell a0.out 1).trans rfl;have r5:=blk_frozen a0.out 0;have r6:=blk_frozen a0.out 1)|((with_reducible refine gate_callee (f:=41) rfl ?_);refine goesL_ (some 32) rfl rfl Try.func41 zqk rfl #[.agg #[.slice e8 a4.length e6,.slice e9 a5.length e7],.string b1,.int .i64 a8,.int .i64 a6,.int .i64 a9] rfl zq1 ?_;(with_reducible refine(spec_ValueOf.calls k _ _ a4 _ _ a5 b1 a8 a6 a9 d7 _ ?side1 ?side2 ?side3 ?side4 A5.out).mono ?_);(case side1=> exact zq9);(case side2=> exact zq36);(case side3=> exact zq8);(case side4=> exact zq35);rintro e v5 ⟨rfl,hb⟩;refine⟨_,rfl,?_⟩;replace a1:=zqm (Kd.S_below (zqfS a1.out) hb);replace a2:=zqm (Kd.Q_below (zqfQ a2.out) hb);replace a0:=zqm (blk_below (g:=a3) (o:= .cells #[.slice e8 a4.length e6,.slice e9 a5.length e7] 26 (0,0)) (zqe a0.out) hb);replace HB:=zqm (below_step zq15 hb);clear hb)|(go_at_call 18;(with_reducible refine(laws_alive.calls k g8 _ A9.out).mono ?_);rintro e v6 ⟨rfl,hb⟩;replace a1:=zqm (Kd.S_below (zqfS a1.out) hb);replace a2:=zqm (Kd.Q_below (zqfQ a2.out) hb);replace a0:=zqm (blk_below (g:=a3) (o:= .cells #[.slice e8 a4.length e6,.slice e9 a5.length e7] 26 (0,0)) (zqe a0.out) hb);replace HB:=zqm (below_step zq15 hb);clear hb))
     go_ret
     exact⟨zq13,zq15⟩
    ·rw [if_neg c8] at H;have m1:(b2==(-1))=false:=beq_eq_false_iff_ne.mpr c8;have m2:(b2 !=(-1))=true:=bne_iff_ne.mpr c8;obtain rfl:=Option.some.inj H
     go_enter Try.func7,Try.ntmps7
     go_wp2_with (first|((with_reducible refine gate_callee (f:=39) rfl ?_);refine goesL_ (some 14) rfl rfl Try.func39 zqk rfl #[.slice A0 l0.length c0] rfl zq1 ?_;(with_reducible refine(spec_DrawValueOf.calls k _ _ l0 a4 a5 b1 a8 a6 a9 _ ?side1 ?side2 A3.out).mono ?_);(case side1=> exact zq49);(case side2=>exact g1.out);rintro e v7 ⟨f9,g0,rfl,d0,d1,hb⟩;refine⟨_,rfl,?_⟩;have a1:=zqm (Kd.S_lower d0 (below_size zq0));have a2:=zqm (Kd.Q_lower d1 (below_size zq0));replace HB:=zqm (below_step zq0 hb);clear hb d0 d1)|((with_reducible refine gate_dst (N:=3) rfl ?_);refine box_event ?hg (N:=3) ?hd (cs:= #[.slice none 0 0,.slice none 0 0]) (t:=26) ?hr ?_;(case hd=>rfl);(case hg=>rfl);(case hr=> exact zq17);intro a3 hg k3 hbox hb;replace a1:=zqm (Kd.S_below (zqfS a1.out) hb);replace a2:=zqm (Kd.Q_below (zqfQ a2.out) hb);have d2:=zqm (below_step zq0 hb);have a0:=zqm (hbox);have f6:=zqm ((by rw [hg];exact(below_size zq0):w.heap.size≤a3));have b0:=zqm ((by rw [hg];exact(below_size zq0):w.heap.size≤a3));clear HB;have HB:=d2;clear d2 hb hbox hg;obtain⟨f2,f0,m5⟩:=Kd.S_slice a1.out;subst m5;have o9:k3.cell? ⟨a3,0,none⟩=some (.slice none 0 0):=(blk_cell a0.out 0).trans rfl;have p0:k3.cell? ⟨a3,1,none⟩=some (.slice none 0 0):=(blk_cell a0.out 1).trans rfl;have r7:=blk_frozen a0.out 0;have r8:=blk_frozen a0.out 1;obtain⟨f3,f1,m6,_⟩:=Kd.Q_slice a2.out;subst m6)|((with_reducible refine gate_callee (f:=40) rfl ?_);refine goesL_ (some 25) rfl rfl Try.func40 zqk rfl #[.agg #[.slice f2 a4.length f0,.slice f3 a5.length f1],.string b1,.int .i64 a8,.int .i64 a6,.int .i64 a9] rfl zq1 ?_;(with_reducible refine(impl_ValueOf.calls _ _ a4 _ _ a5 b1 a8 a6 a9 b2 _ ?side1 ?side2 ?side3 ?side4 A4.out).mono ?_);(case side1=>refine(Kd.S_reads' (e:=24) (base:=w.heap.size) (ok:=fun k_=>some k_≠(.slice f3 a5.length f1:Value).ownBlock) (n:=a4.length) (c:=f0) ?_).2.2;exact zq142);(case side2=> exact zq36);(case side3=>refine(Kd.Q_reads' (e:=3) (base:=w.heap.size) (ok:=fun k_=>True) (n:=a5.length) (c:=f1) ?_).2.2;exact zq123);(case side4=> exact zq35);rintro e k4 ⟨rfl,hb⟩;refine⟨_,rfl,?_⟩;replace a1:=zqm (Kd.S_below zq142 hb);replace a2:=zqm (Kd.Q_below zq123 hb);replace a0:=zqm (blk_below (g:=a3) (o:= .cells #[.slice f2 a4.length f0,.slice f3 a5.length f1] 26 (0,0)) (by refine zqe ?_;refine blk_put (cs:= #[.slice f2 a4.length f0,.slice none 0 0]) ?_ 1 _ rfl;refine zqe ?_;refine blk_put (cs:= #[.slice none 0 0,.slice none 0 0]) ?_ 0 _ rfl;refine zqe ?_;exact a0.out) hb);replace HB:=zqm (below_step zq15 hb);clear hb;have p1:k4.cell? ⟨a3,0,none⟩=some (.slice f2 a4.length f0):=(blk_cell a0.out 0).trans rfl;have p2:k4.cell? ⟨a3,1,none⟩=some (.slice f3 a5.length f1):=(blk_cell a0.out 1).trans rfl;have r9:=blk_frozen a0.out 0;have s0:=blk_frozen a0.out 1)|((with_reducible refine gate_callee (f:=41) rfl ?_);refine goesL_ (some 32) rfl rfl Try.func41 zqk rfl #[.agg #[.slice f2 a4.length f0,.slice f3 a5.length f1],.string b1,.int .i64 a8,.int .i64 a6,.int .i64 a9] rfl zq1 ?_;(with_reducible refine(spec_ValueOf.calls k _ _ a4 _ _ a5 b1 a8 a6 a9 d7 _ ?side1 ?side2 ?side3 ?side4 A5.out).mono ?_);(case side1=> exact zq9);(case side2=> exact zq36);(case side3=> exact zq8);(case side4=> exact zq35);rintro e v8 ⟨rfl,hb⟩;refine⟨_,rfl,?_⟩;replace a1:=zqm (Kd.S_below (zqfS a1.out) hb);replace a2:=zqm (Kd.Q_below (zqfQ a2.out) hb);replace a0:=zqm (blk_below (g:=a3) (o:= .cells #[.slice f2 a4.length f0,.slice f3 a5.length f1] 26 (0,0)) (zqe a0.out) hb);replace HB:=zqm (below_step zq15 hb);clear hb))
     go_ret
     exact⟨zq13,zq15⟩
   ·rw [if_neg c7] at H;have m0:decide (b2<0)=false:=decide_eq_false c7;clear c7
    by_cases g6:(b1.size:Int)≥60
    ·rw [if_pos g6] at H;have i6:decide (60≤(b1.size:Int))=true:=decide_eq_true g6;have i7:decide (60≤b1.size)=true:=decide_eq_true (by omega);clear g6;replace H:=Option.bind_eq_some_iff.mp H;obtain⟨f7,h4,H⟩:=H;(try dsimp only at H);have j6:=zqm h4;clear h4
     by_cases g3:f7=a6
     ·rw [if_pos g3] at H;have i8:(f7==a6)=true:=beq_iff_eq.mpr g3;have i9:(f7 !=a6)=false:=bne_eq_false_iff_eq.mpr g3;clear g3;replace H:=Option.bind_eq_some_iff.mp H;obtain⟨g9,h5,H⟩:=H;(try dsimp only at H);have h3:=zqm h5;clear h5;replace H:=Option.bind_eq_some_iff.mp H;obtain⟨h0,h6,H⟩:=H;(try dsimp only at H);have u1:=zqm h6;clear h6;obtain rfl:=Option.some.inj H
      go_enter Try.func7,Try.ntmps7
      (try go_wp2_with (first|((with_reducible refine gate_callee (f:=39) rfl ?_);refine goesL_ (some 14) rfl rfl Try.func39 zqk rfl #[.slice A0 l0.length c0] rfl zq1 ?_;(with_reducible refine(spec_DrawValueOf.calls k _ _ l0 a4 a5 b1 a8 a6 a9 _ ?side1 ?side2 A3.out).mono ?_);(case side1=> exact zq49);(case side2=>exact g1.out);rintro e v9 ⟨f9,g0,rfl,d0,d1,hb⟩;refine⟨_,rfl,?_⟩;have a1:=zqm (Kd.S_lower d0 (below_size zq0));have a2:=zqm (Kd.Q_lower d1 (below_size zq0));replace HB:=zqm (below_step zq0 hb);clear hb d0 d1)|((with_reducible refine gate_dst (N:=3) rfl ?_);refine box_event ?hg (N:=3) ?hd (cs:= #[.slice none 0 0,.slice none 0 0]) (t:=26) ?hr ?_;(case hd=>rfl);(case hg=>rfl);(case hr=> exact zq17);intro a3 hg k5 hbox hb;replace a1:=zqm (Kd.S_below (zqfS a1.out) hb);replace a2:=zqm (Kd.Q_below (zqfQ a2.out) hb);have d2:=zqm (below_step zq0 hb);have a0:=zqm (hbox);have f6:=zqm ((by rw [hg];exact(below_size zq0):w.heap.size≤a3));have b0:=zqm ((by rw [hg];exact(below_size zq0):w.heap.size≤a3));clear HB;have HB:=d2;clear d2 hb hbox hg;obtain⟨c3,b7,m7⟩:=Kd.S_slice a1.out;subst m7;have p3:k5.cell? ⟨a3,0,none⟩=some (.slice none 0 0):=(blk_cell a0.out 0).trans rfl;have p4:k5.cell? ⟨a3,1,none⟩=some (.slice none 0 0):=(blk_cell a0.out 1).trans rfl;have s1:=blk_frozen a0.out 0;have s2:=blk_frozen a0.out 1;obtain⟨c4,b8,m8,_⟩:=Kd.Q_slice a2.out;subst m8)|((with_reducible refine gate_callee (f:=40) rfl ?_);refine goesL_ (some 25) rfl rfl Try.func40 zqk rfl #[.agg #[.slice c3 a4.length b7,.slice c4 a5.length b8],.string b1,.int .i64 a8,.int .i64 a6,.int .i64 a9] rfl zq1 ?_;(with_reducible refine(impl_ValueOf.calls _ _ a4 _ _ a5 b1 a8 a6 a9 b2 _ ?side1 ?side2 ?side3 ?side4 A4.out).mono ?_);(case side1=>refine(Kd.S_reads' (e:=24) (base:=w.heap.size) (ok:=fun k_=>some k_≠(.slice c4 a5.length b8:Value).ownBlock) (n:=a4.length) (c:=b7) ?_).2.2;exact zq132);(case side2=> exact zq36);(case side3=>refine(Kd.Q_reads' (e:=3) (base:=w.heap.size) (ok:=fun k_=>True) (n:=a5.length) (c:=b8) ?_).2.2;exact zq113);(case side4=> exact zq35);rintro e k6 ⟨rfl,hb⟩;refine⟨_,rfl,?_⟩;replace a1:=zqm (Kd.S_below zq132 hb);replace a2:=zqm (Kd.Q_below zq113 hb);replace a0:=zqm (blk_below (g:=a3) (o:= .cells #[.slice c3 a4.length b7,.slice c4 a5.length b8] 26 (0,0)) (by refine zqe ?_;refine blk_put (cs:= #[.slice c3 a4.length b7,.slice none 0 0]) ?_ 1 _ rfl;refine zqe ?_;refine blk_put (cs:= #[.slice none 0 0,.slice none 0 0]) ?_ 0 _ rfl;refine zqe ?_;exact a0.out) hb);replace HB:=zqm (below_step zq15 hb);clear hb;have p5:k6.cell? ⟨a3,0,none⟩=some (.slice c3 a4.length b7):=(blk_cell a0.out 0).trans rfl;have p6:k6.cell? ⟨a3,1,none⟩=some (.slice c4 a5.length b8):=(blk_cell a0.out 1).trans rfl;have s3:=blk_frozen a0.out 0;have s4:=blk_frozen a0.out 1)|((with_reducible refine gate_callee (f:=41) rfl ?_);refine goesL_ (some 32) rfl rfl Try.func41 zqk rfl #[.agg #[.slice c3 a4.length b7,.slice c4 a5.length b8],.string b1,.int .i64 a8,.int .i64 a6,.int .i64 a9] rfl zq1 ?_;(with_reducible refine(spec_ValueOf.calls k _ _ a4 _ _ a5 b1 a8 a6 a9 d7 _ ?side1 ?side2 ?side3 ?side4 A5.out).mono ?_);(case side1=> exact zq9);(case side2=> exact zq36);(case side3=> exact zq8);(case side4=> exact zq35);rintro e u4 ⟨rfl,hb⟩;refine⟨_,rfl,?_⟩;replace a1:=zqm (Kd.S_below (zqfS a1.out) hb);replace a2:=zqm (Kd.Q_below (zqfQ a2.out) hb);replace a0:=zqm (blk_below (g:=a3) (o:= .cells #[.slice c3 a4.length b7,.slice c4 a5.length b8] 26 (0,0)) (zqe a0.out) hb);replace HB:=zqm (below_step zq15 hb);clear hb)))
      replace a1:=zqm (Kd.S_drew a1.out);replace a2:=zqm (Kd.Q_drew a2.out);replace a0:=zqm (blk_drew a0.out);replace HB:=zqm (below_drew1 HB.out);refine start_ (n:=38) (S:=fun w'=>w'.cell? ⟨a3,0,none⟩=some (.slice c3 a4.length b7)∧w'.cell? ⟨a3,1,none⟩=some (.slice c4 a5.length b8)) (ds:= []) (zqb 38 0) zqk rfl rfl ⟨(blk_cell a0.out 0).trans rfl,(blk_cell a0.out 1).trans rfl⟩ (fun hHeld=>?_);refine with_tabW laws_FnValueOf.tab9 laws_FnValueOf.bits9 (fun HT_ HW_=>?_);generalize u4.drew=w0 at a1 a2 a0 HB hHeld ⊢;refine zqp 0 41 (zqb 38 1) HT_ ?_;refine zqp 1 42 (zqb 38 3) HT_ ?_;refine zqp 2 43 (zqb 38 7) HT_ ?_;refine zqp 3 44 (zqb 38 15) HT_ ?_;refine zqu 4 45 (zqb 38 31) HT_ ?_;refine zqu 5 46 (zqb 38 63) HT_ ?_;refine zqu 6 47 (zqb 38 127) HT_ ?_;refine zqu 7 48 (zqb 38 255) HT_ ?_;refine zqu 8 49 (zqb 38 511) HT_ ?_;refine zqu 9 50 (zqb 38 1023) HT_ ?_;refine zqu 10 51 (zqb 38 2047) HT_ ?_;refine zqu 11 52 (zqb 38 4095) HT_ ?_;refine zqu 12 53 (zqb 38 8191) HT_ ?_;refine zqu 13 54 (zqb 38 16383) HT_ ?_;refine zqu 14 55 (zqb 38 32767) HT_ ?_;refine zqp 15 56 (zqb 38 65535) HT_ ?_;refine zqp 16 57 (zqb 38 131071) HT_ ?_;refine zqp 18 59 (zqb 38 393215) HT_ ?_;refine zqp 19 60 (zqb 38 917503) HT_ ?_;refine zqp 20 61 (zqb 38 1966079) HT_ ?_;refine zqp 22 63 (zqb 38 6160383) HT_ ?_
      refine zqw 17 58 (zqb 38 6291455) HT_ HW_ hHeld ?_;refine one_ (i:=21) (N:=some 62) (zqb 38 8388607) rfl rfl (one_of HT_.out zqk) (by decide) (fun K hK=>?_);refine goes_ Try.func40 zqk rfl #[.agg #[.slice c3 a4.length b7,.slice c4 a5.length b8],.string (⟨#[98]⟩:ByteArray),.int .i64 a8,.int .i64 a6,.int .i64 a9] (by rfl) rfl rfl zq1 ?_;(with_reducible refine(impl_ValueOf.calls _ _ a4 _ _ a5 (⟨#[98]⟩:ByteArray) a8 a6 a9 f7 _ ?side1 ?side2 ?side3 ?side4 j6.out).mono ?_);(case side1=> exact zq9);(case side2=> exact zq36);(case side3=> exact zq8);(case side4=> exact zq35);rintro e w1 ⟨rfl,hb⟩;refine⟨_,rfl,?_⟩;replace a1:=zqm (Kd.S_below (zqfS a1.out) hb);replace a2:=zqm (Kd.Q_below (zqfQ a2.out) hb);replace a0:=zqm (blk_below (g:=a3) (o:= .cells #[.slice c3 a4.length b7,.slice c4 a5.length b8] 26 (0,0)) (zqe a0.out) hb);replace HB:=zqm (below_step zq15 hb);clear hb;refine hK.out _ _ ⟨(blk_cell a0.out 0).trans rfl,(blk_cell a0.out 1).trans rfl⟩ (fun hHeld=>?_);clear hK K;refine norm_ (a':=?_) ?_ ?_;rotate_left
      ·show Act.put _ (some 62) _=_;exact zqs
      refine zqp 23 64 (zqb 38 16777215) HT_ ?_;refine zqp 24 65 (zqb 38 33554431) HT_ ?_;refine zqp 25 66 (zqb 38 67108863) HT_ ?_;refine zqp 27 68 (zqb 38 201326591) HT_ ?_;refine zqp 28 69 (zqb 38 469762047) HT_ ?_;refine zqp 29 70 (zqb 38 1006632959) HT_ ?_;refine zqp 32 73 (zqb 38 5301600255) HT_ ?_;refine zqp 33 74 (zqb 38 13891534847) HT_ ?_;refine zqw 26 67 (zqb 38 13958643711) HT_ HW_ hHeld ?_;refine zqw 31 72 (zqb 38 16106127359) HT_ HW_ hHeld ?_;refine one_ (i:=30) (N:=some 71) (zqb 38 17179869183) rfl rfl (one_of HT_.out zqk) (by decide) (fun K hK=>?_);refine goes_ Try.func40 zqk rfl #[.agg #[.slice c3 a4.length b7,.slice c4 a5.length b8],.string (⟨#[40,97,38,99,41]⟩:ByteArray),.int .i64 a8,.int .i64 a6,.int .i64 a9] (by rfl) rfl rfl zq1 ?_;(with_reducible refine(impl_ValueOf.calls _ _ a4 _ _ a5 (⟨#[40,97,38,99,41]⟩:ByteArray) a8 a6 a9 g9 _ ?side1 ?side2 ?side3 ?side4 h3.out).mono ?_);(case side1=> exact zq9);(case side2=> exact zq36);(case side3=> exact zq8);(case side4=> exact zq35);rintro e w2 ⟨rfl,hb⟩;refine⟨_,rfl,?_⟩;replace a1:=zqm (Kd.S_below (zqfS a1.out) hb);replace a2:=zqm (Kd.Q_below (zqfQ a2.out) hb);replace a0:=zqm (blk_below (g:=a3) (o:= .cells #[.slice c3 a4.length b7,.slice c4 a5.length b8] 26 (0,0)) (zqe a0.out) hb);replace HB:=zqm (below_step zq15 hb);clear hb;refine hK.out _ _ ⟨(blk_cell a0.out 0).trans rfl,(blk_cell a0.out 1).trans rfl⟩ (fun hHeld=>?_);clear hK K;refine norm_ (a':=?_) ?_ ?_;rotate_left
      ·show Act.put _ (some 71) _=_;exact zqs
      refine one_ (i:=34) (N:=some 75) (zqb 38 34359738367) rfl rfl (one_of HT_.out zqk) (by decide) (fun K hK=>?_);refine goes_ Try.func42 zqk rfl #[.agg #[.slice c3 a4.length b7,.slice c4 a5.length b8],.int .i64 a8,.int .i64 a9] (by rfl) rfl rfl zq1 ?_;(with_reducible refine(impl_AndOf.calls _ _ a4 _ _ a5 a8 a9 h0 _ ?side1 ?side2 ?side3 ?side4 u1.out).mono ?_);(case side1=> exact zq9);(case side2=> exact zq36);(case side3=> exact zq8);(case side4=> exact zq35);rintro e w3 ⟨rfl,hb⟩;refine⟨_,rfl,?_⟩;replace a1:=zqm (Kd.S_below (zqfS a1.out) hb);replace a2:=zqm (Kd.Q_below (zqfQ a2.out) hb);replace a0:=zqm (blk_below (g:=a3) (o:= .cells #[.slice c3 a4.length b7,.slice c4 a5.length b8] 26 (0,0)) (zqe a0.out) hb);replace HB:=zqm (below_step zq15 hb);clear hb;refine hK.out _ _ ⟨(blk_cell a0.out 0).trans rfl,(blk_cell a0.out 1).trans rfl⟩ (fun hHeld=>?_);clear hK K;refine norm_ (a':=?_) ?_ ?_;rotate_left
      ·show Act.put _ (some 75) _=_;exact zqs
      refine zqp 35 76 (zqb 38 68719476735) HT_ ?_;refine zqp 36 77 (zqb 38 137438953471) HT_ ?_;refine zqp 37 2 (zqb 38 274877906943) HT_ ?_;refine done_ (done_of HT_.out zqk) ?_;try go_wp2
      go_ret
      exact⟨zq13,zq15⟩
     ·rw [if_neg g3] at H;have i8:(f7==a6)=false:=beq_eq_false_iff_ne.mpr g3;have i9:(f7 !=a6)=true:=bne_iff_ne.mpr g3;obtain rfl:=Option.some.inj H
      go_enter Try.func7,Try.ntmps7
      (try go_wp2_with (first|((with_reducible refine gate_callee (f:=39) rfl ?_);refine goesL_ (some 14) rfl rfl Try.func39 zqk rfl #[.slice A0 l0.length c0] rfl zq1 ?_;(with_reducible refine(spec_DrawValueOf.calls k _ _ l0 a4 a5 b1 a8 a6 a9 _ ?side1 ?side2 A3.out).mono ?_);(case side1=> exact zq49);(case side2=>exact g1.out);rintro e w4 ⟨f9,g0,rfl,d0,d1,hb⟩;refine⟨_,rfl,?_⟩;have a1:=zqm (Kd.S_lower d0 (below_size zq0));have a2:=zqm (Kd.Q_lower d1 (below_size zq0));replace HB:=zqm (below_step zq0 hb);clear hb d0 d1)|((with_reducible refine gate_dst (N:=3) rfl ?_);refine box_event ?hg (N:=3) ?hd (cs:= #[.slice none 0 0,.slice none 0 0]) (t:=26) ?hr ?_;(case hd=>rfl);(case hg=>rfl);(case hr=> exact zq17);intro a3 hg k7 hbox hb;replace a1:=zqm (Kd.S_below (zqfS a1.out) hb);replace a2:=zqm (Kd.Q_below (zqfQ a2.out) hb);have d2:=zqm (below_step zq0 hb);have a0:=zqm (hbox);have f6:=zqm ((by rw [hg];exact(below_size zq0):w.heap.size≤a3));have b0:=zqm ((by rw [hg];exact(below_size zq0):w.heap.size≤a3));clear HB;have HB:=d2;clear d2 hb hbox hg;obtain⟨e2,e0,m9⟩:=Kd.S_slice a1.out;subst m9;have p7:k7.cell? ⟨a3,0,none⟩=some (.slice none 0 0):=(blk_cell a0.out 0).trans rfl;have p8:k7.cell? ⟨a3,1,none⟩=some (.slice none 0 0):=(blk_cell a0.out 1).trans rfl;have s5:=blk_frozen a0.out 0;have s6:=blk_frozen a0.out 1;obtain⟨e3,e1,n0,_⟩:=Kd.Q_slice a2.out;subst n0)|((with_reducible refine gate_callee (f:=40) rfl ?_);refine goesL_ (some 25) rfl rfl Try.func40 zqk rfl #[.agg #[.slice e2 a4.length e0,.slice e3 a5.length e1],.string b1,.int .i64 a8,.int .i64 a6,.int .i64 a9] rfl zq1 ?_;(with_reducible refine(impl_ValueOf.calls _ _ a4 _ _ a5 b1 a8 a6 a9 b2 _ ?side1 ?side2 ?side3 ?side4 A4.out).mono ?_);(case side1=>refine(Kd.S_reads' (e:=24) (base:=w.heap.size) (ok:=fun k_=>some k_≠(.slice e3 a5.length e1:Value).ownBlock) (n:=a4.length) (c:=e0) ?_).2.2;exact zq138);(case side2=> exact zq36);(case side3=>refine(Kd.Q_reads' (e:=3) (base:=w.heap.size) (ok:=fun k_=>True) (n:=a5.length) (c:=e1) ?_).2.2;exact zq119);(case side4=> exact zq35);rintro e k8 ⟨rfl,hb⟩;refine⟨_,rfl,?_⟩;replace a1:=zqm (Kd.S_below zq138 hb);replace a2:=zqm (Kd.Q_below zq119 hb);replace a0:=zqm (blk_below (g:=a3) (o:= .cells #[.slice e2 a4.length e0,.slice e3 a5.length e1] 26 (0,0)) (by refine zqe ?_;refine blk_put (cs:= #[.slice e2 a4.length e0,.slice none 0 0]) ?_ 1 _ rfl;refine zqe ?_;refine blk_put (cs:= #[.slice none 0 0,.slice none 0 0]) ?_ 0 _ rfl;refine zqe ?_;exact a0.out) hb);replace HB:=zqm (below_step zq15 hb);clear hb;have p9:k8.cell? ⟨a3,0,none⟩=some (.slice e2 a4.length e0):=(blk_cell a0.out 0).trans rfl;have q0:k8.cell? ⟨a3,1,none⟩=some (.slice e3 a5.length e1):=(blk_cell a0.out 1).trans rfl;have s7:=blk_frozen a0.out 0;have s8:=blk_frozen a0.out 1)|((with_reducible refine gate_callee (f:=41) rfl ?_);refine goesL_ (some 32) rfl rfl Try.func41 zqk rfl #[.agg #[.slice e2 a4.length e0,.slice e3 a5.length e1],.string b1,.int .i64 a8,.int .i64 a6,.int .i64 a9] rfl zq1 ?_;(with_reducible refine(spec_ValueOf.calls k _ _ a4 _ _ a5 b1 a8 a6 a9 d7 _ ?side1 ?side2 ?side3 ?side4 A5.out).mono ?_);(case side1=> exact zq9);(case side2=> exact zq36);(case side3=> exact zq8);(case side4=> exact zq35);rintro e u5 ⟨rfl,hb⟩;refine⟨_,rfl,?_⟩;replace a1:=zqm (Kd.S_below (zqfS a1.out) hb);replace a2:=zqm (Kd.Q_below (zqfQ a2.out) hb);replace a0:=zqm (blk_below (g:=a3) (o:= .cells #[.slice e2 a4.length e0,.slice e3 a5.length e1] 26 (0,0)) (zqe a0.out) hb);replace HB:=zqm (below_step zq15 hb);clear hb)))
      replace a1:=zqm (Kd.S_drew a1.out);replace a2:=zqm (Kd.Q_drew a2.out);replace a0:=zqm (blk_drew a0.out);replace HB:=zqm (below_drew1 HB.out);refine start_ (n:=38) (S:=fun w'=>w'.cell? ⟨a3,0,none⟩=some (.slice e2 a4.length e0)∧w'.cell? ⟨a3,1,none⟩=some (.slice e3 a5.length e1)) (ds:= []) (zqb 38 0) zqk rfl rfl ⟨(blk_cell a0.out 0).trans rfl,(blk_cell a0.out 1).trans rfl⟩ (fun hHeld=>?_);refine with_tabW laws_FnValueOf.tab9 laws_FnValueOf.bits9 (fun HT_ HW_=>?_);generalize u5.drew=w5 at a1 a2 a0 HB hHeld ⊢;refine zqp 0 41 (zqb 38 1) HT_ ?_;refine zqp 1 42 (zqb 38 3) HT_ ?_;refine zqp 2 43 (zqb 38 7) HT_ ?_;refine zqp 3 44 (zqb 38 15) HT_ ?_;refine zqu 4 45 (zqb 38 31) HT_ ?_;refine zqu 5 46 (zqb 38 63) HT_ ?_;refine zqu 6 47 (zqb 38 127) HT_ ?_;refine zqu 7 48 (zqb 38 255) HT_ ?_;refine zqu 8 49 (zqb 38 511) HT_ ?_;refine zqu 9 50 (zqb 38 1023) HT_ ?_;refine zqu 10 51 (zqb 38 2047) HT_ ?_;refine zqu 11 52 (zqb 38 4095) HT_ ?_;refine zqu 12 53 (zqb 38 8191) HT_ ?_;refine zqu 13 54 (zqb 38 16383) HT_ ?_;refine zqu 14 55 (zqb 38 32767) HT_ ?_;refine zqp 15 56 (zqb 38 65535) HT_ ?_;refine zqp 16 57 (zqb 38 131071) HT_ ?_;refine zqp 18 59 (zqb 38 393215) HT_ ?_;refine zqp 19 60 (zqb 38 917503) HT_ ?_;refine zqp 20 61 (zqb 38 1966079) HT_ ?_;refine zqp 22 63 (zqb 38 6160383) HT_ ?_
      refine zqw 17 58 (zqb 38 6291455) HT_ HW_ hHeld ?_;refine one_ (i:=21) (N:=some 62) (zqb 38 8388607) rfl rfl (one_of HT_.out zqk) (by decide) (fun K hK=>?_);refine goes_ Try.func40 zqk rfl #[.agg #[.slice e2 a4.length e0,.slice e3 a5.length e1],.string (⟨#[98]⟩:ByteArray),.int .i64 a8,.int .i64 a6,.int .i64 a9] (by rfl) rfl rfl zq1 ?_;(with_reducible refine(impl_ValueOf.calls _ _ a4 _ _ a5 (⟨#[98]⟩:ByteArray) a8 a6 a9 f7 _ ?side1 ?side2 ?side3 ?side4 j6.out).mono ?_);(case side1=> exact zq9);(case side2=> exact zq36);(case side3=> exact zq8);(case side4=> exact zq35);rintro e w6 ⟨rfl,hb⟩;refine⟨_,rfl,?_⟩;replace a1:=zqm (Kd.S_below (zqfS a1.out) hb);replace a2:=zqm (Kd.Q_below (zqfQ a2.out) hb);replace a0:=zqm (blk_below (g:=a3) (o:= .cells #[.slice e2 a4.length e0,.slice e3 a5.length e1] 26 (0,0)) (zqe a0.out) hb);replace HB:=zqm (below_step zq15 hb);clear hb;refine hK.out _ _ ⟨(blk_cell a0.out 0).trans rfl,(blk_cell a0.out 1).trans rfl⟩ (fun hHeld=>?_);clear hK K;refine norm_ (a':=?_) ?_ ?_;rotate_left
      ·show Act.put _ (some 62) _=_;exact zqs
      refine zqp 23 64 (zqb 38 16777215) HT_ ?_;refine zqp 24 65 (zqb 38 33554431) HT_ ?_;refine zqp 25 66 (zqb 38 67108863) HT_ ?_;refine zqu 26 67 (zqb 38 134217727) HT_ ?_;refine zqu 27 68 (zqb 38 268435455) HT_ ?_;refine zqu 28 69 (zqb 38 536870911) HT_ ?_;refine zqu 29 70 (zqb 38 1073741823) HT_ ?_;refine zqu 30 71 (zqb 38 2147483647) HT_ ?_;refine zqu 31 72 (zqb 38 4294967295) HT_ ?_;refine zqu 32 73 (zqb 38 8589934591) HT_ ?_;refine zqu 33 74 (zqb 38 17179869183) HT_ ?_;refine zqu 34 75 (zqb 38 34359738367) HT_ ?_;refine zqu 35 76 (zqb 38 68719476735) HT_ ?_;refine zqp 36 77 (zqb 38 137438953471) HT_ ?_;refine zqp 37 2 (zqb 38 274877906943) HT_ ?_;refine done_ (done_of HT_.out zqk) ?_;try go_wp2
      go_ret
      exact⟨zq13,zq15⟩
    ·rw [if_neg g6] at H;have i6:decide (60≤(b1.size:Int))=false:=decide_eq_false g6;have i7:decide (60≤b1.size)=false:=decide_eq_false (by omega);clear g6
     by_cases g7:1+b1.size≤9223372036854775807
     ·rw [if_pos g7] at H;have v0:=eq_true g7;have v1:decide (1+b1.size≤9223372036854775807)=true:=decide_eq_true g7;(try have v2:(9223372036854775807<1+b1.size)=False:=eq_false (Nat.not_lt.2 g7));replace H:=Option.bind_eq_some_iff.mp H;obtain⟨f4,h8,H⟩:=H;(try dsimp only at H);have h7:=zqm h8;clear h8;replace H:=Option.bind_eq_some_iff.mp H;obtain⟨f5,i0,H⟩:=H;(try dsimp only at H);have h9:=zqm i0;clear i0
      by_cases g4:f4=f5
      ·rw [if_pos g4] at H;have j0:(f4==f5)=true:=beq_iff_eq.mpr g4;have j1:(f4 !=f5)=false:=bne_eq_false_iff_eq.mpr g4;clear g4;replace H:=Option.bind_eq_some_iff.mp H;obtain⟨f8,i1,H⟩:=H;(try dsimp only at H);have j9:=zqm i1;clear i1
       by_cases g5:f8=a6
       ·rw [if_pos g5] at H;have j2:(f8==a6)=true:=beq_iff_eq.mpr g5;have j3:(f8 !=a6)=false:=bne_eq_false_iff_eq.mpr g5;clear g5;replace H:=Option.bind_eq_some_iff.mp H;obtain⟨h1,i2,H⟩:=H;(try dsimp only at H);have u2:=zqm i2;clear i2;replace H:=Option.bind_eq_some_iff.mp H;obtain⟨h2,i3,H⟩:=H;(try dsimp only at H);have u3:=zqm i3;clear i3;obtain rfl:=Option.some.inj H
        go_enter Try.func7,Try.ntmps7
        (try go_wp2_with (first|((with_reducible refine gate_callee (f:=39) rfl ?_);refine goesL_ (some 14) rfl rfl Try.func39 zqk rfl #[.slice A0 l0.length c0] rfl zq1 ?_;(with_reducible refine(spec_DrawValueOf.calls k _ _ l0 a4 a5 b1 a8 a6 a9 _ ?side1 ?side2 A3.out).mono ?_);(case side1=> exact zq49);(case side2=>exact g1.out);rintro e w7 ⟨f9,g0,rfl,d0,d1,hb⟩;refine⟨_,rfl,?_⟩;have a1:=zqm (Kd.S_lower d0 (below_size zq0));have a2:=zqm (Kd.Q_lower d1 (below_size zq0));replace HB:=zqm (below_step zq0 hb);clear hb d0 d1)|((with_reducible refine gate_dst (N:=3) rfl ?_);refine box_event ?hg (N:=3) ?hd (cs:= #[.slice none 0 0,.slice none 0 0]) (t:=26) ?hr ?_;(case hd=>rfl);(case hg=>rfl);(case hr=> exact zq17);intro a3 hg k9 hbox hb;replace a1:=zqm (Kd.S_below (zqfS a1.out) hb);replace a2:=zqm (Kd.Q_below (zqfQ a2.out) hb);have d2:=zqm (below_step zq0 hb);have a0:=zqm (hbox);have f6:=zqm ((by rw [hg];exact(below_size zq0):w.heap.size≤a3));have b0:=zqm ((by rw [hg];exact(below_size zq0):w.heap.size≤a3));clear HB;have HB:=d2;clear d2 hb hbox hg;obtain⟨b5,b3,n1⟩:=Kd.S_slice a1.out;subst n1;have q1:k9.cell? ⟨a3,0,none⟩=some (.slice none 0 0):=(blk_cell a0.out 0).trans rfl;have q2:k9.cell? ⟨a3,1,none⟩=some (.slice none 0 0):=(blk_cell a0.out 1).trans rfl;have s9:=blk_frozen a0.out 0;have t0:=blk_frozen a0.out 1;obtain⟨b6,b4,n2,_⟩:=Kd.Q_slice a2.out;subst n2)|((with_reducible refine gate_callee (f:=40) rfl ?_);refine goesL_ (some 25) rfl rfl Try.func40 zqk rfl #[.agg #[.slice b5 a4.length b3,.slice b6 a5.length b4],.string b1,.int .i64 a8,.int .i64 a6,.int .i64 a9] rfl zq1 ?_;(with_reducible refine(impl_ValueOf.calls _ _ a4 _ _ a5 b1 a8 a6 a9 b2 _ ?side1 ?side2 ?side3 ?side4 A4.out).mono ?_);(case side1=>refine(Kd.S_reads' (e:=24) (base:=w.heap.size) (ok:=fun k_=>some k_≠(.slice b6 a5.length b4:Value).ownBlock) (n:=a4.length) (c:=b3) ?_).2.2;exact zq130);(case side2=> exact zq36);(case side3=>refine(Kd.Q_reads' (e:=3) (base:=w.heap.size) (ok:=fun k_=>True) (n:=a5.length) (c:=b4) ?_).2.2;exact zq111);(case side4=> exact zq35);rintro e l1 ⟨rfl,hb⟩;refine⟨_,rfl,?_⟩;replace a1:=zqm (Kd.S_below zq130 hb);replace a2:=zqm (Kd.Q_below zq111 hb);replace a0:=zqm (blk_below (g:=a3) (o:= .cells #[.slice b5 a4.length b3,.slice b6 a5.length b4] 26 (0,0)) (by refine zqe ?_;refine blk_put (cs:= #[.slice b5 a4.length b3,.slice none 0 0]) ?_ 1 _ rfl;refine zqe ?_;refine blk_put (cs:= #[.slice none 0 0,.slice none 0 0]) ?_ 0 _ rfl;refine zqe ?_;exact a0.out) hb);replace HB:=zqm (below_step zq15 hb);clear hb;have q3:l1.cell? ⟨a3,0,none⟩=some (.slice b5 a4.length b3):=(blk_cell a0.out 0).trans rfl;have q4:l1.cell? ⟨a3,1,none⟩=some (.slice b6 a5.length b4):=(blk_cell a0.out 1).trans rfl;have t1:=blk_frozen a0.out 0;have t2:=blk_frozen a0.out 1)|((with_reducible refine gate_callee (f:=41) rfl ?_);refine goesL_ (some 32) rfl rfl Try.func41 zqk rfl #[.agg #[.slice b5 a4.length b3,.slice b6 a5.length b4],.string b1,.int .i64 a8,.int .i64 a6,.int .i64 a9] rfl zq1 ?_;(with_reducible refine(spec_ValueOf.calls k _ _ a4 _ _ a5 b1 a8 a6 a9 d7 _ ?side1 ?side2 ?side3 ?side4 A5.out).mono ?_);(case side1=> exact zq9);(case side2=> exact zq36);(case side3=> exact zq8);(case side4=> exact zq35);rintro e u6 ⟨rfl,hb⟩;refine⟨_,rfl,?_⟩;replace a1:=zqm (Kd.S_below (zqfS a1.out) hb);replace a2:=zqm (Kd.Q_below (zqfQ a2.out) hb);replace a0:=zqm (blk_below (g:=a3) (o:= .cells #[.slice b5 a4.length b3,.slice b6 a5.length b4] 26 (0,0)) (zqe a0.out) hb);replace HB:=zqm (below_step zq15 hb);clear hb)))
        replace a1:=zqm (Kd.S_drew a1.out);replace a2:=zqm (Kd.Q_drew a2.out);replace a0:=zqm (blk_drew a0.out);replace HB:=zqm (below_drew1 HB.out);refine start_ (n:=38) (S:=fun w'=>w'.cell? ⟨a3,0,none⟩=some (.slice b5 a4.length b3)∧w'.cell? ⟨a3,1,none⟩=some (.slice b6 a5.length b4)) (ds:= []) (zqb 38 0) zqk rfl rfl ⟨(blk_cell a0.out 0).trans rfl,(blk_cell a0.out 1).trans rfl⟩ (fun hHeld=>?_);refine with_tabW laws_FnValueOf.tab9 laws_FnValueOf.bits9 (fun HT_ HW_=>?_);generalize u6.drew=w8 at a1 a2 a0 HB hHeld ⊢;refine zqp 0 41 (zqb 38 1) HT_ ?_;refine zqp 1 42 (zqb 38 3) HT_ ?_;refine zqp 2 43 (zqb 38 7) HT_ ?_;refine zqp 3 44 (zqb 38 15) HT_ ?_;refine zqp 5 46 (zqb 38 47) HT_ ?_;refine zqp 6 47 (zqb 38 111) HT_ ?_;refine zqp 7 48 (zqb 38 239) HT_ ?_;refine zqp 8 49 (zqb 38 495) HT_ ?_;refine zqp 9 50 (zqb 38 1007) HT_ ?_;refine zqp 12 53 (zqb 38 5103) HT_ ?_;refine zqw 4 45 (zqb 38 5119) HT_ HW_ hHeld ?_;refine zqw 11 52 (zqb 38 7167) HT_ HW_ hHeld ?_;refine one_ (i:=10) (N:=some 51) (zqb 38 8191) rfl rfl (one_of HT_.out zqk) (by decide) (fun K hK=>?_);refine goes_ Try.func40 zqk rfl #[.agg #[.slice b5 a4.length b3,.slice b6 a5.length b4],.string ((⟨#[33]⟩:ByteArray) ++ b1),.int .i64 a8,.int .i64 a6,.int .i64 a9] (by rfl) rfl rfl zq1 ?_;(with_reducible refine(impl_ValueOf.calls _ _ a4 _ _ a5 ((⟨#[33]⟩:ByteArray) ++ b1) a8 a6 a9 f4 _ ?side1 ?side2 ?side3 ?side4 h7.out).mono ?_);(case side1=> exact zq9);(case side2=> exact zq36);(case side3=> exact zq8);(case side4=> exact zq35);rintro e w9 ⟨rfl,hb⟩;refine⟨_,rfl,?_⟩;replace a1:=zqm (Kd.S_below (zqfS a1.out) hb);replace a2:=zqm (Kd.Q_below (zqfQ a2.out) hb);replace a0:=zqm (blk_below (g:=a3) (o:= .cells #[.slice b5 a4.length b3,.slice b6 a5.length b4] 26 (0,0)) (zqe a0.out) hb);replace HB:=zqm (below_step zq15 hb);clear hb;refine hK.out _ _ ⟨(blk_cell a0.out 0).trans rfl,(blk_cell a0.out 1).trans rfl⟩ (fun hHeld=>?_);clear hK K;refine norm_ (a':=?_) ?_ ?_
        rotate_left
        ·show Act.put _ (some 51) _=_;exact zqs
        refine one_ (i:=13) (N:=some 54) (zqb 38 16383) rfl rfl (one_of HT_.out zqk) (by decide) (fun K hK=>?_);refine goes_ Try.func25 zqk rfl #[.agg #[.slice b5 a4.length b3,.slice b6 a5.length b4],.int .i64 b2] (by rfl) rfl rfl zq1 ?_;(with_reducible refine(impl_NotOf.calls _ _ a4 _ _ a5 b2 f5 _ ?side1 ?side2 ?side3 ?side4 h9.out).mono ?_);(case side1=> exact zq9);(case side2=> exact zq36);(case side3=> exact zq8);(case side4=> exact zq35);rintro e x0 ⟨rfl,hb⟩;refine⟨_,rfl,?_⟩;replace a1:=zqm (Kd.S_below (zqfS a1.out) hb);replace a2:=zqm (Kd.Q_below (zqfQ a2.out) hb);replace a0:=zqm (blk_below (g:=a3) (o:= .cells #[.slice b5 a4.length b3,.slice b6 a5.length b4] 26 (0,0)) (zqe a0.out) hb);replace HB:=zqm (below_step zq15 hb);clear hb;refine hK.out _ _ ⟨(blk_cell a0.out 0).trans rfl,(blk_cell a0.out 1).trans rfl⟩ (fun hHeld=>?_);clear hK K;refine norm_ (a':=?_) ?_ ?_;rotate_left
        ·show Act.put _ (some 54) _=_;exact zqs
        refine zqp 14 55 (zqb 38 32767) HT_ ?_;refine zqp 15 56 (zqb 38 65535) HT_ ?_;refine zqp 16 57 (zqb 38 131071) HT_ ?_;refine zqp 18 59 (zqb 38 393215) HT_ ?_;refine zqp 19 60 (zqb 38 917503) HT_ ?_;refine zqp 20 61 (zqb 38 1966079) HT_ ?_;refine zqp 22 63 (zqb 38 6160383) HT_ ?_;refine zqw 17 58 (zqb 38 6291455) HT_ HW_ hHeld ?_;refine one_ (i:=21) (N:=some 62) (zqb 38 8388607) rfl rfl (one_of HT_.out zqk) (by decide) (fun K hK=>?_);refine goes_ Try.func40 zqk rfl #[.agg #[.slice b5 a4.length b3,.slice b6 a5.length b4],.string (⟨#[98]⟩:ByteArray),.int .i64 a8,.int .i64 a6,.int .i64 a9] (by rfl) rfl rfl zq1 ?_;(with_reducible refine(impl_ValueOf.calls _ _ a4 _ _ a5 (⟨#[98]⟩:ByteArray) a8 a6 a9 f8 _ ?side1 ?side2 ?side3 ?side4 j9.out).mono ?_);(case side1=> exact zq9);(case side2=> exact zq36);(case side3=> exact zq8);(case side4=> exact zq35);rintro e x1 ⟨rfl,hb⟩;refine⟨_,rfl,?_⟩;replace a1:=zqm (Kd.S_below (zqfS a1.out) hb);replace a2:=zqm (Kd.Q_below (zqfQ a2.out) hb);replace a0:=zqm (blk_below (g:=a3) (o:= .cells #[.slice b5 a4.length b3,.slice b6 a5.length b4] 26 (0,0)) (zqe a0.out) hb);replace HB:=zqm (below_step zq15 hb);clear hb;refine hK.out _ _ ⟨(blk_cell a0.out 0).trans rfl,(blk_cell a0.out 1).trans rfl⟩ (fun hHeld=>?_);clear hK K;refine norm_ (a':=?_) ?_ ?_;rotate_left
        ·show Act.put _ (some 62) _=_;exact zqs
        refine zqp 23 64 (zqb 38 16777215) HT_ ?_;refine zqp 24 65 (zqb 38 33554431) HT_ ?_;refine zqp 25 66 (zqb 38 67108863) HT_ ?_;refine zqp 27 68 (zqb 38 201326591) HT_ ?_;refine zqp 28 69 (zqb 38 469762047) HT_ ?_;refine zqp 29 70 (zqb 38 1006632959) HT_ ?_;refine zqp 32 73 (zqb 38 5301600255) HT_ ?_;refine zqp 33 74 (zqb 38 13891534847) HT_ ?_;refine zqw 26 67 (zqb 38 13958643711) HT_ HW_ hHeld ?_;refine zqw 31 72 (zqb 38 16106127359) HT_ HW_ hHeld ?_;refine one_ (i:=30) (N:=some 71) (zqb 38 17179869183) rfl rfl (one_of HT_.out zqk) (by decide) (fun K hK=>?_);refine goes_ Try.func40 zqk rfl #[.agg #[.slice b5 a4.length b3,.slice b6 a5.length b4],.string (⟨#[40,97,38,99,41]⟩:ByteArray),.int .i64 a8,.int .i64 a6,.int .i64 a9] (by rfl) rfl rfl zq1 ?_;(with_reducible refine(impl_ValueOf.calls _ _ a4 _ _ a5 (⟨#[40,97,38,99,41]⟩:ByteArray) a8 a6 a9 h1 _ ?side1 ?side2 ?side3 ?side4 u2.out).mono ?_);(case side1=> exact zq9);(case side2=> exact zq36);(case side3=> exact zq8);(case side4=> exact zq35);rintro e x2 ⟨rfl,hb⟩;refine⟨_,rfl,?_⟩;replace a1:=zqm (Kd.S_below (zqfS a1.out) hb);replace a2:=zqm (Kd.Q_below (zqfQ a2.out) hb);replace a0:=zqm (blk_below (g:=a3) (o:= .cells #[.slice b5 a4.length b3,.slice b6 a5.length b4] 26 (0,0)) (zqe a0.out) hb);replace HB:=zqm (below_step zq15 hb);clear hb;refine hK.out _ _ ⟨(blk_cell a0.out 0).trans rfl,(blk_cell a0.out 1).trans rfl⟩ (fun hHeld=>?_);clear hK K;refine norm_ (a':=?_) ?_ ?_;rotate_left
        ·show Act.put _ (some 71) _=_;exact zqs
        refine one_ (i:=34) (N:=some 75) (zqb 38 34359738367) rfl rfl (one_of HT_.out zqk) (by decide) (fun K hK=>?_);refine goes_ Try.func42 zqk rfl #[.agg #[.slice b5 a4.length b3,.slice b6 a5.length b4],.int .i64 a8,.int .i64 a9] (by rfl) rfl rfl zq1 ?_;(with_reducible refine(impl_AndOf.calls _ _ a4 _ _ a5 a8 a9 h2 _ ?side1 ?side2 ?side3 ?side4 u3.out).mono ?_);(case side1=> exact zq9);(case side2=> exact zq36);(case side3=> exact zq8);(case side4=> exact zq35);rintro e x3 ⟨rfl,hb⟩;refine⟨_,rfl,?_⟩;replace a1:=zqm (Kd.S_below (zqfS a1.out) hb);replace a2:=zqm (Kd.Q_below (zqfQ a2.out) hb);replace a0:=zqm (blk_below (g:=a3) (o:= .cells #[.slice b5 a4.length b3,.slice b6 a5.length b4] 26 (0,0)) (zqe a0.out) hb);replace HB:=zqm (below_step zq15 hb);clear hb;refine hK.out _ _ ⟨(blk_cell a0.out 0).trans rfl,(blk_cell a0.out 1).trans rfl⟩ (fun hHeld=>?_);clear hK K;refine norm_ (a':=?_) ?_ ?_;rotate_left
        ·show Act.put _ (some 75) _=_;exact zqs
        refine zqp 35 76 (zqb 38 68719476735) HT_ ?_;refine zqp 36 77 (zqb 38 137438953471) HT_ ?_;refine zqp 37 2 (zqb 38 274877906943) HT_ ?_;refine done_ (done_of HT_.out zqk) ?_;try go_wp2
        go_ret
        exact⟨zq13,zq15⟩
       ·rw [if_neg g5] at H;have j2:(f8==a6)=false:=beq_eq_false_iff_ne.mpr g5;have j3:(f8 !=a6)=true:=bne_iff_ne.mpr g5;obtain rfl:=Option.some.inj H
        go_enter Try.func7,Try.ntmps7
        (try go_wp2_with (first|((with_reducible refine gate_callee (f:=39) rfl ?_);refine goesL_ (some 14) rfl rfl Try.func39 zqk rfl #[.slice A0 l0.length c0] rfl zq1 ?_;(with_reducible refine(spec_DrawValueOf.calls k _ _ l0 a4 a5 b1 a8 a6 a9 _ ?side1 ?side2 A3.out).mono ?_);(case side1=> exact zq49);(case side2=>exact g1.out);rintro e x4 ⟨f9,g0,rfl,d0,d1,hb⟩;refine⟨_,rfl,?_⟩;have a1:=zqm (Kd.S_lower d0 (below_size zq0));have a2:=zqm (Kd.Q_lower d1 (below_size zq0));replace HB:=zqm (below_step zq0 hb);clear hb d0 d1)|((with_reducible refine gate_dst (N:=3) rfl ?_);refine box_event ?hg (N:=3) ?hd (cs:= #[.slice none 0 0,.slice none 0 0]) (t:=26) ?hr ?_;(case hd=>rfl);(case hg=>rfl);(case hr=> exact zq17);intro a3 hg l2 hbox hb;replace a1:=zqm (Kd.S_below (zqfS a1.out) hb);replace a2:=zqm (Kd.Q_below (zqfQ a2.out) hb);have d2:=zqm (below_step zq0 hb);have a0:=zqm (hbox);have f6:=zqm ((by rw [hg];exact(below_size zq0):w.heap.size≤a3));have b0:=zqm ((by rw [hg];exact(below_size zq0):w.heap.size≤a3));clear HB;have HB:=d2;clear d2 hb hbox hg;obtain⟨c5,b9,n3⟩:=Kd.S_slice a1.out;subst n3;have q5:l2.cell? ⟨a3,0,none⟩=some (.slice none 0 0):=(blk_cell a0.out 0).trans rfl;have q6:l2.cell? ⟨a3,1,none⟩=some (.slice none 0 0):=(blk_cell a0.out 1).trans rfl;have t3:=blk_frozen a0.out 0;have t4:=blk_frozen a0.out 1;obtain⟨c9,c1,n4,_⟩:=Kd.Q_slice a2.out;subst n4)|((with_reducible refine gate_callee (f:=40) rfl ?_);refine goesL_ (some 25) rfl rfl Try.func40 zqk rfl #[.agg #[.slice c5 a4.length b9,.slice c9 a5.length c1],.string b1,.int .i64 a8,.int .i64 a6,.int .i64 a9] rfl zq1 ?_;(with_reducible refine(impl_ValueOf.calls _ _ a4 _ _ a5 b1 a8 a6 a9 b2 _ ?side1 ?side2 ?side3 ?side4 A4.out).mono ?_);(case side1=>refine(Kd.S_reads' (e:=24) (base:=w.heap.size) (ok:=fun k_=>some k_≠(.slice c9 a5.length c1:Value).ownBlock) (n:=a4.length) (c:=b9) ?_).2.2;exact zq134);(case side2=> exact zq36);(case side3=>refine(Kd.Q_reads' (e:=3) (base:=w.heap.size) (ok:=fun k_=>True) (n:=a5.length) (c:=c1) ?_).2.2;exact zq115);(case side4=> exact zq35);rintro e l3 ⟨rfl,hb⟩;refine⟨_,rfl,?_⟩;replace a1:=zqm (Kd.S_below zq134 hb);replace a2:=zqm (Kd.Q_below zq115 hb);replace a0:=zqm (blk_below (g:=a3) (o:= .cells #[.slice c5 a4.length b9,.slice c9 a5.length c1] 26 (0,0)) (by refine zqe ?_;refine blk_put (cs:= #[.slice c5 a4.length b9,.slice none 0 0]) ?_ 1 _ rfl;refine zqe ?_;refine blk_put (cs:= #[.slice none 0 0,.slice none 0 0]) ?_ 0 _ rfl;refine zqe ?_;exact a0.out) hb);replace HB:=zqm (below_step zq15 hb);clear hb;have q7:l3.cell? ⟨a3,0,none⟩=some (.slice c5 a4.length b9):=(blk_cell a0.out 0).trans rfl;have q8:l3.cell? ⟨a3,1,none⟩=some (.slice c9 a5.length c1):=(blk_cell a0.out 1).trans rfl;have t5:=blk_frozen a0.out 0;have t6:=blk_frozen a0.out 1)|((with_reducible refine gate_callee (f:=41) rfl ?_);refine goesL_ (some 32) rfl rfl Try.func41 zqk rfl #[.agg #[.slice c5 a4.length b9,.slice c9 a5.length c1],.string b1,.int .i64 a8,.int .i64 a6,.int .i64 a9] rfl zq1 ?_;(with_reducible refine(spec_ValueOf.calls k _ _ a4 _ _ a5 b1 a8 a6 a9 d7 _ ?side1 ?side2 ?side3 ?side4 A5.out).mono ?_);(case side1=> exact zq9);(case side2=> exact zq36);(case side3=> exact zq8);(case side4=> exact zq35);rintro e u7 ⟨rfl,hb⟩;refine⟨_,rfl,?_⟩;replace a1:=zqm (Kd.S_below (zqfS a1.out) hb);replace a2:=zqm (Kd.Q_below (zqfQ a2.out) hb);replace a0:=zqm (blk_below (g:=a3) (o:= .cells #[.slice c5 a4.length b9,.slice c9 a5.length c1] 26 (0,0)) (zqe a0.out) hb);replace HB:=zqm (below_step zq15 hb);clear hb)))
        replace a1:=zqm (Kd.S_drew a1.out);replace a2:=zqm (Kd.Q_drew a2.out);replace a0:=zqm (blk_drew a0.out);replace HB:=zqm (below_drew1 HB.out);refine start_ (n:=38) (S:=fun w'=>w'.cell? ⟨a3,0,none⟩=some (.slice c5 a4.length b9)∧w'.cell? ⟨a3,1,none⟩=some (.slice c9 a5.length c1)) (ds:= []) (zqb 38 0) zqk rfl rfl ⟨(blk_cell a0.out 0).trans rfl,(blk_cell a0.out 1).trans rfl⟩ (fun hHeld=>?_);refine with_tabW laws_FnValueOf.tab9 laws_FnValueOf.bits9 (fun HT_ HW_=>?_);generalize u7.drew=x5 at a1 a2 a0 HB hHeld ⊢;refine zqp 0 41 (zqb 38 1) HT_ ?_;refine zqp 1 42 (zqb 38 3) HT_ ?_;refine zqp 2 43 (zqb 38 7) HT_ ?_;refine zqp 3 44 (zqb 38 15) HT_ ?_;refine zqp 5 46 (zqb 38 47) HT_ ?_;refine zqp 6 47 (zqb 38 111) HT_ ?_;refine zqp 7 48 (zqb 38 239) HT_ ?_;refine zqp 8 49 (zqb 38 495) HT_ ?_;refine zqp 9 50 (zqb 38 1007) HT_ ?_;refine zqp 12 53 (zqb 38 5103) HT_ ?_;refine zqw 4 45 (zqb 38 5119) HT_ HW_ hHeld ?_;refine zqw 11 52 (zqb 38 7167) HT_ HW_ hHeld ?_;refine one_ (i:=10) (N:=some 51) (zqb 38 8191) rfl rfl (one_of HT_.out zqk) (by decide) (fun K hK=>?_);refine goes_ Try.func40 zqk rfl #[.agg #[.slice c5 a4.length b9,.slice c9 a5.length c1],.string ((⟨#[33]⟩:ByteArray) ++ b1),.int .i64 a8,.int .i64 a6,.int .i64 a9] (by rfl) rfl rfl zq1 ?_;(with_reducible refine(impl_ValueOf.calls _ _ a4 _ _ a5 ((⟨#[33]⟩:ByteArray) ++ b1) a8 a6 a9 f4 _ ?side1 ?side2 ?side3 ?side4 h7.out).mono ?_);(case side1=> exact zq9);(case side2=> exact zq36);(case side3=> exact zq8);(case side4=> exact zq35);rintro e x6 ⟨rfl,hb⟩;refine⟨_,rfl,?_⟩;replace a1:=zqm (Kd.S_below (zqfS a1.out) hb);replace a2:=zqm (Kd.Q_below (zqfQ a2.out) hb);replace a0:=zqm (blk_below (g:=a3) (o:= .cells #[.slice c5 a4.length b9,.slice c9 a5.length c1] 26 (0,0)) (zqe a0.out) hb);replace HB:=zqm (below_step zq15 hb);clear hb;refine hK.out _ _ ⟨(blk_cell a0.out 0).trans rfl,(blk_cell a0.out 1).trans rfl⟩ (fun hHeld=>?_);clear hK K;refine norm_ (a':=?_) ?_ ?_
        rotate_left
        ·show Act.put _ (some 51) _=_;exact zqs
        refine one_ (i:=13) (N:=some 54) (zqb 38 16383) rfl rfl (one_of HT_.out zqk) (by decide) (fun K hK=>?_);refine goes_ Try.func25 zqk rfl #[.agg #[.slice c5 a4.length b9,.slice c9 a5.length c1],.int .i64 b2] (by rfl) rfl rfl zq1 ?_;(with_reducible refine(impl_NotOf.calls _ _ a4 _ _ a5 b2 f5 _ ?side1 ?side2 ?side3 ?side4 h9.out).mono ?_);(case side1=> exact zq9);(case side2=> exact zq36);(case side3=> exact zq8);(case side4=> exact zq35);rintro e x7 ⟨rfl,hb⟩;refine⟨_,rfl,?_⟩;replace a1:=zqm (Kd.S_below (zqfS a1.out) hb);replace a2:=zqm (Kd.Q_below (zqfQ a2.out) hb);replace a0:=zqm (blk_below (g:=a3) (o:= .cells #[.slice c5 a4.length b9,.slice c9 a5.length c1] 26 (0,0)) (zqe a0.out) hb);replace HB:=zqm (below_step zq15 hb);clear hb;refine hK.out _ _ ⟨(blk_cell a0.out 0).trans rfl,(blk_cell a0.out 1).trans rfl⟩ (fun hHeld=>?_);clear hK K;refine norm_ (a':=?_) ?_ ?_;rotate_left
        ·show Act.put _ (some 54) _=_;exact zqs
        refine zqp 14 55 (zqb 38 32767) HT_ ?_;refine zqp 15 56 (zqb 38 65535) HT_ ?_;refine zqp 16 57 (zqb 38 131071) HT_ ?_;refine zqp 18 59 (zqb 38 393215) HT_ ?_;refine zqp 19 60 (zqb 38 917503) HT_ ?_;refine zqp 20 61 (zqb 38 1966079) HT_ ?_;refine zqp 22 63 (zqb 38 6160383) HT_ ?_;refine zqw 17 58 (zqb 38 6291455) HT_ HW_ hHeld ?_;refine one_ (i:=21) (N:=some 62) (zqb 38 8388607) rfl rfl (one_of HT_.out zqk) (by decide) (fun K hK=>?_);refine goes_ Try.func40 zqk rfl #[.agg #[.slice c5 a4.length b9,.slice c9 a5.length c1],.string (⟨#[98]⟩:ByteArray),.int .i64 a8,.int .i64 a6,.int .i64 a9] (by rfl) rfl rfl zq1 ?_;(with_reducible refine(impl_ValueOf.calls _ _ a4 _ _ a5 (⟨#[98]⟩:ByteArray) a8 a6 a9 f8 _ ?side1 ?side2 ?side3 ?side4 j9.out).mono ?_);(case side1=> exact zq9);(case side2=> exact zq36);(case side3=> exact zq8);(case side4=> exact zq35);rintro e x8 ⟨rfl,hb⟩;refine⟨_,rfl,?_⟩;replace a1:=zqm (Kd.S_below (zqfS a1.out) hb);replace a2:=zqm (Kd.Q_below (zqfQ a2.out) hb);replace a0:=zqm (blk_below (g:=a3) (o:= .cells #[.slice c5 a4.length b9,.slice c9 a5.length c1] 26 (0,0)) (zqe a0.out) hb);replace HB:=zqm (below_step zq15 hb);clear hb;refine hK.out _ _ ⟨(blk_cell a0.out 0).trans rfl,(blk_cell a0.out 1).trans rfl⟩ (fun hHeld=>?_);clear hK K;refine norm_ (a':=?_) ?_ ?_;rotate_left
        ·show Act.put _ (some 62) _=_;exact zqs
        refine zqp 23 64 (zqb 38 16777215) HT_ ?_;refine zqp 24 65 (zqb 38 33554431) HT_ ?_;refine zqp 25 66 (zqb 38 67108863) HT_ ?_;refine zqu 26 67 (zqb 38 134217727) HT_ ?_;refine zqu 27 68 (zqb 38 268435455) HT_ ?_;refine zqu 28 69 (zqb 38 536870911) HT_ ?_;refine zqu 29 70 (zqb 38 1073741823) HT_ ?_;refine zqu 30 71 (zqb 38 2147483647) HT_ ?_;refine zqu 31 72 (zqb 38 4294967295) HT_ ?_;refine zqu 32 73 (zqb 38 8589934591) HT_ ?_;refine zqu 33 74 (zqb 38 17179869183) HT_ ?_;refine zqu 34 75 (zqb 38 34359738367) HT_ ?_;refine zqu 35 76 (zqb 38 68719476735) HT_ ?_;refine zqp 36 77 (zqb 38 137438953471) HT_ ?_;refine zqp 37 2 (zqb 38 274877906943) HT_ ?_;refine done_ (done_of HT_.out zqk) ?_;try go_wp2
        go_ret
        exact⟨zq13,zq15⟩
      ·rw [if_neg g4] at H;have j0:(f4==f5)=false:=beq_eq_false_iff_ne.mpr g4;have j1:(f4 !=f5)=true:=bne_iff_ne.mpr g4;obtain rfl:=Option.some.inj H
       go_enter Try.func7,Try.ntmps7
       (try go_wp2_with (first|((with_reducible refine gate_callee (f:=39) rfl ?_);refine goesL_ (some 14) rfl rfl Try.func39 zqk rfl #[.slice A0 l0.length c0] rfl zq1 ?_;(with_reducible refine(spec_DrawValueOf.calls k _ _ l0 a4 a5 b1 a8 a6 a9 _ ?side1 ?side2 A3.out).mono ?_);(case side1=> exact zq49);(case side2=>exact g1.out);rintro e x9 ⟨f9,g0,rfl,d0,d1,hb⟩;refine⟨_,rfl,?_⟩;have a1:=zqm (Kd.S_lower d0 (below_size zq0));have a2:=zqm (Kd.Q_lower d1 (below_size zq0));replace HB:=zqm (below_step zq0 hb);clear hb d0 d1)|((with_reducible refine gate_dst (N:=3) rfl ?_);refine box_event ?hg (N:=3) ?hd (cs:= #[.slice none 0 0,.slice none 0 0]) (t:=26) ?hr ?_;(case hd=>rfl);(case hg=>rfl);(case hr=> exact zq17);intro a3 hg l4 hbox hb;replace a1:=zqm (Kd.S_below (zqfS a1.out) hb);replace a2:=zqm (Kd.Q_below (zqfQ a2.out) hb);have d2:=zqm (below_step zq0 hb);have a0:=zqm (hbox);have f6:=zqm ((by rw [hg];exact(below_size zq0):w.heap.size≤a3));have b0:=zqm ((by rw [hg];exact(below_size zq0):w.heap.size≤a3));clear HB;have HB:=d2;clear d2 hb hbox hg;obtain⟨d5,d3,n5⟩:=Kd.S_slice a1.out;subst n5;have q9:l4.cell? ⟨a3,0,none⟩=some (.slice none 0 0):=(blk_cell a0.out 0).trans rfl;have r0:l4.cell? ⟨a3,1,none⟩=some (.slice none 0 0):=(blk_cell a0.out 1).trans rfl;have t7:=blk_frozen a0.out 0;have t8:=blk_frozen a0.out 1;obtain⟨d6,d4,n6,_⟩:=Kd.Q_slice a2.out;subst n6)|((with_reducible refine gate_callee (f:=40) rfl ?_);refine goesL_ (some 25) rfl rfl Try.func40 zqk rfl #[.agg #[.slice d5 a4.length d3,.slice d6 a5.length d4],.string b1,.int .i64 a8,.int .i64 a6,.int .i64 a9] rfl zq1 ?_;(with_reducible refine(impl_ValueOf.calls _ _ a4 _ _ a5 b1 a8 a6 a9 b2 _ ?side1 ?side2 ?side3 ?side4 A4.out).mono ?_);(case side1=>refine(Kd.S_reads' (e:=24) (base:=w.heap.size) (ok:=fun k_=>some k_≠(.slice d6 a5.length d4:Value).ownBlock) (n:=a4.length) (c:=d3) ?_).2.2;exact zq137);(case side2=> exact zq36);(case side3=>refine(Kd.Q_reads' (e:=3) (base:=w.heap.size) (ok:=fun k_=>True) (n:=a5.length) (c:=d4) ?_).2.2;exact zq118);(case side4=> exact zq35);rintro e l5 ⟨rfl,hb⟩;refine⟨_,rfl,?_⟩;replace a1:=zqm (Kd.S_below zq137 hb);replace a2:=zqm (Kd.Q_below zq118 hb);replace a0:=zqm (blk_below (g:=a3) (o:= .cells #[.slice d5 a4.length d3,.slice d6 a5.length d4] 26 (0,0)) (by refine zqe ?_;refine blk_put (cs:= #[.slice d5 a4.length d3,.slice none 0 0]) ?_ 1 _ rfl;refine zqe ?_;refine blk_put (cs:= #[.slice none 0 0,.slice none 0 0]) ?_ 0 _ rfl;refine zqe ?_;exact a0.out) hb);replace HB:=zqm (below_step zq15 hb);clear hb;have r1:l5.cell? ⟨a3,0,none⟩=some (.slice d5 a4.length d3):=(blk_cell a0.out 0).trans rfl;have r2:l5.cell? ⟨a3,1,none⟩=some (.slice d6 a5.length d4):=(blk_cell a0.out 1).trans rfl;have t9:=blk_frozen a0.out 0;have u0:=blk_frozen a0.out 1)|((with_reducible refine gate_callee (f:=41) rfl ?_);refine goesL_ (some 32) rfl rfl Try.func41 zqk rfl #[.agg #[.slice d5 a4.length d3,.slice d6 a5.length d4],.string b1,.int .i64 a8,.int .i64 a6,.int .i64 a9] rfl zq1 ?_;(with_reducible refine(spec_ValueOf.calls k _ _ a4 _ _ a5 b1 a8 a6 a9 d7 _ ?side1 ?side2 ?side3 ?side4 A5.out).mono ?_);(case side1=> exact zq9);(case side2=> exact zq36);(case side3=> exact zq8);(case side4=> exact zq35);rintro e u9 ⟨rfl,hb⟩;refine⟨_,rfl,?_⟩;replace a1:=zqm (Kd.S_below (zqfS a1.out) hb);replace a2:=zqm (Kd.Q_below (zqfQ a2.out) hb);replace a0:=zqm (blk_below (g:=a3) (o:= .cells #[.slice d5 a4.length d3,.slice d6 a5.length d4] 26 (0,0)) (zqe a0.out) hb);replace HB:=zqm (below_step zq15 hb);clear hb)))
       replace a1:=zqm (Kd.S_drew a1.out);replace a2:=zqm (Kd.Q_drew a2.out);replace a0:=zqm (blk_drew a0.out);replace HB:=zqm (below_drew1 HB.out);refine start_ (n:=38) (S:=fun w'=>w'.cell? ⟨a3,0,none⟩=some (.slice d5 a4.length d3)∧w'.cell? ⟨a3,1,none⟩=some (.slice d6 a5.length d4)) (ds:= []) (zqb 38 0) zqk rfl rfl ⟨(blk_cell a0.out 0).trans rfl,(blk_cell a0.out 1).trans rfl⟩ (fun hHeld=>?_);refine with_tabW laws_FnValueOf.tab9 laws_FnValueOf.bits9 (fun HT_ HW_=>?_);generalize u9.drew=y0 at a1 a2 a0 HB hHeld ⊢;refine zqp 0 41 (zqb 38 1) HT_ ?_;refine zqp 1 42 (zqb 38 3) HT_ ?_;refine zqp 2 43 (zqb 38 7) HT_ ?_;refine zqp 3 44 (zqb 38 15) HT_ ?_;refine zqp 5 46 (zqb 38 47) HT_ ?_;refine zqp 6 47 (zqb 38 111) HT_ ?_;refine zqp 7 48 (zqb 38 239) HT_ ?_;refine zqp 8 49 (zqb 38 495) HT_ ?_;refine zqp 9 50 (zqb 38 1007) HT_ ?_;refine zqp 12 53 (zqb 38 5103) HT_ ?_;refine zqw 4 45 (zqb 38 5119) HT_ HW_ hHeld ?_;refine zqw 11 52 (zqb 38 7167) HT_ HW_ hHeld ?_;refine one_ (i:=10) (N:=some 51) (zqb 38 8191) rfl rfl (one_of HT_.out zqk) (by decide) (fun K hK=>?_);refine goes_ Try.func40 zqk rfl #[.agg #[.slice d5 a4.length d3,.slice d6 a5.length d4],.string ((⟨#[33]⟩:ByteArray) ++ b1),.int .i64 a8,.int .i64 a6,.int .i64 a9] (by rfl) rfl rfl zq1 ?_;(with_reducible refine(impl_ValueOf.calls _ _ a4 _ _ a5 ((⟨#[33]⟩:ByteArray) ++ b1) a8 a6 a9 f4 _ ?side1 ?side2 ?side3 ?side4 h7.out).mono ?_);(case side1=> exact zq9);(case side2=> exact zq36);(case side3=> exact zq8);(case side4=> exact zq35);rintro e y1 ⟨rfl,hb⟩;refine⟨_,rfl,?_⟩;replace a1:=zqm (Kd.S_below (zqfS a1.out) hb);replace a2:=zqm (Kd.Q_below (zqfQ a2.out) hb);replace a0:=zqm (blk_below (g:=a3) (o:= .cells #[.slice d5 a4.length d3,.slice d6 a5.length d4] 26 (0,0)) (zqe a0.out) hb);replace HB:=zqm (below_step zq15 hb);clear hb;refine hK.out _ _ ⟨(blk_cell a0.out 0).trans rfl,(blk_cell a0.out 1).trans rfl⟩ (fun hHeld=>?_);clear hK K;refine norm_ (a':=?_) ?_ ?_
       rotate_left
       ·show Act.put _ (some 51) _=_;exact zqs
       refine one_ (i:=13) (N:=some 54) (zqb 38 16383) rfl rfl (one_of HT_.out zqk) (by decide) (fun K hK=>?_);refine goes_ Try.func25 zqk rfl #[.agg #[.slice d5 a4.length d3,.slice d6 a5.length d4],.int .i64 b2] (by rfl) rfl rfl zq1 ?_;(with_reducible refine(impl_NotOf.calls _ _ a4 _ _ a5 b2 f5 _ ?side1 ?side2 ?side3 ?side4 h9.out).mono ?_);(case side1=> exact zq9);(case side2=> exact zq36);(case side3=> exact zq8);(case side4=> exact zq35);rintro e y2 ⟨rfl,hb⟩;refine⟨_,rfl,?_⟩;replace a1:=zqm (Kd.S_below (zqfS a1.out) hb);replace a2:=zqm (Kd.Q_below (zqfQ a2.out) hb);replace a0:=zqm (blk_below (g:=a3) (o:= .cells #[.slice d5 a4.length d3,.slice d6 a5.length d4] 26 (0,0)) (zqe a0.out) hb);replace HB:=zqm (below_step zq15 hb);clear hb;refine hK.out _ _ ⟨(blk_cell a0.out 0).trans rfl,(blk_cell a0.out 1).trans rfl⟩ (fun hHeld=>?_);clear hK K;refine norm_ (a':=?_) ?_ ?_;rotate_left
       ·show Act.put _ (some 54) _=_;exact zqs
       refine zqp 14 55 (zqb 38 32767) HT_ ?_;refine zqp 15 56 (zqb 38 65535) HT_ ?_;refine zqp 16 57 (zqb 38 131071) HT_ ?_;refine zqu 17 58 (zqb 38 262143) HT_ ?_;refine zqu 18 59 (zqb 38 524287) HT_ ?_;refine zqu 19 60 (zqb 38 1048575) HT_ ?_;refine zqu 20 61 (zqb 38 2097151) HT_ ?_;refine zqu 21 62 (zqb 38 4194303) HT_ ?_;refine zqu 22 63 (zqb 38 8388607) HT_ ?_;refine zqu 23 64 (zqb 38 16777215) HT_ ?_;refine zqp 24 65 (zqb 38 33554431) HT_ ?_;refine zqp 25 66 (zqb 38 67108863) HT_ ?_;refine zqu 26 67 (zqb 38 134217727) HT_ ?_;refine zqu 27 68 (zqb 38 268435455) HT_ ?_;refine zqu 28 69 (zqb 38 536870911) HT_ ?_;refine zqu 29 70 (zqb 38 1073741823) HT_ ?_;refine zqu 30 71 (zqb 38 2147483647) HT_ ?_;refine zqu 31 72 (zqb 38 4294967295) HT_ ?_;refine zqu 32 73 (zqb 38 8589934591) HT_ ?_;refine zqu 33 74 (zqb 38 17179869183) HT_ ?_;refine zqu 34 75 (zqb 38 34359738367) HT_ ?_;refine zqu 35 76 (zqb 38 68719476735) HT_ ?_;refine zqp 36 77 (zqb 38 137438953471) HT_ ?_;refine zqp 37 2 (zqb 38 274877906943) HT_ ?_;refine done_ (done_of HT_.out zqk) ?_;try go_wp2
       go_ret
       exact⟨zq13,zq15⟩
     ·rw [if_neg g7] at H;exact absurd H (by simp)
  ·rw [if_neg c6] at H;have l8:(b2==d7)=false:=beq_eq_false_iff_ne.mpr c6;have l9:(b2 !=d7)=true:=bne_iff_ne.mpr c6;obtain rfl:=Option.some.inj H
   go_enter Try.func7,Try.ntmps7
   go_wp2_with (first|((with_reducible refine gate_callee (f:=39) rfl ?_);refine goesL_ (some 14) rfl rfl Try.func39 zqk rfl #[.slice A0 l0.length c0] rfl zq1 ?_;(with_reducible refine(spec_DrawValueOf.calls k _ _ l0 a4 a5 b1 a8 a6 a9 _ ?side1 ?side2 A3.out).mono ?_);(case side1=> exact zq49);(case side2=>exact g1.out);rintro e y3 ⟨f9,g0,rfl,d0,d1,hb⟩;refine⟨_,rfl,?_⟩;have a1:=zqm (Kd.S_lower d0 (below_size zq0));have a2:=zqm (Kd.Q_lower d1 (below_size zq0));replace HB:=zqm (below_step zq0 hb);clear hb d0 d1)|((with_reducible refine gate_dst (N:=3) rfl ?_);refine box_event ?hg (N:=3) ?hd (cs:= #[.slice none 0 0,.slice none 0 0]) (t:=26) ?hr ?_;(case hd=>rfl);(case hg=>rfl);(case hr=> exact zq17);intro a3 hg i4 hbox hb;replace a1:=zqm (Kd.S_below (zqfS a1.out) hb);replace a2:=zqm (Kd.Q_below (zqfQ a2.out) hb);have d2:=zqm (below_step zq0 hb);have a0:=zqm (hbox);have f6:=zqm ((by rw [hg];exact(below_size zq0):w.heap.size≤a3));have b0:=zqm ((by rw [hg];exact(below_size zq0):w.heap.size≤a3));clear HB;have HB:=d2;clear d2 hb hbox hg;obtain⟨e4,d8,j4⟩:=Kd.S_slice a1.out;subst j4;have n7:i4.cell? ⟨a3,0,none⟩=some (.slice none 0 0):=(blk_cell a0.out 0).trans rfl;have n8:i4.cell? ⟨a3,1,none⟩=some (.slice none 0 0):=(blk_cell a0.out 1).trans rfl;have o1:=blk_frozen a0.out 0;have o2:=blk_frozen a0.out 1;obtain⟨e5,d9,j5,_⟩:=Kd.Q_slice a2.out;subst j5)|((with_reducible refine gate_callee (f:=40) rfl ?_);refine goesL_ (some 25) rfl rfl Try.func40 zqk rfl #[.agg #[.slice e4 a4.length d8,.slice e5 a5.length d9],.string b1,.int .i64 a8,.int .i64 a6,.int .i64 a9] rfl zq1 ?_;(with_reducible refine(impl_ValueOf.calls _ _ a4 _ _ a5 b1 a8 a6 a9 b2 _ ?side1 ?side2 ?side3 ?side4 A4.out).mono ?_);(case side1=>refine(Kd.S_reads' (e:=24) (base:=w.heap.size) (ok:=fun k_=>some k_≠(.slice e5 a5.length d9:Value).ownBlock) (n:=a4.length) (c:=d8) ?_).2.2;exact zq139);(case side2=> exact zq36);(case side3=>refine(Kd.Q_reads' (e:=3) (base:=w.heap.size) (ok:=fun k_=>True) (n:=a5.length) (c:=d9) ?_).2.2;exact zq120);(case side4=> exact zq35);rintro e i5 ⟨rfl,hb⟩;refine⟨_,rfl,?_⟩;replace a1:=zqm (Kd.S_below zq139 hb);replace a2:=zqm (Kd.Q_below zq120 hb);replace a0:=zqm (blk_below (g:=a3) (o:= .cells #[.slice e4 a4.length d8,.slice e5 a5.length d9] 26 (0,0)) (by refine zqe ?_;refine blk_put (cs:= #[.slice e4 a4.length d8,.slice none 0 0]) ?_ 1 _ rfl;refine zqe ?_;refine blk_put (cs:= #[.slice none 0 0,.slice none 0 0]) ?_ 0 _ rfl;refine zqe ?_;exact a0.out) hb);replace HB:=zqm (below_step zq15 hb);clear hb;have n9:i5.cell? ⟨a3,0,none⟩=some (.slice e4 a4.length d8):=(blk_cell a0.out 0).trans rfl;have o0:i5.cell? ⟨a3,1,none⟩=some (.slice e5 a5.length d9):=(blk_cell a0.out 1).trans rfl;have o3:=blk_frozen a0.out 0;have o4:=blk_frozen a0.out 1)|((with_reducible refine gate_callee (f:=41) rfl ?_);refine goesL_ (some 32) rfl rfl Try.func41 zqk rfl #[.agg #[.slice e4 a4.length d8,.slice e5 a5.length d9],.string b1,.int .i64 a8,.int .i64 a6,.int .i64 a9] rfl zq1 ?_;(with_reducible refine(spec_ValueOf.calls k _ _ a4 _ _ a5 b1 a8 a6 a9 d7 _ ?side1 ?side2 ?side3 ?side4 A5.out).mono ?_);(case side1=> exact zq9);(case side2=> exact zq36);(case side3=> exact zq8);(case side4=> exact zq35);rintro e v3 ⟨rfl,hb⟩;refine⟨_,rfl,?_⟩;replace a1:=zqm (Kd.S_below (zqfS a1.out) hb);replace a2:=zqm (Kd.Q_below (zqfQ a2.out) hb);replace a0:=zqm (blk_below (g:=a3) (o:= .cells #[.slice e4 a4.length d8,.slice e5 a5.length d9] 26 (0,0)) (zqe a0.out) hb);replace HB:=zqm (below_step zq15 hb);clear hb))
   go_ret
   exact⟨zq13,zq15⟩
def laws_FnValueOf.Pure : Prop := ∀ (l0 : List Int), l0.length ≤ maxLen → l0.length * 1 ≤ 140737488351232 → (∀ x ∈ l0, (Lit.int .u8 x).wf = true) → ∃ k, laws_FnValueOf.f k l0 = some true
theorem laws_FnValueOf.walk (P : laws_FnValueOf.Pure) (a0 : Option Addr) (len0 cap0 : Nat) (z0 : List Int) (w : World) (w0 : (a0 = none ∧ len0 = 0 ∧ cap0 = 0 ∧ z0 = []) ∨ ∃ x, a0 = some x ∧ len0 ≤ cap0 ∧ cap0 ≤ maxLen ∧ z0.length = cap0 ∧ (∀ i, i < z0.length → w.cell? (x.add i) = some (.int .u8 (z0.getD i 0))) ∧ ∀ n ∈ z0, (Lit.int .u8 n).wf = true) (y0 : len0 * 1 ≤ 140737488351232) :
  Calls Try.prog 7 #[.slice a0 len0 cap0] w fun e w' => e = .returned (.bool true) ∧ Below w.heap.size w w' := by
 obtain ⟨l0, rfl, hr0, hm0, hw0, hc0⟩ := ReadsInt.ofRowC w0
 obtain ⟨k, h⟩ := P l0 hm0 y0 hw0
 refine (laws_FnValueOf.calls k _ _ l0 true w (Kd.C_of_reads (d := (0 : Int)) (h1 := fun _ => rfl) hr0) hc0 h).mono ?_
 rintro e w' ⟨rfl, hd⟩
 exact ⟨rfl, hd⟩
end Go.Proofs.Ytcbjpdaogicibaa.Print
end
section
namespace Go.Proofs.Ytcbjpdaogicibaa.Print
open Go.RowKit Go.Proofs.YtcbjpdaogicibaaW.PrintWords Go.Proofs.YtcbjpdaogicibaaW.PrintLast Go.Proofs.YtcbjpdaogicibaaW.PrintMore
open Oml
theorem three_ev' {b : List Int} (hb : Bytes b) (hl : b.length ≤ 2000) {p : Int} (h0 : 0 ≤ p) (h1 : p ≤ 999998000) (n : Int) : ∃ V M x y z q, Ev (fun k => spec_l20Three.f k b p n) (V, M, x, y, z, q) ∧ p ≤ q ∧ q ≤ p + 125 := by
 obtain⟨V,M,x,y,q,h,k1,k2⟩:=two_ev hb hl h0 (by omega) n
 obtain⟨v,e,_,_⟩:=pick_ev hb hl (p:=q) (by omega) (by omega) (mx (M.length:Int) 1)
 exact⟨V,M,x,y,v,q+1,Ev.bind h (Ev.bind e (Ev.now _)),by omega,by omega⟩
end Go.Proofs.Ytcbjpdaogicibaa.Print
end
section
namespace Go.Proofs.Ytcbjpdaogicibaa.Print
open Go.RowKit Go.Proofs.YtcbjpdaogicibaaW.PrintWords Go.Proofs.YtcbjpdaogicibaaW.PrintLast Go.Proofs.YtcbjpdaogicibaaW.PrintMore
open Oml
theorem drawValueOf_ev {l : List Int} (h : Bytes l) : ∃ V M s x y z, Ev (fun k => spec_DrawValueOf.f k l) (V, M, s, x, y, z) ∧ s.size ≤ 200 := by
 obtain⟨b,hb,hbl,ho⟩:=open_ev h
 obtain⟨V,M,x,y,z,q,hd,q0,q1⟩:=three_ev' hb hbl (p:=0) (by omega) (by omega) 14
 obtain⟨s,r,hs,r0,r1,s1⟩:=formed_ev hb hbl (p:=q) (by omega) (by omega) 14
 unfold spec_DrawValueOf.f
 exact⟨V,M,s,x,y,z,Ev.pbind ho (Ev.bind hd (Ev.bind hs (Ev.now _))),s1⟩
theorem laws_FnValueOf.ev (l : List Int) (h : Bytes l) : Ev (fun k => laws_FnValueOf.f k l) true := by
 unfold laws_FnValueOf.f
 by_cases hl:(l.length:Int)>1048576
 ·exact Ev.ite_pos hl (Ev.now _)
 refine Ev.ite_neg hl ?_
 obtain⟨V,M,s,a,b,c,hd,hsz⟩:=drawValueOf_ev h
 refine Ev.bind hd (Ev.pbind rfl (Ev.bind (spec_ValueOf.ev V M s a b c) ?_))
 dsimp only
 refine Ev.ite_pos rfl ?_
 cases hf:fmOf s with
 |none=>exact Ev.ite_pos (by simp) (Ev.ite_pos (by simp) (Ev.bind alive_ok (Ev.now _)))
 |some f=>
 cases hg:logicB V M with
 |false=>exact Ev.ite_pos (by simp) (Ev.ite_pos (by simp) (Ev.bind alive_ok (Ev.now _)))
 |true=>
 have L:=logicB_iff.1 hg
 cases hin: [a,b,c].all (inR V.length) with
 |false=>exact Ev.ite_pos (by simp) (Ev.ite_pos (by simp) (Ev.bind alive_ok (Ev.now _)))
 |true=>
 have hin0:=hin
 simp only [List.all_cons,List.all_nil,Bool.and_true,Bool.and_eq_true,inR_iff] at hin
 obtain⟨x,rfl⟩:=fin_of hin.1
 obtain⟨y,rfl⟩:=fin_of hin.2.1
 obtain⟨z,rfl⟩:=fin_of hin.2.2
 have hv: ∀(t:ByteArray) (g:Fm),fmOf t=some g→impl_ValueOf.f V M t ((x.1:Nat):Int) ((y.1:Nat):Int) ((z.1:Nat):Int)=some (((valO L x y z g).1:Nat):Int):=fun t g ht=>by
  unfold impl_ValueOf.f
  rw [ht]
  show some (if logicB V M=true then _ else _)=_
  rw [if_pos hg]
  congr 1
  rw [← val_fin L]
  exact if_pos hin0
 have e1:impl_AndOf.f V M ((x.1:Nat):Int) ((z.1:Nat):Int)=some (((L.ol.meet x z).1:Nat):Int):=by unfold impl_AndOf.f;rw [hg,if_pos rfl,inR_two x z,if_pos rfl,and_fin L]
 have e2: ∀u:Fin V.length,impl_NotOf.f V M ((u.1:Nat):Int)=some (((L.ol.neg u).1:Nat):Int):=fun u=>by unfold impl_NotOf.f;rw [hg,if_pos rfl,inR_one u,if_pos rfl,not_fin L]
 have e3:=hv ⟨#[98]⟩ _ fm_b
 have e4:=hv ⟨#[40,97,38,99,41]⟩ _ fm_ac
 have v3:valO L x y z (.leaf 98)=y:=rfl
 have v4:valO L x y z (.bin 38 (.leaf 97) (.leaf 99))=L.ol.meet x z:=rfl
 rw [v3] at e3
 rw [v4] at e4
 simp only [if_true,val_fin L]
 refine Ev.ite_neg (by omega) ?_
 by_cases h60:(s.size:Int)≥60
 ·exact Ev.ite_pos h60 (Ev.pbind e3 (Ev.ite_pos rfl (Ev.pbind e4 (Ev.pbind e1 (Ev.eq (Ev.now _) (by simp))))))
 ·have hn:fmOf ((⟨#[33]⟩:ByteArray) ++ s)=some (.neg f):=by rw [fm_neg (by omega),hf];rfl
  have e5:=hv _ _ hn
  have v5:valO L x y z (.neg f)=L.ol.neg (valO L x y z f):=rfl
  rw [v5] at e5
  exact Ev.ite_neg h60 (Ev.ite_pos (by omega) (Ev.pbind e5 (Ev.pbind (e2 _) (Ev.ite_pos rfl (Ev.pbind e3 (Ev.ite_pos rfl (Ev.pbind e4 (Ev.pbind e1 (Ev.eq (Ev.now _) (by simp))))))))))
end Go.Proofs.Ytcbjpdaogicibaa.Print
namespace Go.Proofs.Ytcbjpdaogicibaa.Pure
open Go.RowKit Go.Proofs.Ytcbjpdaogicibaa.Print Go.Proofs.YtcbjpdaogicibaaW.PrintWords Go.Proofs.YtcbjpdaogicibaaW.PrintLast Go.Proofs.YtcbjpdaogicibaaW.PrintMore
theorem FnValueOf : laws_FnValueOf.Pure := fun l _ _ hw => (laws_FnValueOf.ev l fun x hx => by
 have:=hw x hx
 first|exact Go.RowKit.bounds_u8 this|exact Go.ChangeShapes.bounds_u8 this|exact bounds_u8 this|(simp [Lit.wf,IntKind.wf] at this;omega)|(simp [Lit.wf] at this;omega)).rounds
end Go.Proofs.Ytcbjpdaogicibaa.Pure
end
