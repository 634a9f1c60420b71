/- Part 1 of what this is proved by: for every text of bytes the law of BehindOf answers true -/
import Derived.Test.YtdoomkcgdcfmlaaLB7
import Derived.Below
import Derived.Deep.Draws
import Derived.Deep.AppendLies
import Derived.Maps.AppendAt
import Derived.OwnWalk
import Derived.Laws.BytesArg
import Derived.Laws.MakeOwn
import Derived.Laws.OwnMore
import Derived.Deep.OwnRows
import Derived.Tactics
import Derived.Lib.ConvBytes
import Derived.Laws.Slices
import Derived.WalkKit
import Derived.KernelRfl
import Derived.RowKit3
import Derived.Deep.LoopGhost
import Derived.Deep.QuietTactic
import Derived.BigQuiet
import Derived.WideLaws
import Derived.Deep.DeepCutAuto
import Derived.Deep.CutBlock
import Derived.Deep.RegionHeld3
import Derived.Laws.Rows
import Derived.Lib.AppendStr
import Derived.ArgAppend
import Derived.Laws.IdiomCopy
import Derived.RowKit
import Derived.Test.YtdoomkcgdcfmlaaProg
import Derived.OrdersHeld
import Derived.Laws.BitsLemmas
set_option linter.all false
section
namespace Go.Proofs.YtdoomkcgdcfmlaaW.PrintWords
open Go.RowKit
def nums (k : IntKind) (xs : List Int) : List Value := xs.map fun x => .int k x
theorem own_lit (W : World) (base : Nat) (e : TypeId) (k : IntKind) (xs : List Int) (hb : base ≤ W.heap.size) (hm : xs.length ≤ 9223372036854775807) :
    (W.alloc (.cells (nums k xs).toArray e)).ownsRow base e 1 (.slice (some ⟨W.heap.size,0,none⟩) xs.length xs.length) xs.length (nums k xs):=by
  have h:=World.ownsRow_lit (base:=base) (e:=e) (size:=1) W (nums k xs).toArray xs.length hb (by simpa [maxLen] using hm) (by simp [nums])
  simpa using h
section
variable {P : Program}
theorem results_ctt {fn : Func} {p u v : Tmp} {ty : TypeId} (h : fn.results = #[.cell p ty, .tmp u, .tmp v]) (tmps : Array Value) (w : World) (g : Nat) (t : TypeId) (cs : Array Value) (fr : Nat × Nat) (d : TypeDesc)
    (hp:tmps.getD p undef= .pointer (some ⟨g,0,none⟩)) (hg:w.heap[g]? =some (.cells cs t fr))
    (hu:P.underlying ty=some d) (hd:(match d with| .struct _| .array _ _=>true|_=>false)=true) (hi:(P.info? ty).map (·.size)=some cs.size):
    (results fn tmps).run P w= .ok (.tuple #[.agg cs,tmps.getD u undef,tmps.getD v undef]) w:=by
  have hp':tmps[p]?.getD undef= .pointer (some ⟨g,0,none⟩):=by simpa using hp
  simp [results,h,hp',asAddr,run_loadVar_row w g t ty cs fr d hg hu hd hi]
end
theorem ReadsInt.drewN {W : World} {k : IntKind} {A : Option Addr} {n : Nat} {xs : List Int} (h : ReadsInt W k A n xs) (m : Nat) : ReadsInt (W.drewN m) k A n xs := h
theorem ReadsOf.drewN {α : Type} {enc : α → Value} {d : α} {W : World} {A : Option Addr} {n : Nat} {xs : List α} (h : ReadsOf enc d W A n xs) (m : Nat) : ReadsOf enc d (W.drewN m) A n xs := h
theorem cell_far {W : World} {p a : Addr} (h : a.block ≠ p.block) (u : Value) : (W.setCell p u).cell? a = W.cell? a := by
  have := Below.heap_setCell W p u a.block h
  simp [World.cell?, this]
inductive Vals (P : Program) (tmps : Array Value) (w : World) : List ResultVar → List Value → Prop where
  |nil:Vals P tmps w [] []
  |tmp {u:Tmp} {rs:List ResultVar} {vs:List Value} (h:Vals P tmps w rs vs):Vals P tmps w (.tmp u :: rs) (tmps.getD u undef :: vs)
  | cell {p : Tmp} {ty : TypeId} {rs : List ResultVar} {vs : List Value} (g : Nat) (t : TypeId) (cs : Array Value) (fr : Nat × Nat) (d : TypeDesc)
      (hp:tmps.getD p undef= .pointer (some ⟨g,0,none⟩)) (hg:w.heap[g]? =some (.cells cs t fr))
      (hu:P.underlying ty=some d) (hd:(match d with| .struct _| .array _ _=>true|_=>false)=true) (hi:(P.info? ty).map (·.size)=some cs.size)
      (h:Vals P tmps w rs vs):Vals P tmps w (.cell p ty :: rs) (.agg cs :: vs)
section
variable {P : Program} {tmps : Array Value} {w : World}
theorem vals_run {rs : List ResultVar} {vs : List Value} (hv : Vals P tmps w rs vs) (f : ResultVar → Sem Value) (hf : ∀ u, f (.tmp u) = pure (tmps.getD u undef)) (hc : ∀ a t, f (.cell a t) = (do loadVar t (← asAddr (tmps.getD a undef)))) :
    (rs.mapM f).run P w= .ok vs w:=by
  induction hv with
  |nil=>simp
  |tmp h ih=>simp [List.mapM_cons,hf,ih]
  | cell g t cs fr d hp hg hu hd hi h ih =>
    rw [List.mapM_cons,hc,hp]
    simp [asAddr,run_loadVar_row w g t _ cs fr d hg hu hd hi,ih]
theorem results_list {fn : Func} {rs : List ResultVar} {vs : List Value} (h : fn.results = rs.toArray) (hl : vs.length ≠ 1) (hv : Vals P tmps w rs vs) : (results fn tmps).run P w = .ok (.tuple vs.toArray) w := by
  unfold results
  rw [h,List.mapM_toArray]
  simp only [Sem.run_bind,Sem.run_map]
  rw [vals_run hv]
  · simp [hl]
  · intro u
    rfl
  · intro a t
    rfl
end
end Go.Proofs.YtdoomkcgdcfmlaaW.PrintWords
end
section
namespace Go.Proofs.YtdoomkcgdcfmlaaW.PrintWords
open Go.RowKit
section
variable {w W W2 : World} {S S2 S' : Nat → Prop}
theorem Kept.drewN (h : Kept w W S) (m : Nat) : Kept w (W.drewN m) S := h
end
end Go.Proofs.YtdoomkcgdcfmlaaW.PrintWords
end
section
namespace Go.Proofs.YtdoomkcgdcfmlaaW.PrintWords
open Go.RowKit
def mx (a b : Int) : Int := if a < b then b else a
end Go.Proofs.YtdoomkcgdcfmlaaW.PrintWords

end
section
namespace Go.Proofs.Ytdoomkcgdcfmlaa
variable {p : Prop}
theorem zq5 (h:p:=by repeat(first|exact(Kd.S_reads' a2.out).2.2|(with_reducible refine Kd.C_alloc ?_ _)|(with_reducible refine Kd.C_drewN ?_ _)|(with_reducible refine Kd.C_drew ?_))):p:=h
theorem zq6 (h:p:=by (with_reducible repeat(first|apply Kd.S_alloc|apply Kd.S_drewN|apply Kd.S_drew));exact a2.out):p:=h
theorem zq14 (h:p:=by repeat(first|exact(Kd.Q_reads' a3.out).2.2|(with_reducible refine Kd.C_alloc ?_ _)|(with_reducible refine Kd.C_drewN ?_ _)|(with_reducible refine Kd.C_drew ?_))):p:=h
theorem zq20 (h:p:=by (with_reducible repeat(first|apply Kd.Q_alloc|apply Kd.Q_drewN|apply Kd.Q_drew));exact a3.out):p:=h
theorem zq26 (h:p:=by repeat(first|exact(Kd.C_below a8.out HB.out)|(with_reducible refine Kd.C_alloc ?_ _)|(with_reducible refine Kd.C_drewN ?_ _)|(with_reducible refine Kd.C_drew ?_))):p:=h
theorem zq42 (h:p:=by repeat(first|exact(Kd.C_below b1.out HB.out)|(with_reducible refine Kd.C_alloc ?_ _)|(with_reducible refine Kd.C_drewN ?_ _)|(with_reducible refine Kd.C_drew ?_))):p:=h
theorem zq45 (h:p:=by repeat(first|exact(Kd.C_below b0.out HB.out)|(with_reducible refine Kd.C_alloc ?_ _)|(with_reducible refine Kd.C_drewN ?_ _)|(with_reducible refine Kd.C_drew ?_))):p:=h
theorem zq46 (h:p:=by repeat(first|(with_reducible exact b0.out)|(with_reducible refine Kd.C_alloc ?_ _)|(with_reducible refine Kd.C_drewN ?_ _)|(with_reducible refine Kd.C_drew ?_)|exact b0.out)):p:=h
theorem zq51 (h:p:=by repeat(first|(with_reducible first|exact HB.out|apply below_alloc|apply pw_below_drewN|apply below_drew1|refine below_set ?_ (IsS87.ge a3.out)|refine below_set ?_ a4.out)|exact HB.out)):p:=h
theorem zq52 (h:p:=by (with_reducible repeat(first|refine blk_drewN ?_ _|refine blk_drew ?_|refine blk_alloc ?_ _));refine blk_put (cs:= #[.slice b7 a5.length b8,.slice none 0 0]) ?_ 1 _ rfl;(with_reducible repeat(first|refine blk_drewN ?_ _|refine blk_drew ?_|refine blk_alloc ?_ _));refine blk_put (cs:= #[.slice none 0 0,.slice none 0 0]) ?_ 0 _ rfl;(with_reducible repeat(first|refine blk_drewN ?_ _|refine blk_drew ?_|refine blk_alloc ?_ _));exact a0.out):p:=h
theorem zq60 (h:p:=by repeat(first|exact(Kd.C_below a6.out (by repeat(first|(with_reducible first|exact HB.out|apply below_alloc|apply pw_below_drewN|apply below_drew1|refine below_set ?_ a4.out)|exact HB.out)))|(with_reducible refine Kd.C_alloc ?_ _)|(with_reducible refine Kd.C_drewN ?_ _)|(with_reducible refine Kd.C_drew ?_))):p:=h
theorem zq62 (h:p:=by repeat(first|exact(Kd.C_below a5.out (by repeat(first|(with_reducible first|exact HB.out|apply below_alloc|apply pw_below_drewN|apply below_drew1|refine below_set ?_ a4.out)|exact HB.out)))|(with_reducible refine Kd.C_alloc ?_ _)|(with_reducible refine Kd.C_drewN ?_ _)|(with_reducible refine Kd.C_drew ?_))):p:=h
theorem zq80 (h:p:=by (with_reducible repeat(first|apply Kd.Q_alloc|apply Kd.Q_drewN|apply Kd.Q_drew));exact Kd.Q_mono (Kd.Q_far (p:=⟨a1,1,none⟩) (Kd.Q_far (p:=⟨a1,0,none⟩) (Kd.Q_types b6.out a0.out (by decide)) (fun _ hk=>hk.2) (.slice b7 a5.length b8)) (fun _ hk=>hk.2) (.slice b2 a8.length b3)) (fun _ hk=>trivial)):p:=h
theorem zq83 (h:p:=by (with_reducible repeat(first|apply Kd.S_alloc|apply Kd.S_drewN|apply Kd.S_drew));exact Kd.S_mono (Kd.S_far (p:=⟨a1,1,none⟩) (Kd.S_far (p:=⟨a1,0,none⟩) (Kd.S_types b5.out a0.out (by decide)) (fun _ hk=>hk.2) (.slice b7 a5.length b8)) (fun _ hk=>hk.2) (.slice b2 a8.length b3)) (fun _ hk=>hk.1)):p:=h
theorem zq99 (h:p:=by repeat(first|exact l3.out|(with_reducible refine Kd.C_alloc ?_ _)|(with_reducible refine Kd.C_drewN ?_ _)|(with_reducible refine Kd.C_drew ?_))):p:=h
theorem zq100 (h:p:=by (with_reducible repeat(first|refine blk_drewN ?_ _|refine blk_drew ?_|refine blk_alloc ?_ _));exact a5.out):p:=h
theorem zq102 (h:p:=by repeat(first|(with_reducible first|exact HB.out|apply below_alloc|apply pw_below_drewN|apply below_drew1|refine below_set ?_ (IsS87.ge a0.out)|refine below_set ?_ c3.out|refine below_set ?_ d0.out)|exact HB.out)):p:=h
theorem zq117 (h:p:=by repeat(first|(with_reducible first|exact a0.out|apply IsS87.alloc|apply IsS87.drewN|apply IsS87.drew|apply IsS87.set_1|refine IsS87.far ?_ a7.out _|refine IsS87.far ?_ a9.out _)|exact a0.out)):p:=h
theorem zq118 (h:p:=by repeat(first|(with_reducible first|exact HK.out|apply KeepBut.set_|apply keep_drewN|apply keep_drew|apply keep_alloc|refine keep_far ?_ b9.out _|refine keep_far ?_ c9.out _)|exact HK.out)):p:=h
theorem zq127 (h:p:=by repeat(first|exact(Kd.C_below b8.out HB.out)|(with_reducible refine Kd.C_alloc ?_ _)|(with_reducible refine Kd.C_drewN ?_ _)|(with_reducible refine Kd.C_drew ?_))):p:=h
theorem zq131 (h:p:=by repeat(first|(with_reducible first|exact HK.out|apply KeepBut.set_|apply keep_drewN|apply keep_drew|apply keep_alloc|refine keep_far ?_ b7.out _)|exact HK.out)):p:=h
theorem zq132 (h:p:=by repeat(first|(with_reducible first|exact HK.out|apply KeepBut.set_|apply keep_drewN|apply keep_drew|apply keep_alloc|refine keep_far ?_ b9.out _)|exact HK.out)):p:=h
theorem zq140 (h:p:=by (with_reducible repeat(first|apply Kd.R_alloc|apply Kd.R_drewN|apply Kd.R_drew));exact b7.out):p:=h
theorem zq153 (h:p:=by (with_reducible repeat(first|refine blk_drewN ?_ _|refine blk_drew ?_|refine blk_alloc ?_ _));exact a6.out):p:=h
theorem zq168 (h:p:=by repeat(first|(with_reducible exact b2.out)|(with_reducible refine Kd.C_alloc ?_ _)|(with_reducible refine Kd.C_drewN ?_ _)|(with_reducible refine Kd.C_drew ?_)|exact b2.out)):p:=h
theorem zq172 (h:p:=by (with_reducible repeat(first|apply Kd.R_alloc|apply Kd.R_drewN|apply Kd.R_drew));exact b4.out):p:=h
theorem zq177 (h:p:=by repeat(first|(with_reducible first|exact HB.out|apply below_alloc|apply pw_below_drewN|apply below_drew1|refine below_set ?_ (IsS87.ge a3.out)|refine below_set ?_ c3.out|refine below_set ?_ d5.out)|exact HB.out)):p:=h
theorem zq187 (h:p:=by (with_reducible repeat(first|apply Kd.Q_alloc|apply Kd.Q_drewN|apply Kd.Q_drew));exact(Kd.Q_mono (Kd.Q_far (p:=⟨a4,1,none⟩) (Kd.Q_far (p:=⟨a4,0,none⟩) (Kd.Q_types a3.out a0.out (by decide)) (fun _ hk=>hk.2) (.slice g2 a1.length d2)) (fun _ hk=>hk.2) (.slice d6 a5.length d3)) (fun _ h_=>h_.1))):p:=h
theorem zq197 (h:p:=by (with_reducible repeat(first|apply Kd.S_alloc|apply Kd.S_drewN|apply Kd.S_drew));exact(Kd.S_mono (Kd.S_far (p:=⟨a4,1,none⟩) (Kd.S_far (p:=⟨a4,0,none⟩) (Kd.S_types a2.out a0.out (by decide)) (fun _ hk=>hk.2) (.slice g4 a1.length e5)) (fun _ hk=>hk.2) (.slice c9 a5.length c3)) (fun _ h_=>h_.1))):p:=h
theorem zq198 (h:p:=by (with_reducible repeat(first|apply Kd.S_alloc|apply Kd.S_drewN|apply Kd.S_drew));exact(Kd.S_mono (Kd.S_far (p:=⟨a4,1,none⟩) (Kd.S_far (p:=⟨a4,0,none⟩) (Kd.S_types a2.out a0.out (by decide)) (fun _ hk=>hk.2) (.slice i8 a1.length i6)) (fun _ hk=>hk.2) (.slice i9 a5.length i7)) (fun _ h_=>h_.1))):p:=h
theorem zq201 (h:p:=by (with_reducible repeat(first|apply Kd.S_alloc|apply Kd.S_drewN|apply Kd.S_drew));exact(Kd.S_mono (Kd.S_far (p:=⟨a4,1,none⟩) (Kd.S_far (p:=⟨a4,0,none⟩) (Kd.S_types a2.out a0.out (by decide)) (fun _ hk=>hk.2) (.slice g8 a1.length g5)) (fun _ hk=>hk.2) (.slice g9 a5.length g6)) (fun _ h_=>h_.1))):p:=h
theorem zq215 (h:p:=by (with_reducible repeat(first|apply Kd.S_alloc|apply Kd.S_drewN|apply Kd.S_drew));exact(Kd.S_mono (Kd.S_far (p:=⟨a4,1,none⟩) (Kd.S_far (p:=⟨a4,0,none⟩) (Kd.S_types a2.out a0.out (by decide)) (fun _ hk=>hk.2) (.slice i3 a1.length h9)) (fun _ hk=>hk.2) (.slice i4 a5.length i0)) (fun _ h_=>h_.1))):p:=h
theorem zq218 (h:p:=by (with_reducible repeat(first|apply Kd.S_alloc|apply Kd.S_drewN|apply Kd.S_drew));exact(Kd.S_mono (Kd.S_far (p:=⟨a4,1,none⟩) (Kd.S_far (p:=⟨a4,0,none⟩) (Kd.S_types a2.out a0.out (by decide)) (fun _ hk=>hk.2) (.slice g2 a1.length d2)) (fun _ hk=>hk.2) (.slice d6 a5.length d3)) (fun _ h_=>h_.1))):p:=h
theorem zq224 (h:p:=by (with_reducible repeat(first|apply Kd.Q_alloc|apply Kd.Q_drewN|apply Kd.Q_drew));exact(Kd.Q_mono (Kd.Q_far (p:=⟨a4,1,none⟩) (Kd.Q_far (p:=⟨a4,0,none⟩) (Kd.Q_types a3.out a0.out (by decide)) (fun _ hk=>hk.2) (.slice g8 a1.length g5)) (fun _ hk=>hk.2) (.slice g9 a5.length g6)) (fun _ h_=>h_.1))):p:=h
theorem zq225 (h:p:=by (with_reducible repeat(first|apply Kd.S_alloc|apply Kd.S_drewN|apply Kd.S_drew));exact(Kd.S_mono (Kd.S_far (p:=⟨a4,1,none⟩) (Kd.S_far (p:=⟨a4,0,none⟩) (Kd.S_types a2.out a0.out (by decide)) (fun _ hk=>hk.2) (.slice f9 a1.length e1)) (fun _ hk=>hk.2) (.slice e6 a5.length e2)) (fun _ h_=>h_.1))):p:=h
theorem zq228 (h:p:=by (with_reducible repeat(first|apply Kd.Q_alloc|apply Kd.Q_drewN|apply Kd.Q_drew));exact(Kd.Q_mono (Kd.Q_far (p:=⟨a4,1,none⟩) (Kd.Q_far (p:=⟨a4,0,none⟩) (Kd.Q_types a3.out a0.out (by decide)) (fun _ hk=>hk.2) (.slice g3 a1.length e3)) (fun _ hk=>hk.2) (.slice e9 a5.length e4)) (fun _ h_=>h_.1))):p:=h
theorem zq236 (h:p:=by (with_reducible repeat(first|apply Kd.Q_alloc|apply Kd.Q_drewN|apply Kd.Q_drew));exact(Kd.Q_mono (Kd.Q_far (p:=⟨a4,1,none⟩) (Kd.Q_far (p:=⟨a4,0,none⟩) (Kd.Q_types a3.out a0.out (by decide)) (fun _ hk=>hk.2) (.slice i8 a1.length i6)) (fun _ hk=>hk.2) (.slice i9 a5.length i7)) (fun _ h_=>h_.1))):p:=h
theorem zq239 (h:p:=by (with_reducible repeat(first|apply Kd.S_alloc|apply Kd.S_drewN|apply Kd.S_drew));exact(Kd.S_mono (Kd.S_far (p:=⟨a4,1,none⟩) (Kd.S_far (p:=⟨a4,0,none⟩) (Kd.S_types a2.out a0.out (by decide)) (fun _ hk=>hk.2) (.slice g3 a1.length e3)) (fun _ hk=>hk.2) (.slice e9 a5.length e4)) (fun _ h_=>h_.1))):p:=h
theorem zq243 (h:p:=by (with_reducible repeat(first|apply Kd.Q_alloc|apply Kd.Q_drewN|apply Kd.Q_drew));exact(Kd.Q_mono (Kd.Q_far (p:=⟨a4,1,none⟩) (Kd.Q_far (p:=⟨a4,0,none⟩) (Kd.Q_types a3.out a0.out (by decide)) (fun _ hk=>hk.2) (.slice f0 a1.length d4)) (fun _ hk=>hk.2) (.slice e0 a5.length d5)) (fun _ h_=>h_.1))):p:=h
theorem zq246 (h:p:=by (with_reducible repeat(first|apply Kd.Q_alloc|apply Kd.Q_drewN|apply Kd.Q_drew));exact(Kd.Q_mono (Kd.Q_far (p:=⟨a4,1,none⟩) (Kd.Q_far (p:=⟨a4,0,none⟩) (Kd.Q_types a3.out a0.out (by decide)) (fun _ hk=>hk.2) (.slice f9 a1.length e1)) (fun _ hk=>hk.2) (.slice e6 a5.length e2)) (fun _ h_=>h_.1))):p:=h
theorem zq249 (h:p:=by (with_reducible repeat(first|apply Kd.S_alloc|apply Kd.S_drewN|apply Kd.S_drew));exact(Kd.S_mono (Kd.S_far (p:=⟨a4,1,none⟩) (Kd.S_far (p:=⟨a4,0,none⟩) (Kd.S_types a2.out a0.out (by decide)) (fun _ hk=>hk.2) (.slice j7 a1.length j0)) (fun _ hk=>hk.2) (.slice j8 a5.length j1)) (fun _ h_=>h_.1))):p:=h
theorem zq255 (h:p:=by (with_reducible repeat(first|apply Kd.Q_alloc|apply Kd.Q_drewN|apply Kd.Q_drew));exact(Kd.Q_mono (Kd.Q_far (p:=⟨a4,1,none⟩) (Kd.Q_far (p:=⟨a4,0,none⟩) (Kd.Q_types a3.out a0.out (by decide)) (fun _ hk=>hk.2) (.slice g4 a1.length e5)) (fun _ hk=>hk.2) (.slice c9 a5.length c3)) (fun _ h_=>h_.1))):p:=h
theorem zq260 (h:p:=by (with_reducible repeat(first|apply Kd.S_alloc|apply Kd.S_drewN|apply Kd.S_drew));exact(Kd.S_mono (Kd.S_far (p:=⟨a4,1,none⟩) (Kd.S_far (p:=⟨a4,0,none⟩) (Kd.S_types a2.out a0.out (by decide)) (fun _ hk=>hk.2) (.slice f0 a1.length d4)) (fun _ hk=>hk.2) (.slice e0 a5.length d5)) (fun _ h_=>h_.1))):p:=h
theorem zq261 (h:p:=by (with_reducible repeat(first|apply Kd.Q_alloc|apply Kd.Q_drewN|apply Kd.Q_drew));exact(Kd.Q_mono (Kd.Q_far (p:=⟨a4,1,none⟩) (Kd.Q_far (p:=⟨a4,0,none⟩) (Kd.Q_types a3.out a0.out (by decide)) (fun _ hk=>hk.2) (.slice j7 a1.length j0)) (fun _ hk=>hk.2) (.slice j8 a5.length j1)) (fun _ h_=>h_.1))):p:=h
theorem zq266 (h:p:=by (with_reducible repeat(first|apply Kd.Q_alloc|apply Kd.Q_drewN|apply Kd.Q_drew));exact(Kd.Q_mono (Kd.Q_far (p:=⟨a4,1,none⟩) (Kd.Q_far (p:=⟨a4,0,none⟩) (Kd.Q_types a3.out a0.out (by decide)) (fun _ hk=>hk.2) (.slice i3 a1.length h9)) (fun _ hk=>hk.2) (.slice i4 a5.length i0)) (fun _ h_=>h_.1))):p:=h
theorem zq269 (h:p:=by repeat(first|(with_reducible first|exact a3.out|apply IsS87.alloc|apply IsS87.drewN|apply IsS87.drew|apply IsS87.set_1|refine IsS87.far ?_ b1.out _|refine IsS87.far ?_ b8.out _)|exact a3.out)):p:=h
theorem zq272 (h:p:=by repeat(first|(with_reducible first|exact HK.out|apply KeepBut.set_|apply keep_drewN|apply keep_drew|apply keep_alloc|refine keep_far ?_ b7.out _|refine keep_far ?_ d4.out _)|exact HK.out)):p:=h
theorem zq275 (h:p:=by (with_reducible repeat(first|apply Kd.Q_alloc|apply Kd.Q_drewN|apply Kd.Q_drew));exact b4.out):p:=h
theorem zq284 (h:p:=by repeat(first|exact HB3.out|apply pw_below_drewN|apply below_drew1)):p:=h
theorem zq293 (h:p:=by repeat(first|(with_reducible first|exact a3.out|apply IsS87.alloc|apply IsS87.drewN|apply IsS87.drew|apply IsS87.set_1|refine IsS87.far ?_ a6.out _)|exact a3.out)):p:=h
theorem zq307 (h:p:=by repeat(first|(with_reducible first|exact HB.out|apply below_alloc|apply pw_below_drewN|apply below_drew1|refine below_set ?_ a7.out)|exact HB.out)):p:=h
theorem zq311 (h:p:=by (with_reducible repeat(first|refine blk_drewN ?_ _|refine blk_drew ?_|refine blk_alloc ?_ _));exact a3.out):p:=h
theorem zq324 (h:p:=by (try simp only [List.map_toArray,List.map_cons,List.map_nil]);first|done|rfl):p:=h
theorem zq325 (h:p:=by (with_reducible repeat(first|apply Kd.S_alloc|apply Kd.S_drewN|apply Kd.S_drew));exact b2.out):p:=h
theorem zq330 (h:p:=by (with_reducible repeat(first|apply Kd.Q_alloc|apply Kd.Q_drewN|apply Kd.Q_drew));exact b3.out):p:=h
theorem zq332 (h:p:=by repeat(first|(with_reducible first|exact HB.out|apply below_alloc|apply pw_below_drewN|apply below_drew1|refine below_set ?_ (IsS87.ge a3.out)|refine below_set ?_ c3.out)|exact HB.out)):p:=h
theorem zq333 (h:p:=by repeat(first|(with_reducible first|exact HB.out|apply below_alloc|apply pw_below_drewN|apply below_drew1|refine below_set ?_ (IsS87.ge a0.out)|refine below_set ?_ c3.out)|exact HB.out)):p:=h
theorem zq336 (h:p:=by repeat(first|exact Below.refl _ _|apply pw_below_drewN|apply below_drew1)):p:=h
theorem zq343 (h:p:=by repeat(first|(with_reducible first|exact a3.out|apply IsS87.alloc|apply IsS87.drewN|apply IsS87.drew|apply IsS87.set_1|refine IsS87.far ?_ b1.out _)|exact a3.out)):p:=h
theorem zq346 (h:p:=by repeat(first|(with_reducible first|exact a0.out|apply IsS87.alloc|apply IsS87.drewN|apply IsS87.drew|apply IsS87.set_1|refine IsS87.far ?_ a7.out _)|exact a0.out)):p:=h
theorem zq350 (h:p:=by first|exact e8|exact zqo|(have e_:=(Kd.S_reads' a2.out).1;omega)):p:=h
theorem zq354 (h:p:=by (try simp only [List.map_toArray,List.map_cons,List.map_nil]);first|done|(simp only [c8];rfl)|rfl|(simp only [List.length_drop,List.length_take];rfl)):p:=h
theorem zq370 (h:p:=by have:=c8.out;have:=d7.out;have:=d8.out;omega):p:=h
theorem zq379 (h:p:=by repeat(first|exact HV3.out|apply View.drewN)):p:=h
theorem zq388 (h:p:=by first|exact h8|exact zqo|(have e_:=(Kd.S_reads' a2.out).1;omega)):p:=h
theorem zq414 (h:p:=by repeat(first|exact HUC.out|(refine Kd.C_drewN ?_ _)|(refine Kd.C_drew ?_))):p:=h
end Go.Proofs.Ytdoomkcgdcfmlaa
end
section
namespace Oml
universe u
namespace OL
variable {α : Type u} (L : OL α)
theorem le_neg_iff (a b : α) : L.le a (L.neg b) ↔ L.le b (L.neg a) := by
  constructor <;> intro h
  · have := L.neg_anti _ _ h; rwa [L.neg_neg] at this
  · have := L.neg_anti _ _ h; rwa [L.neg_neg] at this
theorem neg_inj {a b : α} (h : L.neg a = L.neg b) : a = b := by
  have := congrArg L.neg h; rwa [L.neg_neg, L.neg_neg] at this
theorem meet_le_l {a b c : α} (h : L.le a c) : L.le (L.meet a b) c := L.le_trans _ _ _ (L.meet_l _ _) h
theorem meet_le_r {a b c : α} (h : L.le b c) : L.le (L.meet a b) c := L.le_trans _ _ _ (L.meet_r _ _) h
theorem meet_mono {a b c d : α} (h : L.le a c) (k : L.le b d) : L.le (L.meet a b) (L.meet c d) := L.le_meet _ _ _ (L.meet_le_l h) (L.meet_le_r k)
theorem neg_join (a b : α) : L.neg (L.join a b) = L.meet (L.neg a) (L.neg b) := by
  apply L.neg_inj
  rw [L.neg_neg, L.neg_meet, L.neg_neg, L.neg_neg]
def Keeps : Prop := ∀ a b, L.le a b → L.join a (L.meet b (L.neg a)) = b
def proj (a b : α) : α := L.meet a (L.join (L.neg a) b)
variable {L}
theorem Keeps.dual (K : L.Keeps) {a b : α} (h : L.le a b) : L.meet b (L.join a (L.neg b)) = a := by
  have := K _ _ (L.neg_anti _ _ h)
  have h2 := congrArg L.neg this
  rw [L.neg_join, L.neg_meet, L.neg_neg, L.neg_neg] at h2
  exact h2
theorem proj_le (a b : α) : L.le (L.proj a b) a := L.meet_l _ _
theorem Keeps.proj_below (K : L.Keeps) {a b : α} (h : L.le b a) : L.proj a b = b := by
  have := K.dual h
  unfold proj; rwa [L.join_comm]
theorem Keeps.proj_apart (K : L.Keeps) (a b c : α) : L.le (L.proj a c) (L.neg b) ↔ L.le (L.proj a b) (L.neg c) := by
  have key : ∀ b c, L.le (L.proj a c) (L.neg b) → L.le (L.proj a b) (L.neg c) := by
    intro b c h
    -- b ≤ (proj a c)' = a' ∨ (a ∧ c'); project: ≤ a ∧ (a' ∨ (a ∧ c')) = a ∧ c' ≤ c'
    have h1:L.le b (L.neg (L.proj a c)):=(L.le_neg_iff _ _).1 h
    have e : L.neg (L.proj a c) = L.join (L.neg a) (L.meet a (L.neg c)) := by
      unfold proj;rw [L.neg_meet,L.neg_join,L.neg_neg]
    rw [e] at h1
    have h2 : L.le (L.proj a b) (L.proj a (L.meet a (L.neg c))) := by
      unfold proj
      exact L.meet_mono (L.le_refl _) (L.join_le _ _ _ (L.join_l _ _) h1)
    rw [K.proj_below (L.meet_l _ _)] at h2
    exact L.le_trans _ _ _ h2 (L.meet_r _ _)
  exact⟨key b c,key c b⟩
theorem Keeps.proj_proj (K : L.Keeps) {a b : α} (h : L.le a b) (c : α) : L.proj b (L.proj a c) = L.proj a c ∧ L.proj a (L.proj b c) = L.proj a c := by
  have e1: ∀x,L.proj b (L.proj a x)=L.proj a x:=fun x=>K.proj_below (L.le_trans _ _ _ (proj_le a x) h)
  refine⟨e1 c,?_⟩
  have key : ∀ x, L.le (L.proj a (L.proj b c)) (L.neg x) ↔ L.le (L.proj a c) (L.neg x) := by
    intro x
    rw [K.proj_apart,L.le_neg_iff,K.proj_apart,e1,K.proj_apart]
  apply L.le_antisymm
  · have := (key (L.neg (L.proj a c))).2 (by rw [L.neg_neg]; exact L.le_refl _)
    rwa [L.neg_neg] at this
  · have := (key (L.neg (L.proj a (L.proj b c)))).1 (by rw [L.neg_neg]; exact L.le_refl _)
    rwa [L.neg_neg] at this
end OL
end Oml
end
section
namespace Oml
section
variable {U : List (List Int)} {N : List Int} (L : Logic U N)
theorem Logic.ng_eq (a : Fin U.length) : at1 N a = ((L.ng a).1 : Int) := by
  have := L.ran a a.2
  show at1 N a = (((at1 N a).toNat : Nat) : Int)
  omega
include L in
end
end Oml
end
section
namespace Go.Proofs.Ytdoomkcgdcfmlaa.Print
open Go.RowKit Go.Proofs.YtdoomkcgdcfmlaaW.PrintWords Go.Proofs.YtdoomkcgdcfmlaaW.PrintLast Go.Proofs.YtdoomkcgdcfmlaaW.PrintMore
open Oml
def inR (n : Nat) (a : Int) : Bool := decide (0 ≤ a) && decide (a < (n : Int))
theorem inR_iff {U : List (List Int)} {a : Int} : inR U.length a = true ↔ In U a := by simp [inR, In]
section
variable {U : List (List Int)} {N : List Int} (L : Logic U N)
include L
theorem _root_.Oml.Logic.in_and {a b : Int} (ha : In U a) (hb : In U b) : In U (andI U a b) := by
  obtain⟨m,hm⟩:=Option.isSome_iff_exists.1 (L.meets a.toNat b.toNat (by have:=ha.1;have:=ha.2;omega) (by have:=hb.1;have:=hb.2;omega))
  have:=(findN_some hm).1
  unfold In andI mI;rw [hm];simp only [optI];omega
theorem _root_.Oml.Logic.in_or {a b : Int} (ha : In U a) (hb : In U b) : In U (orI U a b) := by
  obtain⟨m,hm⟩:=Option.isSome_iff_exists.1 (L.joins a.toNat b.toNat (by have:=ha.1;have:=ha.2;omega) (by have:=hb.1;have:=hb.2;omega))
  have:=(findN_some hm).1
  unfold In orI jI;rw [hm];simp only [optI];omega
theorem _root_.Oml.Logic.in_not {a : Int} (ha : In U a) : In U (notI N a) := L.ran a.toNat (by have := ha.1; have := ha.2; omega)
end
namespace View
section
variable {W W1 : World} {g : Nat} {U : List (List Int)} {N : List Int} {v : Adr} (h : View W g U N v)
include h
theorem f5 : W.cell? ⟨g, 5, none⟩ = some (.int .i64 (yesI U N)) := (blk_cell h.blk 5).trans rfl
theorem rowsU (L : Logic U N) : Kd.C (Kd.slice 3 (Kd.int .i64)) W (some v.aU) U.length U := by
  have hs:=L.small
  refine⟨rfl,by omega,fun _=>⟨v.aU,rfl,fun j p hp=>?_⟩⟩
  have hj:j<U.length:=(List.getElem?_eq_some_iff.1 hp).1
  have hin:In U (j:Int):=⟨by omega,by omega⟩
  have hpl : p.length = U.length := by
    have:=L.row j hj
    rw [List.getD_eq_getElem?_getD,hp] at this
    exact this
  refine⟨[.slice (some (v.rU j)) p.length (v.qU j)],rfl,⟨some (v.rU j),v.qU j,rfl,by rw [hpl];have:=h.capR _ hin;simpa using this,?_⟩,fun i u hu=>?_⟩
  · refine ⟨rfl, by omega, fun _ => ⟨v.rU j, rfl, fun i q hq => ?_⟩⟩
    have hi:i<p.length:=(List.getElem?_eq_some_iff.1 hq).1
    refine⟨[.int .i64 q],rfl,rfl,fun z u hu=>?_⟩
    have hz : z = 0 := by
      rcases z with _|z
      · rfl
      · simp at hu
    subst hz
    have hu':Value.int .i64 q=u:=by simpa using hu
    subst hu'
    have:=h.u2 j i hin ⟨by omega,by omega⟩
    simp only [Int.toNat_natCast] at this
    show W.cell? ((v.rU j).add (i*1+0))=_
    rw [Nat.mul_one,Nat.add_zero,this]
    simp [at2,List.getD_eq_getElem?_getD,hp,hq]
  · have hz : i = 0 := by
      rcases i with _|z
      · rfl
      · simp at hu
    subst hz
    have hu':Value.slice (some (v.rU j)) p.length (v.qU j)=u:=by simpa using hu
    subst hu'
    have:=h.u j hin
    simp only [Int.toNat_natCast] at this
    show W.cell? (v.aU.add (j*1+0))=_
    rw [Nat.mul_one,Nat.add_zero,this,hpl]
end
end View
end Go.Proofs.Ytdoomkcgdcfmlaa.Print
end
section
namespace Go.Proofs.Ytdoomkcgdcfmlaa.Print
open Go.RowKit Go.Proofs.YtdoomkcgdcfmlaaW.PrintWords Go.Proofs.YtdoomkcgdcfmlaaW.PrintLast Go.Proofs.YtdoomkcgdcfmlaaW.PrintMore
open Oml
theorem lit_C (W : World) (e : TypeId) (xs : List Int) (hm : xs.length ≤ 9223372036854775807) :
    Kd.C (Kd.int .i64) (W.alloc (.cells (nums .i64 xs).toArray e)) (some ⟨W.heap.size,0,none⟩) xs.length xs:=
  (Kd.R_reads' (Kd.R_of_own (ok:=fun _=>True) (own_lit W W.heap.size e .i64 xs (Nat.le_refl _) hm) (fun _ _=>trivial))).2.2
theorem isAnswer_eq (U : List (List Int)) (a : Int) : impl_isAnswer.f U a = some (inR U.length a) := by
  unfold impl_isAnswer.f inR
  by_cases h : a ≥ 0
  · rw [if_pos h]; simp [h]
  · rw [if_neg h]; simp; omega
theorem knows_nil (A : Option Addr) (n c : Nat) (w : World) :
    Calls Try.prog 78 #[.pointer none, .slice A n c] w fun e w' => e = .returned (.bool false) ∧ Below w.heap.size w w' := by
  go_enter Try.func78, Try.ntmps78
  go_wp2_with fail
  go_ret
  exact ⟨rfl, Below.refl _ _⟩
set_option maxHeartbeats 1000000 in
theorem knows_calls (g : Nat) (U : List (List Int)) (N : List Int) (v : Adr) (w : World) (L : Logic U N) (hV : View w g U N v) (A : Option Addr) (c : Nat) (xs : List Int) (n : Nat) (hn : xs.length = n)
    (hr:Kd.C (Kd.int .i64) w A n xs) (hs:n≤100) (b:Bool) (hb:xs.all (inR U.length)=b):
    Calls Try.prog 78 #[.pointer (some ⟨g,0,none⟩),.slice A n c] w fun e w'=>e= .returned (.bool b)∧Below w.heap.size w w':=by
  have hu70:=Try.underlying70
  have HV:=Aside0.mk hV
  have HR:=Aside0.mk hr
  have HL:=Aside0.mk L
  have HN:=Aside0.mk hn
  have HBB:=Aside0.mk hb
  clear hV hr L hn hb
  go_enter Try.func78,Try.ntmps78
  go_wp2_with fail
  go_loopg [11] (n+1) (fun kq v11 W=> ∃i m:Nat,v11= .int .i64 i∧Aside0 (i+kq=n+1)∧Aside0 (i≤n)∧Aside0 (∀j,j<i→inR U.length (at1 xs j)=true)∧W=w.drewN m)
  case atStart=>exact⟨0,0,rfl,⟨by omega⟩,⟨by omega⟩,⟨fun j hj=>absurd hj (by omega)⟩,rfl⟩
  case round =>
    obtain⟨i,m,rfl,HK,HK2,HS,rfl⟩:=hrel
    cases gk with
    |zero=>exact absurd HK.out (by have:=HK2.out;omega)
    |succ kn=>
    by_cases hlt:i<n
    · have hlt' : decide (i < n) = true := decide_eq_true hlt
      have HLT:=Aside0.mk hlt
      obtain⟨ad,e,hx⟩:=ints_cell HR.out i (by omega) (by omega)
      subst e
      simp only [Int.toNat_natCast] at hx
      have p1:(i<n)=True:=eq_true hlt
      have h0:=HV.out.f0
      have HUC:=Aside0.mk (HV.out.rowsU HL.out)
      clear hlt
      cases hi:inR U.length (at1 xs i) with
      | true =>
        have HI:=Aside0.mk hi
        have HA:=Aside0.mk (show impl_isAnswer.f U (at1 xs i)=some true by rw [isAnswer_eq,hi])
        clear hi
        go_wp2_with (go_at_call 123;(with_reducible refine(impl_isAnswer.calls _ _ U (at1 xs i) true _ ?s1 ?s2 HA.out).mono ?_);(case s1=> exact zq414);(case s2=>exact HV.out.capU);rintro e w' ⟨rfl,⟨nd,rfl⟩⟩)
        go_roundg kn
        case measure=>omega
        case rel => exact ⟨i + 1, _, by first | go_num | (rw [wrap_small (by omega) (by have := HLT.out; omega)]; go_num), ⟨by have := HK.out; omega⟩, ⟨by have := HLT.out; omega⟩, ⟨fun j hj => by
          rcases Nat.lt_or_ge j i with h|h
          · exact HS.out j h
          · obtain rfl : j = i := by omega
            exact HI.out⟩,rfl⟩
      | false =>
        have HI:=Aside0.mk hi
        have HA:=Aside0.mk (show impl_isAnswer.f U (at1 xs i)=some false by rw [isAnswer_eq,hi])
        clear hi
        have hbf : b = false := by
          rw [← HBB.out,Bool.eq_false_iff]
          intro h
          rw [List.all_eq_true] at h
          have hin:i<xs.length:=by have:=HN.out;have:=HLT.out;omega
          have:=h (xs[i]'hin) (List.getElem_mem _)
          have h2:=HI.out
          rw [show at1 xs i=xs[i]'hin by simp [at1,List.getD_eq_getElem?_getD,List.getElem?_eq_getElem hin],this] at h2
          exact absurd h2 (by simp)
        subst hbf
        go_wp2_with (go_at_call 123;(with_reducible refine(impl_isAnswer.calls _ _ U (at1 xs i) false _ ?s1 ?s2 HA.out).mono ?_);(case s1=> exact zq414);(case s2=>exact HV.out.capU);rintro e w' ⟨rfl,⟨nd,rfl⟩⟩)
        go_ret
        exact⟨rfl,zq336⟩
    · have hlt' : decide (i < n) = false := decide_eq_false hlt
      obtain rfl:i=n:=by have:=HK2.out;omega
      have hbt : b = true := by
        rw [← HBB.out,List.all_eq_true]
        intro x hx
        obtain⟨j,hj,rfl⟩:=List.mem_iff_getElem.1 hx
        have:=HS.out j (by have:=HN.out;omega)
        rwa [show at1 xs j=xs[j]'hj by simp [at1,List.getD_eq_getElem?_getD,List.getElem?_eq_getElem hj]] at this
      subst hbt
      clear hlt
      go_wp2_with fail
      go_ret
      exact⟨rfl,zq336⟩
end Go.Proofs.Ytdoomkcgdcfmlaa.Print
end
section
namespace Go.Proofs.Ytdoomkcgdcfmlaa.Print
open Go.RowKit Go.Proofs.YtdoomkcgdcfmlaaW.PrintWords Go.Proofs.YtdoomkcgdcfmlaaW.PrintLast Go.Proofs.YtdoomkcgdcfmlaaW.PrintMore
def spec_l2Both.f (k : Nat) (l0_0 : List (List Int)) (l0_1 : List Int) (a1 : Int) (a2 : Int) : Option (Bool) := (spec_LogicOk.f k l0_0 l0_1).bind fun t601 => (if t601 = true then ((spec_l1In.f a1 0 (wrap64 ((l0_1.length : Int) - 1))).bind fun t602 => (if t602 = true then ((spec_l1In.f a2 0 (wrap64 ((l0_1.length : Int) - 1))).bind fun t603 => (some t603)) else (some false))) else (some false))
set_option maxHeartbeats 8000000 in
set_option maxRecDepth 100000 in
theorem spec_l2Both.calls (k : Nat) (A0_0 : Option Addr) (c0_0 : Nat) (l0_0 : List (List Int)) (A0_1 : Option Addr) (c0_1 : Nat) (l0_1 : List Int) (a1 : Int) (a2 : Int) (r : Bool) (w : World) (hr0_0 : Kd.C (Kd.slice 3 (Kd.int .i64)) w A0_0 l0_0.length l0_0) (hc0_0 : l0_0.length ≤ c0_0) (hr0_1 : Kd.C (Kd.int .i64) w A0_1 l0_1.length l0_1) (hc0_1 : l0_1.length ≤ c0_1) (h : spec_l2Both.f k l0_0 l0_1 a1 a2 = some r) :
  Calls Try.prog 80 #[.agg #[.slice A0_0 l0_0.length c0_0, .slice A0_1 l0_1.length c0_1], .int .i64 a1, .int .i64 a2] w fun e w' => e = .returned (.bool r) ∧ Below w.heap.size w w' := by
 have hu30:=Try.underlying30;have a8:=zqm hr0_0;have a9:=zqm hc0_0;clear hr0_0 hc0_0;have b0:=zqm hr0_1;have b1:=zqm hc0_1;clear hr0_1 hc0_1;have HB:=zqm (Below.refl w.heap.size w);have H:((spec_LogicOk.f k l0_0 l0_1).bind fun b2=>(if b2=true then((spec_l1In.f a1 0 (wrap64 ((l0_1.length:Int) - 1))).bind fun a6=>(if a6=true then((spec_l1In.f a2 0 (wrap64 ((l0_1.length:Int) - 1))).bind fun a4=>(some a4)) else(some false))) else(some false)))=some r:=h;clear h;replace H:=Option.bind_eq_some_iff.mp H;obtain⟨b2,b4,H⟩:=H;replace H:(if b2=true then((spec_l1In.f a1 0 (wrap64 ((l0_1.length:Int) - 1))).bind fun a6=>(if a6=true then((spec_l1In.f a2 0 (wrap64 ((l0_1.length:Int) - 1))).bind fun a4=>(some a4)) else(some false))) else(some false))=some r:=H;have A4:=zqm b4;clear b4
 by_cases c5:b2=true
 ·subst c5;(have H1:((spec_l1In.f a1 0 (wrap64 ((l0_1.length:Int) - 1))).bind fun a6=>(if a6=true then((spec_l1In.f a2 0 (wrap64 ((l0_1.length:Int) - 1))).bind fun a4=>(some a4)) else(some false)))=some r:=by rw [if_pos rfl] at H;exact H);clear H;have H:=H1;clear H1;replace H:=Option.bind_eq_some_iff.mp H;obtain⟨a6,b5,H⟩:=H;replace H:(if a6=true then((spec_l1In.f a2 0 (wrap64 ((l0_1.length:Int) - 1))).bind fun a4=>(some a4)) else(some false))=some r:=H;have A6:=zqm b5;clear b5
  by_cases c7:a6=true
  ·subst c7;(have H1:((spec_l1In.f a2 0 (wrap64 ((l0_1.length:Int) - 1))).bind fun a4=>(some a4))=some r:=by rw [if_pos rfl] at H;exact H);clear H;have H:=H1;clear H1;replace H:=Option.bind_eq_some_iff.mp H;obtain⟨a4,b6,H⟩:=H;replace H:(some a4)=some r:=H;have A8:=zqm b6;clear b6;obtain rfl:=Option.some.inj H
   go_enter Try.func80,Try.ntmps80
   go_wp2_with (first|((with_reducible refine gate_dst (N:=3) rfl ?_);(try(refine gate_guard (by rfl) ?_;dsimp only));refine box_event ?hg (N:=3) ?hd (cs:= #[.slice A0_0 l0_0.length c0_0,.slice A0_1 l0_1.length c0_1]) (t:=30) ?hr ?_;(case hd=>rfl);(case hg=>rfl);(case hr=>first|(go_simp;done)|(go_simp;rfl));intro a3 hg w9 hbox hb;have a7:=zqm (below_step zq0 hb);have a0:=zqm (hbox);have b3:=zqm ((by rw [hg];exact(below_size zq0):w.heap.size≤a3));have a5:=zqm ((by rw [hg];exact(below_size zq0):w.heap.size≤a3));clear HB;have HB:=a7;clear a7 hb hbox hg;have c1:w9.cell? ⟨a3,0,none⟩=some (.slice A0_0 l0_0.length c0_0):=(blk_cell a0.out 0).trans rfl;have c2:w9.cell? ⟨a3,1,none⟩=some (.slice A0_1 l0_1.length c0_1):=(blk_cell a0.out 1).trans rfl;have c3:=blk_frozen a0.out 0;have c4:=blk_frozen a0.out 1)|((with_reducible refine gate_callee (f:=42) rfl ?_);refine goesL_ (some 8) rfl rfl Try.func42 zqk rfl #[.agg #[.slice A0_0 l0_0.length c0_0,.slice A0_1 l0_1.length c0_1]] rfl zq1 ?_;(with_reducible refine(spec_LogicOk.calls k _ _ l0_0 _ _ l0_1 true _ ?side1 ?side2 ?side3 ?side4 A4.out).mono ?_);(case side1=> exact zq26);(case side2=>exact a9.out);(case side3=> exact zq45);(case side4=>exact b1.out);rintro e b7 ⟨rfl,hb⟩;refine⟨_,rfl,?_⟩;replace a0:=zqm (blk_below (g:=a3) (o:= .cells #[.slice A0_0 l0_0.length c0_0,.slice A0_1 l0_1.length c0_1] 30 (0,0)) zq2 hb);replace HB:=zqm (below_step zq18 hb);clear hb;have c6:b7.cell? ⟨a3,0,none⟩=some (.slice A0_0 l0_0.length c0_0):=(blk_cell a0.out 0).trans rfl;have c8:b7.cell? ⟨a3,1,none⟩=some (.slice A0_1 l0_1.length c0_1):=(blk_cell a0.out 1).trans rfl;have c9:=blk_frozen a0.out 0;have d0:=blk_frozen a0.out 1)|(go_at_call 94;(with_reducible refine(spec_l1In.calls a1 0 (wrap64 ((l0_1.length:Int) - 1)) true _ A6.out).mono ?_);rintro e w' ⟨rfl,⟨nd,rfl⟩⟩)|(go_at_call 94;(with_reducible refine(spec_l1In.calls a2 0 (wrap64 ((l0_1.length:Int) - 1)) a4 _ A8.out).mono ?_);rintro e w' ⟨rfl,⟨nd,rfl⟩⟩))
   go_ret
   exact⟨zq11,zq18⟩
  ·replace c7:=Bool.eq_false_iff.mpr c7;subst c7;(have H1:(some false)=some r:=by rw [if_neg (show¬(false=true) by decide)] at H;exact H);clear H;have H:=H1;clear H1;obtain rfl:=Option.some.inj H
   go_enter Try.func80,Try.ntmps80
   go_wp2_with (first|((with_reducible refine gate_dst (N:=3) rfl ?_);(try(refine gate_guard (by rfl) ?_;dsimp only));refine box_event ?hg (N:=3) ?hd (cs:= #[.slice A0_0 l0_0.length c0_0,.slice A0_1 l0_1.length c0_1]) (t:=30) ?hr ?_;(case hd=>rfl);(case hg=>rfl);(case hr=>first|(go_simp;done)|(go_simp;rfl));intro a3 hg b8 hbox hb;have a7:=zqm (below_step zq0 hb);have a0:=zqm (hbox);have b3:=zqm ((by rw [hg];exact(below_size zq0):w.heap.size≤a3));have a5:=zqm ((by rw [hg];exact(below_size zq0):w.heap.size≤a3));clear HB;have HB:=a7;clear a7 hb hbox hg;have d1:b8.cell? ⟨a3,0,none⟩=some (.slice A0_0 l0_0.length c0_0):=(blk_cell a0.out 0).trans rfl;have d2:b8.cell? ⟨a3,1,none⟩=some (.slice A0_1 l0_1.length c0_1):=(blk_cell a0.out 1).trans rfl;have d3:=blk_frozen a0.out 0;have d4:=blk_frozen a0.out 1)|((with_reducible refine gate_callee (f:=42) rfl ?_);refine goesL_ (some 8) rfl rfl Try.func42 zqk rfl #[.agg #[.slice A0_0 l0_0.length c0_0,.slice A0_1 l0_1.length c0_1]] rfl zq1 ?_;(with_reducible refine(spec_LogicOk.calls k _ _ l0_0 _ _ l0_1 true _ ?side1 ?side2 ?side3 ?side4 A4.out).mono ?_);(case side1=> exact zq26);(case side2=>exact a9.out);(case side3=> exact zq45);(case side4=>exact b1.out);rintro e b9 ⟨rfl,hb⟩;refine⟨_,rfl,?_⟩;replace a0:=zqm (blk_below (g:=a3) (o:= .cells #[.slice A0_0 l0_0.length c0_0,.slice A0_1 l0_1.length c0_1] 30 (0,0)) zq2 hb);replace HB:=zqm (below_step zq18 hb);clear hb;have d5:b9.cell? ⟨a3,0,none⟩=some (.slice A0_0 l0_0.length c0_0):=(blk_cell a0.out 0).trans rfl;have d6:b9.cell? ⟨a3,1,none⟩=some (.slice A0_1 l0_1.length c0_1):=(blk_cell a0.out 1).trans rfl;have d7:=blk_frozen a0.out 0;have d8:=blk_frozen a0.out 1)|(go_at_call 94;(with_reducible refine(spec_l1In.calls a1 0 (wrap64 ((l0_1.length:Int) - 1)) false _ A6.out).mono ?_);rintro e w' ⟨rfl,⟨nd,rfl⟩⟩))
   go_ret
   exact⟨zq11,zq18⟩
 ·replace c5:=Bool.eq_false_iff.mpr c5;subst c5;(have H1:(some false)=some r:=by rw [if_neg (show¬(false=true) by decide)] at H;exact H);clear H;have H:=H1;clear H1;obtain rfl:=Option.some.inj H
  go_enter Try.func80,Try.ntmps80
  go_wp2_with (first|((with_reducible refine gate_dst (N:=3) rfl ?_);(try(refine gate_guard (by rfl) ?_;dsimp only));refine box_event ?hg (N:=3) ?hd (cs:= #[.slice A0_0 l0_0.length c0_0,.slice A0_1 l0_1.length c0_1]) (t:=30) ?hr ?_;(case hd=>rfl);(case hg=>rfl);(case hr=>first|(go_simp;done)|(go_simp;rfl));intro a3 hg c0 hbox hb;have a7:=zqm (below_step zq0 hb);have a0:=zqm (hbox);have b3:=zqm ((by rw [hg];exact(below_size zq0):w.heap.size≤a3));have a5:=zqm ((by rw [hg];exact(below_size zq0):w.heap.size≤a3));clear HB;have HB:=a7;clear a7 hb hbox hg;have d9:c0.cell? ⟨a3,0,none⟩=some (.slice A0_0 l0_0.length c0_0):=(blk_cell a0.out 0).trans rfl;have e0:c0.cell? ⟨a3,1,none⟩=some (.slice A0_1 l0_1.length c0_1):=(blk_cell a0.out 1).trans rfl;have e1:=blk_frozen a0.out 0;have e2:=blk_frozen a0.out 1)|((with_reducible refine gate_callee (f:=42) rfl ?_);refine goesL_ (some 8) rfl rfl Try.func42 zqk rfl #[.agg #[.slice A0_0 l0_0.length c0_0,.slice A0_1 l0_1.length c0_1]] rfl zq1 ?_;(with_reducible refine(spec_LogicOk.calls k _ _ l0_0 _ _ l0_1 false _ ?side1 ?side2 ?side3 ?side4 A4.out).mono ?_);(case side1=> exact zq26);(case side2=>exact a9.out);(case side3=> exact zq45);(case side4=>exact b1.out);rintro e e3 ⟨rfl,hb⟩;refine⟨_,rfl,?_⟩;replace a0:=zqm (blk_below (g:=a3) (o:= .cells #[.slice A0_0 l0_0.length c0_0,.slice A0_1 l0_1.length c0_1] 30 (0,0)) zq2 hb);replace HB:=zqm (below_step zq18 hb);clear hb))
  go_ret
  exact⟨zq11,zq18⟩
end Go.Proofs.Ytdoomkcgdcfmlaa.Print
end
section
namespace Go.Proofs.Ytdoomkcgdcfmlaa.Print
open Go.RowKit Go.Proofs.YtdoomkcgdcfmlaaW.PrintWords Go.Proofs.YtdoomkcgdcfmlaaW.PrintLast Go.Proofs.YtdoomkcgdcfmlaaW.PrintMore
open Oml
theorem spec_l2Both.ev (U : List (List Int)) (N : List Int) (a b : Int) : Ev (fun k => spec_l2Both.f k U N a b) (logicB U N && (inR U.length a && inR U.length b)) := by
  unfold spec_l2Both.f
  refine Ev.bind (spec_LogicOk.ev U N) ?_
  cases hl:logicB U N with
  | false => repeat (first | ((with_reducible refine Ev.ite_pos ?_ ?_); (first | assumption | (focus omega) | (focus (simp; done)))) | ((with_reducible refine Ev.ite_neg ?_ ?_); (first | assumption | (focus omega) | (focus (simp; done)))))
             exact Ev.now _
  | true =>
    have L:=logicB_iff.1 hl
    have hs:=L.small
    have hp:=L.pos
    have hln:=L.len
    have e : ∀ c : Int, (decide (0 ≤ c) && decide (c ≤ wrap64 ((N.length : Int) - 1))) = inR U.length c := by
      intro c
      unfold inR
      rw [wrap_small (by omega) (by omega)]
      congr 1
      rw [decide_eq_decide];omega
    repeat(first|((with_reducible refine Ev.ite_pos ?_ ?_);(first|assumption|(focus omega)|(focus (simp;done))))|((with_reducible refine Ev.ite_neg ?_ ?_);(first|assumption|(focus omega)|(focus (simp;done)))))
    simp only [l1In_eq,e]
    refine Ev.pbind rfl ?_
    cases ha:inR U.length a with
    | false => repeat (first | ((with_reducible refine Ev.ite_pos ?_ ?_); (first | assumption | (focus omega) | (focus (simp; done)))) | ((with_reducible refine Ev.ite_neg ?_ ?_); (first | assumption | (focus omega) | (focus (simp; done)))))
               exact Ev.eq (Ev.now _) (by simp)
    | true => repeat (first | ((with_reducible refine Ev.ite_pos ?_ ?_); (first | assumption | (focus omega) | (focus (simp; done)))) | ((with_reducible refine Ev.ite_neg ?_ ?_); (first | assumption | (focus omega) | (focus (simp; done)))))
              exact Ev.eq (Ev.now _) (by simp)
theorem alg_project.reads (g : Nat) (U : List (List Int)) (N : List Int) (v : Adr) (a : Int) (b : Int) (w : World) (L : Logic U N) (hV : View w g U N v) (ia : In U a) (ib : In U b) :
    Calls Try.prog 79 #[.pointer (some ⟨g,0,none⟩),.int .i64 a,.int .i64 b] w fun e w'=>e= .returned (.int .i64 (andI U a (orI U (notI N a) b)))∧Drawn0 w w':=by
  have hu70:=Try.underlying70
  have HV:=Aside0.mk hV
  have HLg:=Aside0.mk L
  have Ia:=Aside0.mk ia
  have Ib:=Aside0.mk ib
  clear hV L ia ib
  have b0_:=eq_true Ia.out.1;have c0_:=eq_true Ia.out.2
  have hf3_:=HV.out.f3
  have n2_:=HV.out.n a Ia.out
  have IN1_:=Aside0.mk (HLg.out.in_not Ia.out)
  have b3_:=eq_true IN1_.out.1;have c3_:=eq_true IN1_.out.2
  have b4_:=eq_true Ib.out.1;have c4_:=eq_true Ib.out.2
  have hf2_:=HV.out.f2
  have r6_:=HV.out.j (notI N a) IN1_.out
  have s7_:=HV.out.j2 (notI N a) b IN1_.out Ib.out
  have IN2_:=Aside0.mk (HLg.out.in_or IN1_.out Ib.out)
  have b8_:=eq_true IN2_.out.1;have c8_:=eq_true IN2_.out.2
  have hf1_:=HV.out.f1
  have r10_:=HV.out.m a Ia.out
  have s11_:=HV.out.m2 a (orI U (notI N a) b) Ia.out IN2_.out
  go_enter Try.func79,Try.ntmps79
  go_wp2_with fail
  go_quiet (fail)
  go_wp2
  go_ret
  exact⟨rfl,⟨⟨_,rfl⟩⟩⟩
end Go.Proofs.Ytdoomkcgdcfmlaa.Print
end
section
namespace Go.Proofs.Ytdoomkcgdcfmlaa.Print
open Go.RowKit Go.Proofs.YtdoomkcgdcfmlaaW.PrintWords Go.Proofs.YtdoomkcgdcfmlaaW.PrintLast Go.Proofs.YtdoomkcgdcfmlaaW.PrintMore
open Oml
theorem rd_in {U : List (List Int)} {N : List Int} (_L : Logic U N) {a : Int} (ha : In U a) : rd N a = notI N a := by
  obtain ⟨x, rfl⟩ : ∃ x : Nat, a = x := ⟨a.toNat, by have := ha.1; omega⟩
  rw [rd_nat]; rfl
section
variable {U : List (List Int)} {N : List Int} (L : Logic U N)
include L
theorem meet_in {a b : Int} (ha : In U a) (hb : In U b) : Ev (fun k => spec_l1Meet.f k U a b) (andI U a b) := by
  obtain⟨x,rfl⟩: ∃x:Nat,a=x:=⟨a.toNat,by have:=ha.1;omega⟩
  obtain⟨y,rfl⟩: ∃y:Nat,b=y:=⟨b.toNat,by have:=hb.1;omega⟩
  exact spec_l1Meet.ev L.toOrder (by have:=ha.2;omega) (by have:=hb.2;omega)
theorem join_in {a b : Int} (ha : In U a) (hb : In U b) : Ev (fun k => spec_l1Join.f k U a b) (orI U a b) := by
  obtain⟨x,rfl⟩: ∃x:Nat,a=x:=⟨a.toNat,by have:=ha.1;omega⟩
  obtain⟨y,rfl⟩: ∃y:Nat,b=y:=⟨b.toNat,by have:=hb.1;omega⟩
  exact spec_l1Join.ev L.toOrder (by have:=ha.2;omega) (by have:=hb.2;omega)
end
end Go.Proofs.Ytdoomkcgdcfmlaa.Print
end
section
namespace Go.Proofs.Ytdoomkcgdcfmlaa.Print
open Go.RowKit Go.Proofs.YtdoomkcgdcfmlaaW.PrintWords Go.Proofs.YtdoomkcgdcfmlaaW.PrintLast Go.Proofs.YtdoomkcgdcfmlaaW.PrintMore
open Oml
def impl_ProjectOf.f (l0_0 : List (List Int)) (l0_1 : List Int) (a1 : Int) (a2 : Int) : Option (Int) := some (if logicB l0_0 l0_1 = true then (if [a1, a2].all (inR l0_0.length) = true then (andI l0_0 a1 (orI l0_0 (notI l0_1 a1) a2)) else (-1)) else (-1))
set_option maxHeartbeats 1000000 in
theorem impl_ProjectOf.calls (A0_0 : Option Addr) (c0_0 : Nat) (l0_0 : List (List Int)) (A0_1 : Option Addr) (c0_1 : Nat) (l0_1 : List Int) (a1 : Int) (a2 : Int) (r : Int) (w : World) (hr0_0 : Kd.C (Kd.slice 3 (Kd.int .i64)) w A0_0 l0_0.length l0_0) (hc0_0 : l0_0.length ≤ c0_0) (hr0_1 : Kd.C (Kd.int .i64) w A0_1 l0_1.length l0_1) (hc0_1 : l0_1.length ≤ c0_1) (h : impl_ProjectOf.f l0_0 l0_1 a1 a2 = some r) :
    Calls Try.prog 20 #[.agg #[.slice A0_0 l0_0.length c0_0,.slice A0_1 l0_1.length c0_1],.int .i64 a1,.int .i64 a2] w fun e w'=>e= .returned (.int .i64 r)∧Below w.heap.size w w':=by
  obtain⟨k,hF⟩:=told_facts l0_0
  have hu30:=Try.underlying30
  have hu70:=Try.underlying70
  have HF:=Aside0.mk hF
  have HR0:=Aside0.mk hr0_0
  have HC0:=Aside0.mk hc0_0
  have HR1:=Aside0.mk hr0_1
  have HC1:=Aside0.mk hc0_1
  simp only [impl_ProjectOf.f,Option.some.injEq] at h
  clear hr0_0 hc0_0 hr0_1 hc0_1 hF
  cases hL:logicB l0_0 l0_1 with
  | false =>
    rw [hL] at h
    have hr_:(-1)=r:=by simpa using h
    subst hr_
    have HLB:=Aside0.mk hL
    clear h hL
    go_enter Try.func20,Try.ntmps20
    go_wp2_with (first|((with_reducible refine gate_dst (N:=3) rfl ?_);refine box_event ?hg (N:=3) ?hd (cs:= #[.slice A0_0 l0_0.length c0_0,.slice A0_1 l0_1.length c0_1]) (t:=30) ?hr ?_;(case hd=>rfl);(case hg=>rfl);(case hr=>first|(go_simp;done)|(go_simp;rfl));intro gb hg_ w1 hbox hb;have HB:=Aside0.mk hb;have hx0:w1.cell? ⟨gb,0,none⟩=some (.slice A0_0 l0_0.length c0_0):=(blk_cell hbox 0).trans rfl;have hx1:w1.cell? ⟨gb,1,none⟩=some (.slice A0_1 l0_1.length c0_1):=(blk_cell hbox 1).trans rfl;have HX:=Aside0.mk hbox;clear hbox hb hg_)|(go_at_call 77;(with_reducible refine(told_n k _ _ l0_0 _ _ l0_1 _ ?s1 ?s2 ?s3 ?s4 HF.out HLB.out).mono ?_);(case s1=>exact Kd.C_below HR0.out HB.out);(case s2=>exact HC0.out);(case s3=>exact Kd.C_below HR1.out HB.out);(case s4=>exact HC1.out);rintro e w2 ⟨rfl,hb⟩;have HB2:=Aside0.mk (below_step HB.out hb);clear hb hx0 hx1 HX HB)|(go_at_call 78;(with_reducible refine(knows_nil _ _ _ _).mono ?_);rintro e w3 ⟨rfl,hb⟩;have HB3:=Aside0.mk (below_step zq116 hb);clear hb))
    go_ret
    exact⟨rfl,HB3.out⟩
  | true =>
    have HLB:=Aside0.mk hL
    have HLg:=Aside0.mk (logicB_iff.1 hL)
    cases hin: [a1,a2].all (inR l0_0.length) with
    | false =>
      rw [hL,hin] at h
      have hr_:(-1)=r:=by simpa using h
      subst hr_
      have HIN:=Aside0.mk hin
      clear h hL hin
      go_enter Try.func20,Try.ntmps20
      go_wp2_with (first|((with_reducible refine gate_dst (N:=3) rfl ?_);refine box_event ?hg (N:=3) ?hd (cs:= #[.slice A0_0 l0_0.length c0_0,.slice A0_1 l0_1.length c0_1]) (t:=30) ?hr ?_;(case hd=>rfl);(case hg=>rfl);(case hr=>first|(go_simp;done)|(go_simp;rfl));intro gb hg_ w1 hbox hb;have HB:=Aside0.mk hb;have hx0:w1.cell? ⟨gb,0,none⟩=some (.slice A0_0 l0_0.length c0_0):=(blk_cell hbox 0).trans rfl;have hx1:w1.cell? ⟨gb,1,none⟩=some (.slice A0_1 l0_1.length c0_1):=(blk_cell hbox 1).trans rfl;have HX:=Aside0.mk hbox;clear hbox hb hg_)|(go_at_call 77;(with_reducible refine(told_y k _ _ l0_0 _ _ l0_1 _ ?s1 ?s2 ?s3 ?s4 HF.out HLB.out).mono ?_);(case s1=>exact Kd.C_below HR0.out HB.out);(case s2=>exact HC0.out);(case s3=>exact Kd.C_below HR1.out HB.out);(case s4=>exact HC1.out);rintro e w2 ⟨g,v,rfl,hv,hge,hb⟩;have HB2:=Aside0.mk (below_step HB.out hb);have HV:=Aside0.mk hv;clear hv hge hb hx0 hx1 HX HB)|(go_at_call 78;(with_reducible refine(knows_calls g l0_0 l0_1 v _ HLg.out ?s1 _ _ [a1,a2] 2 rfl ?s2 (by omega) false HIN.out).mono ?_);(case s1=>exact View.alloc HV.out _);(case s2=>exact lit_C _ _ [a1,a2] (by simp));rintro e w3 ⟨rfl,hb⟩;have HB3:=Aside0.mk (below_step (below_alloc HB2.out _) hb);have HV3:=Aside0.mk (View.below (View.alloc HV.out _) hb);clear hb))
      go_ret
      exact⟨rfl,HB3.out⟩
    | true =>
      rw [hL,hin] at h
      have hr_:(andI l0_0 a1 (orI l0_0 (notI l0_1 a1) a2))=r:=by simpa using h
      subst hr_
      have HIN:=Aside0.mk hin
      have hin2:=hin
      simp only [List.all_cons,List.all_nil,Bool.and_true,Bool.and_eq_true,inR_iff] at hin2
      have Ia1:=Aside0.mk (hin2.1)
      have Ia2:=Aside0.mk (hin2.2)
      clear h hL hin hin2
      go_enter Try.func20,Try.ntmps20
      go_wp2_with (first|((with_reducible refine gate_dst (N:=3) rfl ?_);refine box_event ?hg (N:=3) ?hd (cs:= #[.slice A0_0 l0_0.length c0_0,.slice A0_1 l0_1.length c0_1]) (t:=30) ?hr ?_;(case hd=>rfl);(case hg=>rfl);(case hr=>first|(go_simp;done)|(go_simp;rfl));intro gb hg_ w1 hbox hb;have HB:=Aside0.mk hb;have hx0:w1.cell? ⟨gb,0,none⟩=some (.slice A0_0 l0_0.length c0_0):=(blk_cell hbox 0).trans rfl;have hx1:w1.cell? ⟨gb,1,none⟩=some (.slice A0_1 l0_1.length c0_1):=(blk_cell hbox 1).trans rfl;have HX:=Aside0.mk hbox;clear hbox hb hg_)|(go_at_call 77;(with_reducible refine(told_y k _ _ l0_0 _ _ l0_1 _ ?s1 ?s2 ?s3 ?s4 HF.out HLB.out).mono ?_);(case s1=>exact Kd.C_below HR0.out HB.out);(case s2=>exact HC0.out);(case s3=>exact Kd.C_below HR1.out HB.out);(case s4=>exact HC1.out);rintro e w2 ⟨g,v,rfl,hv,hge,hb⟩;have HB2:=Aside0.mk (below_step HB.out hb);have HV:=Aside0.mk hv;clear hv hge hb hx0 hx1 HX HB)|(go_at_call 78;(with_reducible refine(knows_calls g l0_0 l0_1 v _ HLg.out ?s1 _ _ [a1,a2] 2 rfl ?s2 (by omega) true HIN.out).mono ?_);(case s1=>exact View.alloc HV.out _);(case s2=>exact lit_C _ _ [a1,a2] (by simp));rintro e w3 ⟨rfl,hb⟩;have HB3:=Aside0.mk (below_step (below_alloc HB2.out _) hb);have HV3:=Aside0.mk (View.below (View.alloc HV.out _) hb);clear hb))
      go_wp2_with (go_at_call 79;(with_reducible refine(alg_project.reads g l0_0 l0_1 v a1 a2 _ HLg.out ?s1 Ia1.out Ia2.out).mono ?_);(case s1=> exact zq379);rintro e w' ⟨rfl,⟨⟨nd,rfl⟩⟩⟩)
      go_ret
      exact⟨rfl,zq284⟩
def impl_BehindOf.f (l0_0 : List (List Int)) (l0_1 : List Int) (a1 : Int) (a2 : Int) (a3 : Int) : Option (Int) := some (if logicB l0_0 l0_1 = true then (if [a1, a2, a3].all (inR l0_0.length) = true then (andI l0_0 a2 (orI l0_0 (notI l0_1 a2) (andI l0_0 a1 (orI l0_0 (notI l0_1 a1) a3)))) else (-1)) else (-1))
set_option maxHeartbeats 1000000 in
theorem impl_BehindOf.calls (A0_0 : Option Addr) (c0_0 : Nat) (l0_0 : List (List Int)) (A0_1 : Option Addr) (c0_1 : Nat) (l0_1 : List Int) (a1 : Int) (a2 : Int) (a3 : Int) (r : Int) (w : World) (hr0_0 : Kd.C (Kd.slice 3 (Kd.int .i64)) w A0_0 l0_0.length l0_0) (hc0_0 : l0_0.length ≤ c0_0) (hr0_1 : Kd.C (Kd.int .i64) w A0_1 l0_1.length l0_1) (hc0_1 : l0_1.length ≤ c0_1) (h : impl_BehindOf.f l0_0 l0_1 a1 a2 a3 = some r) :
    Calls Try.prog 26 #[.agg #[.slice A0_0 l0_0.length c0_0,.slice A0_1 l0_1.length c0_1],.int .i64 a1,.int .i64 a2,.int .i64 a3] w fun e w'=>e= .returned (.int .i64 r)∧Below w.heap.size w w':=by
  obtain⟨k,hF⟩:=told_facts l0_0
  have hu30:=Try.underlying30
  have hu70:=Try.underlying70
  have HF:=Aside0.mk hF
  have HR0:=Aside0.mk hr0_0
  have HC0:=Aside0.mk hc0_0
  have HR1:=Aside0.mk hr0_1
  have HC1:=Aside0.mk hc0_1
  simp only [impl_BehindOf.f,Option.some.injEq] at h
  clear hr0_0 hc0_0 hr0_1 hc0_1 hF
  cases hL:logicB l0_0 l0_1 with
  | false =>
    rw [hL] at h
    have hr_:(-1)=r:=by simpa using h
    subst hr_
    have HLB:=Aside0.mk hL
    clear h hL
    go_enter Try.func26,Try.ntmps26
    go_wp2_with (first|((with_reducible refine gate_dst (N:=4) rfl ?_);refine box_event ?hg (N:=4) ?hd (cs:= #[.slice A0_0 l0_0.length c0_0,.slice A0_1 l0_1.length c0_1]) (t:=30) ?hr ?_;(case hd=>rfl);(case hg=>rfl);(case hr=>first|(go_simp;done)|(go_simp;rfl));intro gb hg_ w1 hbox hb;have HB:=Aside0.mk hb;have hx0:w1.cell? ⟨gb,0,none⟩=some (.slice A0_0 l0_0.length c0_0):=(blk_cell hbox 0).trans rfl;have hx1:w1.cell? ⟨gb,1,none⟩=some (.slice A0_1 l0_1.length c0_1):=(blk_cell hbox 1).trans rfl;have HX:=Aside0.mk hbox;clear hbox hb hg_)|(go_at_call 77;(with_reducible refine(told_n k _ _ l0_0 _ _ l0_1 _ ?s1 ?s2 ?s3 ?s4 HF.out HLB.out).mono ?_);(case s1=>exact Kd.C_below HR0.out HB.out);(case s2=>exact HC0.out);(case s3=>exact Kd.C_below HR1.out HB.out);(case s4=>exact HC1.out);rintro e w2 ⟨rfl,hb⟩;have HB2:=Aside0.mk (below_step HB.out hb);clear hb hx0 hx1 HX HB)|(go_at_call 78;(with_reducible refine(knows_nil _ _ _ _).mono ?_);rintro e w3 ⟨rfl,hb⟩;have HB3:=Aside0.mk (below_step zq116 hb);clear hb))
    go_ret
    exact⟨rfl,HB3.out⟩
  | true =>
    have HLB:=Aside0.mk hL
    have HLg:=Aside0.mk (logicB_iff.1 hL)
    cases hin: [a1,a2,a3].all (inR l0_0.length) with
    | false =>
      rw [hL,hin] at h
      have hr_:(-1)=r:=by simpa using h
      subst hr_
      have HIN:=Aside0.mk hin
      clear h hL hin
      go_enter Try.func26,Try.ntmps26
      go_wp2_with (first|((with_reducible refine gate_dst (N:=4) rfl ?_);refine box_event ?hg (N:=4) ?hd (cs:= #[.slice A0_0 l0_0.length c0_0,.slice A0_1 l0_1.length c0_1]) (t:=30) ?hr ?_;(case hd=>rfl);(case hg=>rfl);(case hr=>first|(go_simp;done)|(go_simp;rfl));intro gb hg_ w1 hbox hb;have HB:=Aside0.mk hb;have hx0:w1.cell? ⟨gb,0,none⟩=some (.slice A0_0 l0_0.length c0_0):=(blk_cell hbox 0).trans rfl;have hx1:w1.cell? ⟨gb,1,none⟩=some (.slice A0_1 l0_1.length c0_1):=(blk_cell hbox 1).trans rfl;have HX:=Aside0.mk hbox;clear hbox hb hg_)|(go_at_call 77;(with_reducible refine(told_y k _ _ l0_0 _ _ l0_1 _ ?s1 ?s2 ?s3 ?s4 HF.out HLB.out).mono ?_);(case s1=>exact Kd.C_below HR0.out HB.out);(case s2=>exact HC0.out);(case s3=>exact Kd.C_below HR1.out HB.out);(case s4=>exact HC1.out);rintro e w2 ⟨g,v,rfl,hv,hge,hb⟩;have HB2:=Aside0.mk (below_step HB.out hb);have HV:=Aside0.mk hv;clear hv hge hb hx0 hx1 HX HB)|(go_at_call 78;(with_reducible refine(knows_calls g l0_0 l0_1 v _ HLg.out ?s1 _ _ [a1,a2,a3] 3 rfl ?s2 (by omega) false HIN.out).mono ?_);(case s1=>exact View.alloc HV.out _);(case s2=>exact lit_C _ _ [a1,a2,a3] (by simp));rintro e w3 ⟨rfl,hb⟩;have HB3:=Aside0.mk (below_step (below_alloc HB2.out _) hb);have HV3:=Aside0.mk (View.below (View.alloc HV.out _) hb);clear hb))
      go_ret
      exact⟨rfl,HB3.out⟩
    | true =>
      rw [hL,hin] at h
      have hr_:(andI l0_0 a2 (orI l0_0 (notI l0_1 a2) (andI l0_0 a1 (orI l0_0 (notI l0_1 a1) a3))))=r:=by simpa using h
      subst hr_
      have HIN:=Aside0.mk hin
      have hin2:=hin
      simp only [List.all_cons,List.all_nil,Bool.and_true,Bool.and_eq_true,inR_iff] at hin2
      have Ia1:=Aside0.mk (hin2.1)
      have Ia2:=Aside0.mk (hin2.2.1)
      have Ia3:=Aside0.mk (hin2.2.2)
      clear h hL hin hin2
      go_enter Try.func26,Try.ntmps26
      go_wp2_with (first|((with_reducible refine gate_dst (N:=4) rfl ?_);refine box_event ?hg (N:=4) ?hd (cs:= #[.slice A0_0 l0_0.length c0_0,.slice A0_1 l0_1.length c0_1]) (t:=30) ?hr ?_;(case hd=>rfl);(case hg=>rfl);(case hr=>first|(go_simp;done)|(go_simp;rfl));intro gb hg_ w1 hbox hb;have HB:=Aside0.mk hb;have hx0:w1.cell? ⟨gb,0,none⟩=some (.slice A0_0 l0_0.length c0_0):=(blk_cell hbox 0).trans rfl;have hx1:w1.cell? ⟨gb,1,none⟩=some (.slice A0_1 l0_1.length c0_1):=(blk_cell hbox 1).trans rfl;have HX:=Aside0.mk hbox;clear hbox hb hg_)|(go_at_call 77;(with_reducible refine(told_y k _ _ l0_0 _ _ l0_1 _ ?s1 ?s2 ?s3 ?s4 HF.out HLB.out).mono ?_);(case s1=>exact Kd.C_below HR0.out HB.out);(case s2=>exact HC0.out);(case s3=>exact Kd.C_below HR1.out HB.out);(case s4=>exact HC1.out);rintro e w2 ⟨g,v,rfl,hv,hge,hb⟩;have HB2:=Aside0.mk (below_step HB.out hb);have HV:=Aside0.mk hv;clear hv hge hb hx0 hx1 HX HB)|(go_at_call 78;(with_reducible refine(knows_calls g l0_0 l0_1 v _ HLg.out ?s1 _ _ [a1,a2,a3] 3 rfl ?s2 (by omega) true HIN.out).mono ?_);(case s1=>exact View.alloc HV.out _);(case s2=>exact lit_C _ _ [a1,a2,a3] (by simp));rintro e w3 ⟨rfl,hb⟩;have HB3:=Aside0.mk (below_step (below_alloc HB2.out _) hb);have HV3:=Aside0.mk (View.below (View.alloc HV.out _) hb);clear hb;have IQ:=Aside0.mk (HLg.out.in_and Ia1.out (HLg.out.in_or (HLg.out.in_not Ia1.out) Ia3.out))))
      go_wp2_with (first|(go_at_call 79;(with_reducible refine(alg_project.reads g l0_0 l0_1 v a1 a3 _ HLg.out ?s1 Ia1.out Ia3.out).mono ?_);(case s1=> exact zq379);rintro e w' ⟨rfl,⟨⟨nd,rfl⟩⟩⟩)|(go_at_call 79;(with_reducible refine(alg_project.reads g l0_0 l0_1 v a2 (andI l0_0 a1 (orI l0_0 (notI l0_1 a1) a3)) _ HLg.out ?s1 Ia2.out IQ.out).mono ?_);(case s1=> exact zq379);rintro e w' ⟨rfl,⟨⟨nd,rfl⟩⟩⟩))
      go_ret
      exact⟨rfl,zq284⟩
end Go.Proofs.Ytdoomkcgdcfmlaa.Print
end
section
namespace Go.Proofs.Ytdoomkcgdcfmlaa.Print
open Go.RowKit Go.Proofs.YtdoomkcgdcfmlaaW.PrintWords Go.Proofs.YtdoomkcgdcfmlaaW.PrintLast Go.Proofs.YtdoomkcgdcfmlaaW.PrintMore
def spec_ProjectOf.f (k : Nat) (l0_0 : List (List Int)) (l0_1 : List Int) (a1 : Int) (a2 : Int) : Option (Int) := (spec_l2Both.f k l0_0 l0_1 a1 a2).bind fun t605 => (if t605 = true then (if 0 ≤ a1 then (if a1 < (l0_1.length : Int) then ((spec_l1Join.f k l0_0 (rd l0_1 a1) a2).bind fun t607 => ((spec_l1Meet.f k l0_0 a1 t607).bind fun t608 => (some t608))) else (none)) else (none)) else (some (-1)))
set_option maxHeartbeats 8000000 in
set_option maxRecDepth 100000 in
theorem spec_ProjectOf.calls (k : Nat) (A0_0 : Option Addr) (c0_0 : Nat) (l0_0 : List (List Int)) (A0_1 : Option Addr) (c0_1 : Nat) (l0_1 : List Int) (a1 : Int) (a2 : Int) (r : Int) (w : World) (hr0_0 : Kd.C (Kd.slice 3 (Kd.int .i64)) w A0_0 l0_0.length l0_0) (hc0_0 : l0_0.length ≤ c0_0) (hr0_1 : Kd.C (Kd.int .i64) w A0_1 l0_1.length l0_1) (hc0_1 : l0_1.length ≤ c0_1) (h : spec_ProjectOf.f k l0_0 l0_1 a1 a2 = some r) :
  Calls Try.prog 21 #[.agg #[.slice A0_0 l0_0.length c0_0, .slice A0_1 l0_1.length c0_1], .int .i64 a1, .int .i64 a2] w fun e w' => e = .returned (.int .i64 r) ∧ Below w.heap.size w w' := by
 have hu30:=Try.underlying30;have a6:=zqm hr0_0;have a7:=zqm hc0_0;clear hr0_0 hc0_0;have b1:=zqm hr0_1;have b4:=zqm hc0_1;clear hr0_1 hc0_1;have HB:=zqm (Below.refl w.heap.size w);have H:((spec_l2Both.f k l0_0 l0_1 a1 a2).bind fun d5=>(if d5=true then(if 0≤a1 then(if a1<(l0_1.length:Int) then((spec_l1Join.f k l0_0 (rd l0_1 a1) a2).bind fun a8=>((spec_l1Meet.f k l0_0 a1 a8).bind fun b0=>(some b0))) else(none)) else(none)) else(some (-1))))=some r:=h;clear h;replace H:=Option.bind_eq_some_iff.mp H;obtain⟨d5,d7,H⟩:=H;replace H:(if d5=true then(if 0≤a1 then(if a1<(l0_1.length:Int) then((spec_l1Join.f k l0_0 (rd l0_1 a1) a2).bind fun a8=>((spec_l1Meet.f k l0_0 a1 a8).bind fun b0=>(some b0))) else(none)) else(none)) else(some (-1)))=some r:=H;have A4:=zqm d7;clear d7
 by_cases c5:d5=true
 ·subst c5;(have H1:(if 0≤a1 then(if a1<(l0_1.length:Int) then((spec_l1Join.f k l0_0 (rd l0_1 a1) a2).bind fun a8=>((spec_l1Meet.f k l0_0 a1 a8).bind fun b0=>(some b0))) else(none)) else(none))=some r:=by rw [if_pos rfl] at H;exact H);clear H;have H:=H1;clear H1
  by_cases c6:0≤a1
  ·rw [if_pos c6] at H;have e1:decide (0≤a1)=true:=decide_eq_true c6;clear c6
   by_cases c7:a1<(l0_1.length:Int)
   ·rw [if_pos c7] at H;have e2:decide (a1<(l0_1.length:Int))=true:=decide_eq_true c7;clear c7;replace H:=Option.bind_eq_some_iff.mp H;obtain⟨a8,d8,H⟩:=H;replace H:((spec_l1Meet.f k l0_0 a1 a8).bind fun b0=>(some b0))=some r:=H;have A8:=zqm d8;clear d8;replace H:=Option.bind_eq_some_iff.mp H;obtain⟨b0,d9,H⟩:=H;replace H:(some b0)=some r:=H;have A9:=zqm d9;clear d9;obtain rfl:=Option.some.inj H
    go_enter Try.func21,Try.ntmps21
    go_wp2_with (first|((with_reducible refine gate_dst (N:=3) rfl ?_);refine box_event ?hg (N:=3) ?hd (cs:= #[.slice A0_0 l0_0.length c0_0,.slice A0_1 l0_1.length c0_1]) (t:=30) ?hr ?_;(case hd=>rfl);(case hg=>rfl);(case hr=>first|(go_simp;done)|(go_simp;rfl));intro a3 hg b6 hbox hb;have a9:=zqm (below_step zq0 hb);have a0:=zqm (hbox);have b5:=zqm ((by rw [hg];exact(below_size zq0):w.heap.size≤a3));have a4:=zqm ((by rw [hg];exact(below_size zq0):w.heap.size≤a3));clear HB;have HB:=a9;clear a9 hb hbox hg;have c0:b6.cell? ⟨a3,0,none⟩=some (.slice A0_0 l0_0.length c0_0):=(blk_cell a0.out 0).trans rfl;have c1:b6.cell? ⟨a3,1,none⟩=some (.slice A0_1 l0_1.length c0_1):=(blk_cell a0.out 1).trans rfl;have c2:=blk_frozen a0.out 0;have c3:=blk_frozen a0.out 1)|(go_at_call 80;(with_reducible refine(spec_l2Both.calls k _ _ l0_0 _ _ l0_1 a1 a2 true _ ?side1 ?side2 ?side3 ?side4 A4.out).mono ?_);(case side1=> exact zq24);(case side2=>exact a7.out);(case side3=> exact zq42);(case side4=>exact b4.out);rintro e b7 ⟨rfl,hb⟩;replace a0:=zqm (blk_below (g:=a3) (o:= .cells #[.slice A0_0 l0_0.length c0_0,.slice A0_1 l0_1.length c0_1] 30 (0,0)) zq2 hb);replace HB:=zqm (below_step zq8 hb);clear hb;have c4:b7.cell? ⟨a3,0,none⟩=some (.slice A0_0 l0_0.length c0_0):=(blk_cell a0.out 0).trans rfl;have c8:b7.cell? ⟨a3,1,none⟩=some (.slice A0_1 l0_1.length c0_1):=(blk_cell a0.out 1).trans rfl;have c9:=blk_frozen a0.out 0;have d0:=blk_frozen a0.out 1;have b2:0≤(a1:Int):=zqo;have b3:a1<(l0_1.length:Int):=zqo;obtain⟨d6,b9,a5⟩:=Kd.at_int b1.out a1 b2 b3;cases b9;replace a5:=(HB.out.cell (World.block_lt_of_cell? w _ a5)).trans a5;replace b2:=eq_true b2;replace b3:=eq_true b3)|(go_at_call 82;(with_reducible refine(spec_l1Join.calls k _ _ l0_0 (rd l0_1 a1) a2 a8 _ ?side1 ?side2 A8.out).mono ?_);(case side1=> exact zq24);(case side2=>exact a7.out);rintro e w' ⟨rfl,⟨nd,rfl⟩⟩;(try first|exact⟨rfl,_,World.drewN_drewN _ _ _⟩|exact⟨rfl,_,Eq.trans (World.drewN_drewN _ _ _) (congrArg (World.drewN _) (Nat.add_assoc _ _ _))⟩))|(go_at_call 81;(with_reducible refine(spec_l1Meet.calls k _ _ l0_0 a1 a8 b0 _ ?side1 ?side2 A9.out).mono ?_);(case side1=> exact zq60);(case side2=>exact a7.out);rintro e w' ⟨rfl,⟨nd,rfl⟩⟩;(try first|exact⟨rfl,_,World.drewN_drewN _ _ _⟩|exact⟨rfl,_,Eq.trans (World.drewN_drewN _ _ _) (congrArg (World.drewN _) (Nat.add_assoc _ _ _))⟩)))
    repeat(go_quiet (first|((with_reducible refine gate_dst (N:=3) rfl ?_);refine box_event ?hg (N:=3) ?hd (cs:= #[.slice A0_0 l0_0.length c0_0,.slice A0_1 l0_1.length c0_1]) (t:=30) ?hr ?_;(case hd=>rfl);(case hg=>rfl);(case hr=>first|(go_simp;done)|(go_simp;rfl));intro a3 hg b6 hbox hb;have a9:=zqm (below_step zq0 hb);have a0:=zqm (hbox);have b5:=zqm ((by rw [hg];exact(below_size zq0):w.heap.size≤a3));have a4:=zqm ((by rw [hg];exact(below_size zq0):w.heap.size≤a3));clear HB;have HB:=a9;clear a9 hb hbox hg;have c0:b6.cell? ⟨a3,0,none⟩=some (.slice A0_0 l0_0.length c0_0):=(blk_cell a0.out 0).trans rfl;have c1:b6.cell? ⟨a3,1,none⟩=some (.slice A0_1 l0_1.length c0_1):=(blk_cell a0.out 1).trans rfl;have c2:=blk_frozen a0.out 0;have c3:=blk_frozen a0.out 1)|(go_at_call 80;(with_reducible refine(spec_l2Both.calls k _ _ l0_0 _ _ l0_1 a1 a2 true _ ?side1 ?side2 ?side3 ?side4 A4.out).mono ?_);(case side1=> exact zq24);(case side2=>exact a7.out);(case side3=> exact zq42);(case side4=>exact b4.out);rintro e b7 ⟨rfl,hb⟩;replace a0:=zqm (blk_below (g:=a3) (o:= .cells #[.slice A0_0 l0_0.length c0_0,.slice A0_1 l0_1.length c0_1] 30 (0,0)) zq2 hb);replace HB:=zqm (below_step zq8 hb);clear hb;have c4:b7.cell? ⟨a3,0,none⟩=some (.slice A0_0 l0_0.length c0_0):=(blk_cell a0.out 0).trans rfl;have c8:b7.cell? ⟨a3,1,none⟩=some (.slice A0_1 l0_1.length c0_1):=(blk_cell a0.out 1).trans rfl;have c9:=blk_frozen a0.out 0;have d0:=blk_frozen a0.out 1;have b2:0≤(a1:Int):=zqo;have b3:a1<(l0_1.length:Int):=zqo;obtain⟨d6,b9,a5⟩:=Kd.at_int b1.out a1 b2 b3;cases b9;replace a5:=(HB.out.cell (World.block_lt_of_cell? w _ a5)).trans a5;replace b2:=eq_true b2;replace b3:=eq_true b3)|(go_at_call 82;(with_reducible refine(spec_l1Join.calls k _ _ l0_0 (rd l0_1 a1) a2 a8 _ ?side1 ?side2 A8.out).mono ?_);(case side1=> exact zq24);(case side2=>exact a7.out);rintro e w' ⟨rfl,⟨nd,rfl⟩⟩;(try first|exact⟨rfl,_,World.drewN_drewN _ _ _⟩|exact⟨rfl,_,Eq.trans (World.drewN_drewN _ _ _) (congrArg (World.drewN _) (Nat.add_assoc _ _ _))⟩))|(go_at_call 81;(with_reducible refine(spec_l1Meet.calls k _ _ l0_0 a1 a8 b0 _ ?side1 ?side2 A9.out).mono ?_);(case side1=> exact zq60);(case side2=>exact a7.out);rintro e w' ⟨rfl,⟨nd,rfl⟩⟩;(try first|exact⟨rfl,_,World.drewN_drewN _ _ _⟩|exact⟨rfl,_,Eq.trans (World.drewN_drewN _ _ _) (congrArg (World.drewN _) (Nat.add_assoc _ _ _))⟩)));try go_wp2_with (first|((with_reducible refine gate_dst (N:=3) rfl ?_);refine box_event ?hg (N:=3) ?hd (cs:= #[.slice A0_0 l0_0.length c0_0,.slice A0_1 l0_1.length c0_1]) (t:=30) ?hr ?_;(case hd=>rfl);(case hg=>rfl);(case hr=>first|(go_simp;done)|(go_simp;rfl));intro a3 hg b6 hbox hb;have a9:=zqm (below_step zq0 hb);have a0:=zqm (hbox);have b5:=zqm ((by rw [hg];exact(below_size zq0):w.heap.size≤a3));have a4:=zqm ((by rw [hg];exact(below_size zq0):w.heap.size≤a3));clear HB;have HB:=a9;clear a9 hb hbox hg;have c0:b6.cell? ⟨a3,0,none⟩=some (.slice A0_0 l0_0.length c0_0):=(blk_cell a0.out 0).trans rfl;have c1:b6.cell? ⟨a3,1,none⟩=some (.slice A0_1 l0_1.length c0_1):=(blk_cell a0.out 1).trans rfl;have c2:=blk_frozen a0.out 0;have c3:=blk_frozen a0.out 1)|(go_at_call 80;(with_reducible refine(spec_l2Both.calls k _ _ l0_0 _ _ l0_1 a1 a2 true _ ?side1 ?side2 ?side3 ?side4 A4.out).mono ?_);(case side1=> exact zq24);(case side2=>exact a7.out);(case side3=> exact zq42);(case side4=>exact b4.out);rintro e b7 ⟨rfl,hb⟩;replace a0:=zqm (blk_below (g:=a3) (o:= .cells #[.slice A0_0 l0_0.length c0_0,.slice A0_1 l0_1.length c0_1] 30 (0,0)) zq2 hb);replace HB:=zqm (below_step zq8 hb);clear hb;have c4:b7.cell? ⟨a3,0,none⟩=some (.slice A0_0 l0_0.length c0_0):=(blk_cell a0.out 0).trans rfl;have c8:b7.cell? ⟨a3,1,none⟩=some (.slice A0_1 l0_1.length c0_1):=(blk_cell a0.out 1).trans rfl;have c9:=blk_frozen a0.out 0;have d0:=blk_frozen a0.out 1;have b2:0≤(a1:Int):=zqo;have b3:a1<(l0_1.length:Int):=zqo;obtain⟨d6,b9,a5⟩:=Kd.at_int b1.out a1 b2 b3;cases b9;replace a5:=(HB.out.cell (World.block_lt_of_cell? w _ a5)).trans a5;replace b2:=eq_true b2;replace b3:=eq_true b3)|(go_at_call 82;(with_reducible refine(spec_l1Join.calls k _ _ l0_0 (rd l0_1 a1) a2 a8 _ ?side1 ?side2 A8.out).mono ?_);(case side1=> exact zq24);(case side2=>exact a7.out);rintro e w' ⟨rfl,⟨nd,rfl⟩⟩;(try first|exact⟨rfl,_,World.drewN_drewN _ _ _⟩|exact⟨rfl,_,Eq.trans (World.drewN_drewN _ _ _) (congrArg (World.drewN _) (Nat.add_assoc _ _ _))⟩))|(go_at_call 81;(with_reducible refine(spec_l1Meet.calls k _ _ l0_0 a1 a8 b0 _ ?side1 ?side2 A9.out).mono ?_);(case side1=> exact zq60);(case side2=>exact a7.out);rintro e w' ⟨rfl,⟨nd,rfl⟩⟩;(try first|exact⟨rfl,_,World.drewN_drewN _ _ _⟩|exact⟨rfl,_,Eq.trans (World.drewN_drewN _ _ _) (congrArg (World.drewN _) (Nat.add_assoc _ _ _))⟩))))
    go_ret
    exact⟨zq11,zq8⟩
   ·rw [if_neg c7] at H;exact absurd H (by simp)
  ·rw [if_neg c6] at H;exact absurd H (by simp)
 ·replace c5:=Bool.eq_false_iff.mpr c5;subst c5;(have H1:(some (-1))=some r:=by rw [if_neg (show¬(false=true) by decide)] at H;exact H);clear H;have H:=H1;clear H1;obtain rfl:=Option.some.inj H
  go_enter Try.func21,Try.ntmps21
  go_wp2_with (first|((with_reducible refine gate_dst (N:=3) rfl ?_);refine box_event ?hg (N:=3) ?hd (cs:= #[.slice A0_0 l0_0.length c0_0,.slice A0_1 l0_1.length c0_1]) (t:=30) ?hr ?_;(case hd=>rfl);(case hg=>rfl);(case hr=>first|(go_simp;done)|(go_simp;rfl));intro a3 hg b8 hbox hb;have a9:=zqm (below_step zq0 hb);have a0:=zqm (hbox);have b5:=zqm ((by rw [hg];exact(below_size zq0):w.heap.size≤a3));have a4:=zqm ((by rw [hg];exact(below_size zq0):w.heap.size≤a3));clear HB;have HB:=a9;clear a9 hb hbox hg;have d1:b8.cell? ⟨a3,0,none⟩=some (.slice A0_0 l0_0.length c0_0):=(blk_cell a0.out 0).trans rfl;have d2:b8.cell? ⟨a3,1,none⟩=some (.slice A0_1 l0_1.length c0_1):=(blk_cell a0.out 1).trans rfl;have d3:=blk_frozen a0.out 0;have d4:=blk_frozen a0.out 1)|(go_at_call 80;(with_reducible refine(spec_l2Both.calls k _ _ l0_0 _ _ l0_1 a1 a2 false _ ?side1 ?side2 ?side3 ?side4 A4.out).mono ?_);(case side1=> exact zq24);(case side2=>exact a7.out);(case side3=> exact zq42);(case side4=>exact b4.out);rintro e e0 ⟨rfl,hb⟩;replace a0:=zqm (blk_below (g:=a3) (o:= .cells #[.slice A0_0 l0_0.length c0_0,.slice A0_1 l0_1.length c0_1] 30 (0,0)) zq2 hb);replace HB:=zqm (below_step zq8 hb);clear hb))
  repeat(go_quiet (first|((with_reducible refine gate_dst (N:=3) rfl ?_);refine box_event ?hg (N:=3) ?hd (cs:= #[.slice A0_0 l0_0.length c0_0,.slice A0_1 l0_1.length c0_1]) (t:=30) ?hr ?_;(case hd=>rfl);(case hg=>rfl);(case hr=>first|(go_simp;done)|(go_simp;rfl));intro a3 hg b8 hbox hb;have a9:=zqm (below_step zq0 hb);have a0:=zqm (hbox);have b5:=zqm ((by rw [hg];exact(below_size zq0):w.heap.size≤a3));have a4:=zqm ((by rw [hg];exact(below_size zq0):w.heap.size≤a3));clear HB;have HB:=a9;clear a9 hb hbox hg;have d1:b8.cell? ⟨a3,0,none⟩=some (.slice A0_0 l0_0.length c0_0):=(blk_cell a0.out 0).trans rfl;have d2:b8.cell? ⟨a3,1,none⟩=some (.slice A0_1 l0_1.length c0_1):=(blk_cell a0.out 1).trans rfl;have d3:=blk_frozen a0.out 0;have d4:=blk_frozen a0.out 1)|(go_at_call 80;(with_reducible refine(spec_l2Both.calls k _ _ l0_0 _ _ l0_1 a1 a2 false _ ?side1 ?side2 ?side3 ?side4 A4.out).mono ?_);(case side1=> exact zq24);(case side2=>exact a7.out);(case side3=> exact zq42);(case side4=>exact b4.out);rintro e e0 ⟨rfl,hb⟩;replace a0:=zqm (blk_below (g:=a3) (o:= .cells #[.slice A0_0 l0_0.length c0_0,.slice A0_1 l0_1.length c0_1] 30 (0,0)) zq2 hb);replace HB:=zqm (below_step zq8 hb);clear hb));try go_wp2_with (first|((with_reducible refine gate_dst (N:=3) rfl ?_);refine box_event ?hg (N:=3) ?hd (cs:= #[.slice A0_0 l0_0.length c0_0,.slice A0_1 l0_1.length c0_1]) (t:=30) ?hr ?_;(case hd=>rfl);(case hg=>rfl);(case hr=>first|(go_simp;done)|(go_simp;rfl));intro a3 hg b8 hbox hb;have a9:=zqm (below_step zq0 hb);have a0:=zqm (hbox);have b5:=zqm ((by rw [hg];exact(below_size zq0):w.heap.size≤a3));have a4:=zqm ((by rw [hg];exact(below_size zq0):w.heap.size≤a3));clear HB;have HB:=a9;clear a9 hb hbox hg;have d1:b8.cell? ⟨a3,0,none⟩=some (.slice A0_0 l0_0.length c0_0):=(blk_cell a0.out 0).trans rfl;have d2:b8.cell? ⟨a3,1,none⟩=some (.slice A0_1 l0_1.length c0_1):=(blk_cell a0.out 1).trans rfl;have d3:=blk_frozen a0.out 0;have d4:=blk_frozen a0.out 1)|(go_at_call 80;(with_reducible refine(spec_l2Both.calls k _ _ l0_0 _ _ l0_1 a1 a2 false _ ?side1 ?side2 ?side3 ?side4 A4.out).mono ?_);(case side1=> exact zq24);(case side2=>exact a7.out);(case side3=> exact zq42);(case side4=>exact b4.out);rintro e e0 ⟨rfl,hb⟩;replace a0:=zqm (blk_below (g:=a3) (o:= .cells #[.slice A0_0 l0_0.length c0_0,.slice A0_1 l0_1.length c0_1] 30 (0,0)) zq2 hb);replace HB:=zqm (below_step zq8 hb);clear hb)))
  go_ret
  exact⟨zq11,zq8⟩
end Go.Proofs.Ytdoomkcgdcfmlaa.Print
end
section
namespace Go.Proofs.Ytdoomkcgdcfmlaa.Print
open Go.RowKit Go.Proofs.YtdoomkcgdcfmlaaW.PrintWords Go.Proofs.YtdoomkcgdcfmlaaW.PrintLast Go.Proofs.YtdoomkcgdcfmlaaW.PrintMore
open Oml
theorem spec_ProjectOf.ev (U : List (List Int)) (N : List Int) (a b : Int) : Ev (fun k => spec_ProjectOf.f k U N a b) (if logicB U N = true then (if [a, b].all (inR U.length) = true then (andI U a (orI U (notI N a) b)) else (-1)) else (-1)) := by
  unfold spec_ProjectOf.f
  refine Ev.bind (spec_l2Both.ev U N a b) ?_
  cases hl:logicB U N with
  | false => repeat (first | ((with_reducible refine Ev.ite_pos ?_ ?_); (first | assumption | (focus omega) | (focus (simp; done)))) | ((with_reducible refine Ev.ite_neg ?_ ?_); (first | assumption | (focus omega) | (focus (simp; done)))))
             exact Ev.now _
  | true =>
    have L:=logicB_iff.1 hl
    cases hin: [a,b].all (inR U.length) with
    | false =>
      rw [show (inR U.length a && inR U.length b)=false by simpa using hin]
      repeat(first|((with_reducible refine Ev.ite_pos ?_ ?_);(first|assumption|(focus omega)|(focus (simp;done))))|((with_reducible refine Ev.ite_neg ?_ ?_);(first|assumption|(focus omega)|(focus (simp;done)))))
      exact Ev.now _
    | true =>
      have hin2:=hin
      simp only [List.all_cons,List.all_nil,Bool.and_true,Bool.and_eq_true,inR_iff] at hin2
      rw [show (inR U.length a && inR U.length b)=true by simpa using hin]
      have ia:=hin2.1
      have ib:=hin2.2
      have a0:=ia.1
      have a1:=ia.2
      have hl:=L.len
      repeat(first|((with_reducible refine Ev.ite_pos ?_ ?_);(first|assumption|(focus omega)|(focus (simp;done))))|((with_reducible refine Ev.ite_neg ?_ ?_);(first|assumption|(focus omega)|(focus (simp;done)))))
      rw [rd_in L ia]
      refine Ev.bind (join_in L (L.in_not ia) ib) ?_
      refine Ev.bind (meet_in L ia (L.in_or (L.in_not ia) ib)) ?_
      exact Ev.now _
end Go.Proofs.Ytdoomkcgdcfmlaa.Print
end
section
namespace Go.Proofs.Ytdoomkcgdcfmlaa.Print
open Go.RowKit Go.Proofs.YtdoomkcgdcfmlaaW.PrintWords Go.Proofs.YtdoomkcgdcfmlaaW.PrintLast Go.Proofs.YtdoomkcgdcfmlaaW.PrintMore
open Oml
section
variable {U : List (List Int)} {N : List Int} (L : Logic U N)
theorem fin_of {a : Int} (ia : In U a) : ∃ x : Fin U.length, a = ((x.1 : Nat) : Int) := ⟨⟨a.toNat, by have := ia.1; have := ia.2; omega⟩, by have := ia.1; show a = ((a.toNat : Nat) : Int); omega⟩
theorem in_fin (x : Fin U.length) : In U ((x.1 : Nat) : Int) := ⟨by omega, by have := x.2; omega⟩
theorem fin_inj {x y : Fin U.length} : (((x.1 : Nat) : Int) = ((y.1 : Nat) : Int)) ↔ x = y := by
  constructor
  · intro h; exact Fin.ext (by omega)
  · intro h; rw [h]
theorem fin_beq (x y : Fin U.length) : (((x.1 : Nat) : Int) == ((y.1 : Nat) : Int)) = decide (x = y) := by
  rw [Bool.eq_iff_iff, beq_iff_eq, decide_eq_true_eq]; exact fin_inj
theorem and_fin (x y : Fin U.length) : andI U x.1 y.1 = (((L.ol.meet x y).1 : Nat) : Int) := by
  show mI U ((x.1 : Nat) : Int).toNat ((y.1 : Nat) : Int).toNat = _
  unfold mI; rw [Int.toNat_natCast, Int.toNat_natCast, L.mt_eq]; rfl
theorem or_fin (x y : Fin U.length) : orI U x.1 y.1 = (((L.ol.join x y).1 : Nat) : Int) := by
  show jI U ((x.1 : Nat) : Int).toNat ((y.1 : Nat) : Int).toNat = _
  unfold jI; rw [Int.toNat_natCast, Int.toNat_natCast, L.jn_eq]; rfl
theorem not_fin (x : Fin U.length) : notI N x.1 = (((L.ol.neg x).1 : Nat) : Int) := by
  show at1 N ((x.1 : Nat) : Int).toNat = _
  rw [Int.toNat_natCast, L.ng_eq]; rfl
theorem leB_fin (x y : Fin U.length) : leB U x.1 y.1 = true ↔ L.ol.le x y := Iff.rfl
theorem allN_fin {n : Nat} {p : Nat → Bool} : allN n p = true ↔ ∀ x : Fin n, p x.1 = true := by
  rw [allN_iff]
  exact ⟨fun h x => h x.1 x.2, fun h i hi => h ⟨i, hi⟩⟩
end
end Go.Proofs.Ytdoomkcgdcfmlaa.Print
end
section
namespace Go.Proofs.Ytdoomkcgdcfmlaa.Print
open Go.RowKit Go.Proofs.YtdoomkcgdcfmlaaW.PrintWords Go.Proofs.YtdoomkcgdcfmlaaW.PrintLast Go.Proofs.YtdoomkcgdcfmlaaW.PrintMore
def spec_l20Two.f (k : Nat) (s0_0 : List Int) (s0_1 : Int) (a1 : Int) : Option ((List (List Int)) × List Int × Int × Int × Int) := (spec_l20Logic.f k s0_0 s0_1 a1).bind fun bt468 => ((spec_l20Rd_pick.f k s0_0 bt468.2.2 (mx (bt468.2.1.length : Int) 1)).bind fun bt476 => ((spec_l20Rd_pick.f k s0_0 bt476.2 40).bind fun bt478 => ((spec_l20Rd_pick.f k s0_0 bt478.2 (mx (bt468.2.1.length : Int) 1)).bind fun bt480 => ((spec_l20Rd_pick.f k s0_0 bt480.2 40).bind fun bt482 => (some (bt468.1, bt468.2.1, wrap64 (bt476.1 + (wrap64 ((wrap64 (Int.tdiv bt478.1 39)) * 12))), wrap64 (bt480.1 - (wrap64 ((wrap64 (Int.tdiv bt482.1 39)) * 12))), bt482.2))))))
def spec_l20Two.T3 : Bool × List (List Nat × List Nat) := (true, [([], []), ([], []), ([], []), ([1, 2], [1, 2]), ([], []), ([4, 3], [4]), ([5], [5]), ([6], [6]), ([3, 7], [3, 7]), ([], []), ([], []), ([9, 10, 5], [9, 10]), ([], []), ([12, 11], [12]), ([13], [13]), ([14], [14]), ([11, 15], [11, 15]), ([0, 13, 0], [0]), ([8, 17, 0, 1, 2, 3, 4, 5, 6, 7, 8, 17], [8]), ([16, 18, 0, 1, 2, 3, 4, 5, 6, 7, 8, 9, 10, 11, 12, 13, 14, 15, 16, 17, 18], [16])])
def spec_l20Two.B3 : List Nat := [0, 0, 0, 6, 0, 30, 62, 126, 254, 0, 0, 1598, 0, 7742, 15934, 32318, 65086, 15935, 147455, 524287]
theorem spec_l20Two.tab3 : rtab .any (opsOf Try.f76 3) = spec_l20Two.T3 := by kernel_rfl
theorem spec_l20Two.bits3 : waitsOk spec_l20Two.T3.2 spec_l20Two.B3 = true := by kernel_rfl
set_option maxHeartbeats 8000000 in
set_option maxRecDepth 100000 in
theorem spec_l20Two.calls (k : Nat) (g : Nat) (s0_0 : List Int) (s0_1 : Int) (a1 : Int) (r1 : List (List Int)) (r2 : List Int) (r3 : Int) (r4 : Int) (r5 : Int) (w0 w : World) (hI : IsS87 w0 w g s0_0 s0_1) (hB : Below w0.heap.size w0 w) (h : spec_l20Two.f k s0_0 s0_1 a1 = some (r1, r2, r3, r4, r5)) :
  Calls Try.prog 76 #[.pointer (some ⟨g, 0, none⟩), .int .i64 a1] w fun e w' => ∃ v0_ v1_ : Value, e = .returned (.tuple #[.agg #[v0_, v1_], .int .i64 r3, .int .i64 r4]) ∧ Kd.S (Kd.slice 3 (Kd.int .i64)) 28 w' w.heap.size (fun k_ => some k_ ≠ (v1_ : Value).ownBlock) v0_ r1 ∧ Kd.Q (Kd.int .i64) 3 w' w.heap.size (fun _ => True) v1_ r2 ∧ IsS87 w0 w' g s0_0 r5 ∧ Below w0.heap.size w0 w' ∧ KeepBut w w' g none := by
 have hu30:=Try.underlying30;have a0:=zqm hI;have HK:=zqm (KeepBut.refl w g none);have HL:=zqm hB.size;clear hI;have e8:=zqm hB.size;have HB:=zqm hB;clear hB;have H:((spec_l20Logic.f k s0_0 s0_1 a1).bind fun d2=>((spec_l20Rd_pick.f k s0_0 d2.2.2 (mx (d2.2.1.length:Int) 1)).bind fun c2=>((spec_l20Rd_pick.f k s0_0 c2.2 40).bind fun c0=>((spec_l20Rd_pick.f k s0_0 c0.2 (mx (d2.2.1.length:Int) 1)).bind fun b7=>((spec_l20Rd_pick.f k s0_0 b7.2 40).bind fun b2=>(some (d2.1,d2.2.1,wrap64 (c2.1+(wrap64 ((wrap64 (Int.tdiv c0.1 39))*12))),wrap64 (b7.1 - (wrap64 ((wrap64 (Int.tdiv b2.1 39))*12))),b2.2)))))))=some (r1,r2,r3,r4,r5):=h;clear h;replace H:=Option.bind_eq_some_iff.mp H;obtain⟨⟨a8,a4,c6⟩,e9,H⟩:=H;replace H:((spec_l20Rd_pick.f k s0_0 c6 (mx (a4.length:Int) 1)).bind fun c2=>((spec_l20Rd_pick.f k s0_0 c2.2 40).bind fun c0=>((spec_l20Rd_pick.f k s0_0 c0.2 (mx (a4.length:Int) 1)).bind fun b7=>((spec_l20Rd_pick.f k s0_0 b7.2 40).bind fun b2=>(some (a8,a4,wrap64 (c2.1+(wrap64 ((wrap64 (Int.tdiv c0.1 39))*12))),wrap64 (b7.1 - (wrap64 ((wrap64 (Int.tdiv b2.1 39))*12))),b2.2))))))=some (r1,r2,r3,r4,r5):=H;have A3:=zqm e9;clear e9;obtain⟨c7,c8⟩: ∃j_:Int,(mx (a4.length:Int) 1)=j_:=⟨_,rfl⟩;(replace H:((spec_l20Rd_pick.f k s0_0 c6 (c7)).bind fun c2=>((spec_l20Rd_pick.f k s0_0 c2.2 40).bind fun c0=>((spec_l20Rd_pick.f k s0_0 c0.2 (c7)).bind fun b7=>((spec_l20Rd_pick.f k s0_0 b7.2 40).bind fun b2=>(some (a8,a4,wrap64 (c2.1+(wrap64 ((wrap64 (Int.tdiv c0.1 39))*12))),wrap64 (b7.1 - (wrap64 ((wrap64 (Int.tdiv b2.1 39))*12))),b2.2))))))=some (r1,r2,r3,r4,r5):=by first|(rw [c8] at H;exact H)|(simp only [c8] at H ⊢;exact H));(try rw [c8] at A3);(try(have hji4l:1≤c7:=by(rw [← c8];unfold mx;(repeat' split) <;> omega)));(try(have hji4m:0≤c7:=by omega));have g4:(if(a4.length:Int)<1 then 1 else(a4.length:Int))=c7:=c8;replace H:=Option.bind_eq_some_iff.mp H;obtain⟨⟨d3,d4⟩,f0,H⟩:=H;replace H:((spec_l20Rd_pick.f k s0_0 d4 40).bind fun c0=>((spec_l20Rd_pick.f k s0_0 c0.2 (c7)).bind fun b7=>((spec_l20Rd_pick.f k s0_0 b7.2 40).bind fun b2=>(some (a8,a4,wrap64 (d3+(wrap64 ((wrap64 (Int.tdiv c0.1 39))*12))),wrap64 (b7.1 - (wrap64 ((wrap64 (Int.tdiv b2.1 39))*12))),b2.2)))))=some (r1,r2,r3,r4,r5):=H;have A5:=zqm f0;clear f0;replace H:=Option.bind_eq_some_iff.mp H;obtain⟨⟨e2,d5⟩,f1,H⟩:=H;replace H:((spec_l20Rd_pick.f k s0_0 d5 (c7)).bind fun b7=>((spec_l20Rd_pick.f k s0_0 b7.2 40).bind fun b2=>(some (a8,a4,wrap64 (d3+(wrap64 ((wrap64 (Int.tdiv e2 39))*12))),wrap64 (b7.1 - (wrap64 ((wrap64 (Int.tdiv b2.1 39))*12))),b2.2))))=some (r1,r2,r3,r4,r5):=H;have A6:=zqm f1;clear f1;replace H:=Option.bind_eq_some_iff.mp H;obtain⟨⟨e3,d6⟩,f2,H⟩:=H;replace H:((spec_l20Rd_pick.f k s0_0 d6 40).bind fun b2=>(some (a8,a4,wrap64 (d3+(wrap64 ((wrap64 (Int.tdiv e2 39))*12))),wrap64 (e3 - (wrap64 ((wrap64 (Int.tdiv b2.1 39))*12))),b2.2)))=some (r1,r2,r3,r4,r5):=H;have A7:=zqm f2;clear f2;replace H:=Option.bind_eq_some_iff.mp H;obtain⟨⟨e4,e5⟩,f3,H⟩:=H;replace H:(some (a8,a4,wrap64 (d3+(wrap64 ((wrap64 (Int.tdiv e2 39))*12))),wrap64 (e3 - (wrap64 ((wrap64 (Int.tdiv e4 39))*12))),e5))=some (r1,r2,r3,r4,r5):=H;have A8:=zqm f3;clear f3;simp only [Option.some.injEq,Prod.mk.injEq] at H;obtain⟨rfl,rfl,rfl,rfl,rfl⟩:=H
 go_enter Try.func76,Try.ntmps76
 (try go_wp2_with (first|((with_reducible refine gate_dst (N:=4) rfl ?_);refine box_event ?hg (N:=4) ?hd (cs:= #[.slice none 0 0,.slice none 0 0]) (t:=30) ?hr ?_;(case hd=>rfl);(case hg=>rfl);(case hr=>first|(go_simp;done)|(go_simp;rfl));intro a5 hg w9 hbox hb;have d7:=zqm (IsS87.below zq159 hb);have d8:=zqm (KeepBut.trans zq50 (KeepBut.of_below hb g none) (.inl rfl));replace HB:=zqm (below_step zq134 hb);have a6:=zqm (hbox);have b9:=zqm ((by rw [hg];exact(keep_size (w:=w) (g:=g) (row:=none) zq50):w.heap.size≤a5));have c3:=zqm ((Nat.le_trans e8.out (by rw [hg];exact(keep_size (w:=w) (g:=g) (row:=none) zq50):w.heap.size≤a5):w0.heap.size≤a5));have a7:=zqm ((by rw [hg];exact Nat.ne_of_lt (IsS87.lt (show IsS87 w0 _ g s0_0 s0_1 from by repeat(first|(with_reducible first|exact a0.out|apply IsS87.alloc|apply IsS87.drewN|apply IsS87.drew|apply IsS87.set_1)|exact a0.out))):g≠a5));have c4:=zqm ((by rw [hg];exact Nat.ne_of_gt (IsS87.lt (show IsS87 w0 _ g s0_0 s0_1 from by repeat(first|(with_reducible first|exact a0.out|apply IsS87.alloc|apply IsS87.drewN|apply IsS87.drew|apply IsS87.set_1)|exact a0.out))):a5≠g));clear a0 HK;have a0:=d7;have HK:=d8;clear d7 d8 hb hbox hg)|((with_reducible refine gate_callee (f:=85) rfl ?_);refine goesL_ (some 11) rfl rfl Try.func85 zqk rfl #[.pointer (some ⟨g,0,none⟩),.int .i64 a1] rfl zq1 ?_;(with_reducible refine(spec_l20Logic.calls k g s0_0 s0_1 a1 a8 a4 c6 w0 _ ?side1 ?side2 A3.out).mono ?_);(case side1=> exact zq346);(case side2=> exact zq333);rintro e h1 ⟨g9,h0,rfl,f4,f5,hi,hb,hk⟩;refine⟨_,rfl,?_⟩;replace a6:=zqm (KeepBut.blk hk (g':=a5) (o:= .cells #[.slice none 0 0,.slice none 0 0] 30 (0,0)) zq153 c4.out (by simp));have b3:=zqm (Kd.S_lower f4 (keep_size (w:=w) (g:=g) (row:=none) zq132));have b4:=zqm (Kd.Q_lower f5 (keep_size (w:=w) (g:=g) (row:=none) zq132));replace HK:=zqm (KeepBut.trans zq132 hk (.inl rfl));replace HB:=zqm (hb);replace a0:=zqm (hi);clear hb hk hi f4 f5)|((with_reducible refine gate_dst (N:=7) rfl ?_);refine box_event ?hg (N:=7) ?hd (cs:= #[.slice none 0 0,.slice none 0 0]) (t:=30) ?hr ?_;(case hd=>rfl);(case hg=>rfl);(case hr=>first|(go_simp;done)|(go_simp;rfl));intro a2 hg d1 hbox hb;replace b3:=zqm (Kd.S_below zq171 hb);replace b4:=zqm (Kd.Q_below zq275 hb);have d9:=zqm (IsS87.below zq346 hb);have e0:=zqm (blk_below (g:=a5) (o:= .cells #[.slice none 0 0,.slice none 0 0] 30 (0,0)) zq153 hb);have e1:=zqm (KeepBut.trans zq132 (KeepBut.of_below hb g none) (.inl rfl));replace HB:=zqm (below_step zq333 hb);have a3:=zqm (hbox);have c9:=zqm ((by rw [hg];exact(keep_size (w:=w) (g:=g) (row:=none) zq132):w.heap.size≤a2));have d0:=zqm ((Nat.le_trans e8.out (by rw [hg];exact(keep_size (w:=w) (g:=g) (row:=none) zq132):w.heap.size≤a2):w0.heap.size≤a2));have c1:=zqm ((by rw [hg];exact Nat.ne_of_lt (blk_lt (g:=a5) (o:= .cells #[.slice none 0 0,.slice none 0 0] 30 (0,0)) zq153):a5≠a2));have b8:=zqm ((by rw [hg];exact Nat.ne_of_gt (blk_lt (g:=a5) (o:= .cells #[.slice none 0 0,.slice none 0 0] 30 (0,0)) zq153):a2≠a5));have a9:=zqm ((by rw [hg];exact Nat.ne_of_lt (IsS87.lt (show IsS87 w0 _ g s0_0 c6 from by repeat(first|(with_reducible first|exact a0.out|apply IsS87.alloc|apply IsS87.drewN|apply IsS87.drew|apply IsS87.set_1|refine IsS87.far ?_ a7.out _)|exact a0.out))):g≠a2));have c5:=zqm ((by rw [hg];exact Nat.ne_of_gt (IsS87.lt (show IsS87 w0 _ g s0_0 c6 from by repeat(first|(with_reducible first|exact a0.out|apply IsS87.alloc|apply IsS87.drewN|apply IsS87.drew|apply IsS87.set_1|refine IsS87.far ?_ a7.out _)|exact a0.out))):a2≠g));clear a0 a6 HK;have a0:=d9;have a6:=e0;have HK:=e1;clear d9 e0 e1 hb hbox hg;obtain⟨b0,b1,f7⟩:=Kd.S_slice b3.out;subst f7;have g5:=b8.out;have g6:=c1.out;have g7:=c5.out;have g8:=a9.out;have f9:d1.cell? ⟨a2,0,none⟩=some (.slice none 0 0):=(blk_cell a3.out 0).trans rfl;have g0:d1.cell? ⟨a2,1,none⟩=some (.slice none 0 0):=(blk_cell a3.out 1).trans rfl;have g1:=blk_frozen a3.out 0;have g2:=blk_frozen a3.out 1;obtain⟨b5,b6,f8,_⟩:=Kd.Q_slice b4.out;subst f8)))
 have d7:Aside0 (Kd.S (Kd.slice 3 (Kd.int .i64)) 28 ((d1.setCell ⟨a2,0,none⟩ (.slice b0 a8.length b1)).setCell ⟨a2,1,none⟩ (.slice b5 a4.length b6)) w.heap.size (fun k_=>some k_≠(.slice b5 a4.length b6:Value).ownBlock) (.slice b0 a8.length b1) a8):=⟨by(with_reducible repeat(first|apply Kd.S_alloc|apply Kd.S_drewN|apply Kd.S_drew));exact Kd.S_mono (Kd.S_far (p:=⟨a2,1,none⟩) (Kd.S_far (p:=⟨a2,0,none⟩) (Kd.S_types b3.out a3.out (by decide)) (fun _ hk=>hk.2) (.slice b0 a8.length b1)) (fun _ hk=>hk.2) (.slice b5 a4.length b6)) (fun _ hk=>hk.1)⟩;have d8:Aside0 (Kd.Q (Kd.int .i64) 3 ((d1.setCell ⟨a2,0,none⟩ (.slice b0 a8.length b1)).setCell ⟨a2,1,none⟩ (.slice b5 a4.length b6)) w.heap.size (fun _=>True) (.slice b5 a4.length b6) a4):=⟨by(with_reducible repeat(first|apply Kd.Q_alloc|apply Kd.Q_drewN|apply Kd.Q_drew));exact Kd.Q_mono (Kd.Q_far (p:=⟨a2,1,none⟩) (Kd.Q_far (p:=⟨a2,0,none⟩) (Kd.Q_types b4.out a3.out (by decide)) (fun _ hk=>hk.2) (.slice b0 a8.length b1)) (fun _ hk=>hk.2) (.slice b5 a4.length b6)) (fun _ hk=>trivial)⟩;have d9:Aside0 (((d1.setCell ⟨a2,0,none⟩ (.slice b0 a8.length b1)).setCell ⟨a2,1,none⟩ (.slice b5 a4.length b6)).heap[a5]? =some (.cells #[.slice none 0 0,.slice none 0 0] 30 (0,0))):=⟨by(with_reducible repeat(first|refine blk_drewN ?_ _|refine blk_drew ?_|refine blk_alloc ?_ _));refine blk_far ?_ c1.out _;(with_reducible repeat(first|refine blk_drewN ?_ _|refine blk_drew ?_|refine blk_alloc ?_ _));refine blk_far ?_ c1.out _;(with_reducible repeat(first|refine blk_drewN ?_ _|refine blk_drew ?_|refine blk_alloc ?_ _));exact a6.out⟩;have e0:Aside0 (((d1.setCell ⟨a2,0,none⟩ (.slice b0 a8.length b1)).setCell ⟨a2,1,none⟩ (.slice b5 a4.length b6)).heap[a2]? =some (.cells #[.slice b0 a8.length b1,.slice b5 a4.length b6] 30 (0,0))):=⟨by(with_reducible repeat(first|refine blk_drewN ?_ _|refine blk_drew ?_|refine blk_alloc ?_ _));refine blk_put (cs:= #[.slice b0 a8.length b1,.slice none 0 0]) ?_ 1 _ rfl;(with_reducible repeat(first|refine blk_drewN ?_ _|refine blk_drew ?_|refine blk_alloc ?_ _));refine blk_put (cs:= #[.slice none 0 0,.slice none 0 0]) ?_ 0 _ rfl;(with_reducible repeat(first|refine blk_drewN ?_ _|refine blk_drew ?_|refine blk_alloc ?_ _));exact a3.out⟩;have e1:Aside0 (IsS87 w0 ((d1.setCell ⟨a2,0,none⟩ (.slice b0 a8.length b1)).setCell ⟨a2,1,none⟩ (.slice b5 a4.length b6)) g s0_0 c6):=⟨zq117⟩;have e6:Aside0 (KeepBut w ((d1.setCell ⟨a2,0,none⟩ (.slice b0 a8.length b1)).setCell ⟨a2,1,none⟩ (.slice b5 a4.length b6)) g none):=⟨zq118⟩;have e7:Aside0 (Below w0.heap.size w0 ((d1.setCell ⟨a2,0,none⟩ (.slice b0 a8.length b1)).setCell ⟨a2,1,none⟩ (.slice b5 a4.length b6))):=⟨zq102⟩;generalize ((d1.setCell ⟨a2,0,none⟩ (.slice b0 a8.length b1)).setCell ⟨a2,1,none⟩ (.slice b5 a4.length b6))=g3 at d7 d8 d9 e0 e1 e6 e7 ⊢;have b3:=d7;have b4:=d8;have a6:=d9;have a3:=e0;have a0:=e1;have HK:=e6;have HB:=e7;clear d7 d8 d9 e0 e1 e6 e7;replace b3:=zqm (Kd.S_drew b3.out);replace b4:=zqm (Kd.Q_drew b4.out);replace a6:=zqm (blk_drew a6.out);replace a3:=zqm (blk_drew a3.out);replace a0:=zqm (IsS87.drew a0.out);replace HK:=zqm (keep_drew HK.out);replace HB:=zqm (below_drew1 HB.out);refine start_ (n:=20) (S:=fun w'=>w'.cell? ⟨a2,0,none⟩=some (.slice b0 a8.length b1)∧w'.cell? ⟨a2,1,none⟩=some (.slice b5 a4.length b6)) (ds:= []) (zqb 20 0) zqk rfl rfl ⟨(blk_cell a3.out 0).trans rfl,(blk_cell a3.out 1).trans rfl⟩ (fun hHeld=>?_);refine with_tabW spec_l20Two.tab3 spec_l20Two.bits3 (fun HT_ HW_=>?_);generalize g3.drew=h2 at b3 b4 a6 a3 a0 HK HB hHeld ⊢;refine pure_ (i:=1) (N:=some 17) (v:=?_) (a':=?_) (zqb 20 2) rfl rfl (any_of HT_.out zqk) (fun _ _ _ h=>h) (Or.inl ⟨by rfl,?_⟩) ?_ ?_;rotate_left
 ·exact zqt
 rotate_left
 ·exact zqs
 refine pure_ (i:=2) (N:=some 18) (v:=?_) (a':=?_) (zqb 20 6) rfl rfl (any_of HT_.out zqk) (fun _ _ _ h=>h) (Or.inl ⟨by rfl,?_⟩) ?_ ?_;rotate_left
 ·exact zqt
 rotate_left
 ·exact zqs
 refine pure_ (i:=4) (N:=some 20) (v:=?_) (a':=?_) (zqb 20 22) rfl rfl (any_of HT_.out zqk) (fun _ _ _ h=>h) (Or.inl ⟨by rfl,?_⟩) ?_ ?_;rotate_left
 ·exact zqt
 rotate_left
 ·exact zqs
 refine pure_ (i:=9) (N:=some 25) (v:=?_) (a':=?_) (zqb 20 534) rfl rfl (any_of HT_.out zqk) (fun _ _ _ h=>h) (Or.inl ⟨by rfl,?_⟩) ?_ ?_;rotate_left
 ·exact zqt
 rotate_left
 ·exact zqs
 refine pure_ (i:=10) (N:=some 26) (v:=?_) (a':=?_) (zqb 20 1558) rfl rfl (any_of HT_.out zqk) (fun _ _ _ h=>h) (Or.inl ⟨by rfl,?_⟩) ?_ ?_;rotate_left
 ·exact zqt
 rotate_left
 ·exact zqs
 refine pure_ (i:=12) (N:=some 28) (v:=?_) (a':=?_) (zqb 20 5654) rfl rfl (any_of HT_.out zqk) (fun _ _ _ h=>h) (Or.inl ⟨by rfl,?_⟩) ?_ ?_;rotate_left
 ·exact zqt
 rotate_left
 ·exact zqs
 refine take_ (i:=0) (N:=some 16) (v:=?_) (a':=?_) (zqb 20 5655) rfl rfl (take_ofW HT_.out HW_.out zqk) (fun _ _ _ h=>h) (Or.inl ⟨by rfl,?_⟩) hHeld ?_ ?_;rotate_left
 ·rintro w' ⟨s0,s1⟩;go_simp;with_reducible rfl
 rotate_left
 ·exact zqs
 refine one_ (i:=3) (N:=some 19) (zqb 20 5663) rfl rfl (one_of HT_.out zqk) (by decide) (fun K hK=>?_);refine goes_ Try.func103 zqk rfl #[.pointer (some ⟨g,0,none⟩),.int .i64 c7] (by rfl) rfl rfl zq354 ?_;(with_reducible refine(spec_l20Rd_pick.calls k g s0_0 c6 c7 d3 d4 w0 _ ?side1 ?side2 A5.out).mono ?_);(case side1=> exact zq117);(case side2=> exact zq102);rintro e h3 ⟨rfl,hi,hb,hk⟩;refine⟨_,rfl,?_⟩;replace a6:=zqm (KeepBut.blk hk (g':=a5) (o:= .cells #[.slice none 0 0,.slice none 0 0] 30 (0,0)) zq153 c4.out (by simp));replace b3:=zqm (Kd.S_mono (Kd.S_keep (IsS87.apartS (show IsS87 w0 _ g s0_0 c6 from by repeat(first|(with_reducible first|exact a0.out|apply IsS87.alloc|apply IsS87.drewN|apply IsS87.drew|apply IsS87.set_1|refine IsS87.far ?_ a7.out _|refine IsS87.far ?_ a9.out _)|exact a0.out)) zq171 (by decide)) hk (fun _ h=>h.2)) (fun _ h=>h.1));replace b4:=zqm (Kd.Q_mono (Kd.Q_keep (IsS87.apartQ (show IsS87 w0 _ g s0_0 c6 from by repeat(first|(with_reducible first|exact a0.out|apply IsS87.alloc|apply IsS87.drewN|apply IsS87.drew|apply IsS87.set_1|refine IsS87.far ?_ a7.out _|refine IsS87.far ?_ a9.out _)|exact a0.out)) zq275 (by decide)) hk (fun _ h=>h.2)) (fun _ h=>h.1));replace a3:=zqm (KeepBut.blk hk (g':=a2) (o:= .cells #[.slice b0 a8.length b1,.slice b5 a4.length b6] 30 (0,0)) zq311 c5.out (by simp));replace HK:=zqm (KeepBut.trans zq118 hk (.inl rfl));replace HB:=zqm (hb);replace a0:=zqm (hi);clear hb hk hi;refine hK.out _ _ ⟨(blk_cell a3.out 0).trans rfl,(blk_cell a3.out 1).trans rfl⟩ (fun hHeld=>?_);clear hK K;refine norm_ (a':=?_) ?_ ?_;rotate_left
 ·show Act.put _ (some 19) _=_;exact zqs
 refine one_ (i:=5) (N:=some 21) (zqb 20 5695) rfl rfl (one_of HT_.out zqk) (by decide) (fun K hK=>?_);refine goes_ Try.func103 zqk rfl #[.pointer (some ⟨g,0,none⟩),.int .i64 40] (by rfl) rfl rfl zq1 ?_;(with_reducible refine(spec_l20Rd_pick.calls k g s0_0 d4 40 e2 d5 w0 _ ?side1 ?side2 A6.out).mono ?_);(case side1=> exact zq117);(case side2=> exact zq102);rintro e h4 ⟨rfl,hi,hb,hk⟩;refine⟨_,rfl,?_⟩;replace a6:=zqm (KeepBut.blk hk (g':=a5) (o:= .cells #[.slice none 0 0,.slice none 0 0] 30 (0,0)) zq153 c4.out (by simp));replace b3:=zqm (Kd.S_mono (Kd.S_keep (IsS87.apartS (show IsS87 w0 _ g s0_0 d4 from by repeat(first|(with_reducible first|exact a0.out|apply IsS87.alloc|apply IsS87.drewN|apply IsS87.drew|apply IsS87.set_1|refine IsS87.far ?_ a7.out _|refine IsS87.far ?_ a9.out _)|exact a0.out)) zq171 (by decide)) hk (fun _ h=>h.2)) (fun _ h=>h.1));replace b4:=zqm (Kd.Q_mono (Kd.Q_keep (IsS87.apartQ (show IsS87 w0 _ g s0_0 d4 from by repeat(first|(with_reducible first|exact a0.out|apply IsS87.alloc|apply IsS87.drewN|apply IsS87.drew|apply IsS87.set_1|refine IsS87.far ?_ a7.out _|refine IsS87.far ?_ a9.out _)|exact a0.out)) zq275 (by decide)) hk (fun _ h=>h.2)) (fun _ h=>h.1));replace a3:=zqm (KeepBut.blk hk (g':=a2) (o:= .cells #[.slice b0 a8.length b1,.slice b5 a4.length b6] 30 (0,0)) zq311 c5.out (by simp));replace HK:=zqm (KeepBut.trans zq118 hk (.inl rfl));replace HB:=zqm (hb);replace a0:=zqm (hi);clear hb hk hi;refine hK.out _ _ ⟨(blk_cell a3.out 0).trans rfl,(blk_cell a3.out 1).trans rfl⟩ (fun hHeld=>?_);clear hK K;refine norm_ (a':=?_) ?_ ?_;rotate_left
 ·show Act.put _ (some 21) _=_;exact zqs
 refine pure_ (i:=6) (N:=some 22) (v:=?_) (a':=?_) (zqb 20 5759) rfl rfl (any_of HT_.out zqk) (fun _ _ _ h=>h) (Or.inl ⟨by rfl,?_⟩) ?_ ?_;rotate_left
 ·exact zqt
 rotate_left
 ·exact zqs
 refine pure_ (i:=7) (N:=some 23) (v:=?_) (a':=?_) (zqb 20 5887) rfl rfl (any_of HT_.out zqk) (fun _ _ _ h=>h) (Or.inl ⟨by rfl,?_⟩) ?_ ?_;rotate_left
 ·exact zqt
 rotate_left
 ·exact zqs
 refine pure_ (i:=8) (N:=some 24) (v:=?_) (a':=?_) (zqb 20 6143) rfl rfl (any_of HT_.out zqk) (fun _ _ _ h=>h) (Or.inl ⟨by rfl,?_⟩) ?_ ?_;rotate_left
 ·exact zqt
 rotate_left
 ·exact zqs
 refine one_ (i:=11) (N:=some 27) (zqb 20 8191) rfl rfl (one_of HT_.out zqk) (by decide) (fun K hK=>?_);refine goes_ Try.func103 zqk rfl #[.pointer (some ⟨g,0,none⟩),.int .i64 c7] (by rfl) rfl rfl zq354 ?_;(with_reducible refine(spec_l20Rd_pick.calls k g s0_0 d5 c7 e3 d6 w0 _ ?side1 ?side2 A7.out).mono ?_);(case side1=> exact zq117);(case side2=> exact zq102);rintro e h5 ⟨rfl,hi,hb,hk⟩;refine⟨_,rfl,?_⟩;replace a6:=zqm (KeepBut.blk hk (g':=a5) (o:= .cells #[.slice none 0 0,.slice none 0 0] 30 (0,0)) zq153 c4.out (by simp));replace b3:=zqm (Kd.S_mono (Kd.S_keep (IsS87.apartS (show IsS87 w0 _ g s0_0 d5 from by repeat(first|(with_reducible first|exact a0.out|apply IsS87.alloc|apply IsS87.drewN|apply IsS87.drew|apply IsS87.set_1|refine IsS87.far ?_ a7.out _|refine IsS87.far ?_ a9.out _)|exact a0.out)) zq171 (by decide)) hk (fun _ h=>h.2)) (fun _ h=>h.1));replace b4:=zqm (Kd.Q_mono (Kd.Q_keep (IsS87.apartQ (show IsS87 w0 _ g s0_0 d5 from by repeat(first|(with_reducible first|exact a0.out|apply IsS87.alloc|apply IsS87.drewN|apply IsS87.drew|apply IsS87.set_1|refine IsS87.far ?_ a7.out _|refine IsS87.far ?_ a9.out _)|exact a0.out)) zq275 (by decide)) hk (fun _ h=>h.2)) (fun _ h=>h.1));replace a3:=zqm (KeepBut.blk hk (g':=a2) (o:= .cells #[.slice b0 a8.length b1,.slice b5 a4.length b6] 30 (0,0)) zq311 c5.out (by simp));replace HK:=zqm (KeepBut.trans zq118 hk (.inl rfl));replace HB:=zqm (hb);replace a0:=zqm (hi);clear hb hk hi;refine hK.out _ _ ⟨(blk_cell a3.out 0).trans rfl,(blk_cell a3.out 1).trans rfl⟩ (fun hHeld=>?_);clear hK K;refine norm_ (a':=?_) ?_ ?_;rotate_left
 ·show Act.put _ (some 27) _=_;exact zqs
 refine one_ (i:=13) (N:=some 29) (zqb 20 16383) rfl rfl (one_of HT_.out zqk) (by decide) (fun K hK=>?_);refine goes_ Try.func103 zqk rfl #[.pointer (some ⟨g,0,none⟩),.int .i64 40] (by rfl) rfl rfl zq1 ?_;(with_reducible refine(spec_l20Rd_pick.calls k g s0_0 d6 40 e4 e5 w0 _ ?side1 ?side2 A8.out).mono ?_);(case side1=> exact zq117);(case side2=> exact zq102);rintro e f6 ⟨rfl,hi,hb,hk⟩;refine⟨_,rfl,?_⟩;replace a6:=zqm (KeepBut.blk hk (g':=a5) (o:= .cells #[.slice none 0 0,.slice none 0 0] 30 (0,0)) zq153 c4.out (by simp));replace b3:=zqm (Kd.S_mono (Kd.S_keep (IsS87.apartS (show IsS87 w0 _ g s0_0 d6 from by repeat(first|(with_reducible first|exact a0.out|apply IsS87.alloc|apply IsS87.drewN|apply IsS87.drew|apply IsS87.set_1|refine IsS87.far ?_ a7.out _|refine IsS87.far ?_ a9.out _)|exact a0.out)) zq171 (by decide)) hk (fun _ h=>h.2)) (fun _ h=>h.1));replace b4:=zqm (Kd.Q_mono (Kd.Q_keep (IsS87.apartQ (show IsS87 w0 _ g s0_0 d6 from by repeat(first|(with_reducible first|exact a0.out|apply IsS87.alloc|apply IsS87.drewN|apply IsS87.drew|apply IsS87.set_1|refine IsS87.far ?_ a7.out _|refine IsS87.far ?_ a9.out _)|exact a0.out)) zq275 (by decide)) hk (fun _ h=>h.2)) (fun _ h=>h.1));replace a3:=zqm (KeepBut.blk hk (g':=a2) (o:= .cells #[.slice b0 a8.length b1,.slice b5 a4.length b6] 30 (0,0)) zq311 c5.out (by simp));replace HK:=zqm (KeepBut.trans zq118 hk (.inl rfl));replace HB:=zqm (hb);replace a0:=zqm (hi);clear hb hk hi;refine hK.out _ _ ⟨(blk_cell a3.out 0).trans rfl,(blk_cell a3.out 1).trans rfl⟩ (fun hHeld=>?_);clear hK K;refine norm_ (a':=?_) ?_ ?_;rotate_left
 ·show Act.put _ (some 29) _=_;exact zqs
 refine pure_ (i:=14) (N:=some 30) (v:=?_) (a':=?_) (zqb 20 32767) rfl rfl (any_of HT_.out zqk) (fun _ _ _ h=>h) (Or.inl ⟨by rfl,?_⟩) ?_ ?_;rotate_left
 ·exact zqt
 rotate_left
 ·exact zqs
 refine pure_ (i:=15) (N:=some 31) (v:=?_) (a':=?_) (zqb 20 65535) rfl rfl (any_of HT_.out zqk) (fun _ _ _ h=>h) (Or.inl ⟨by rfl,?_⟩) ?_ ?_;rotate_left
 ·exact zqt
 rotate_left
 ·exact zqs
 refine pure_ (i:=16) (N:=some 32) (v:=?_) (a':=?_) (zqb 20 131071) rfl rfl (any_of HT_.out zqk) (fun _ _ _ h=>h) (Or.inl ⟨by rfl,?_⟩) ?_ ?_;rotate_left
 ·exact zqt
 rotate_left
 ·exact zqs
 refine one_ (i:=17) (N:=none) (zqb 20 262143) rfl rfl (one_of HT_.out zqk) (by decide) (fun K hK=>?_);have hs23:f6.cell? ⟨a5,0,none⟩=some (.slice none 0 0):=(blk_cell a6.out 0).trans rfl;have hfs23:=blk_frozen a6.out 0;have hns23_1:=b8.out;have hms23_1:=c1.out;have hs24:f6.cell? ⟨a5,1,none⟩=some (.slice none 0 0):=(blk_cell a6.out 1).trans rfl;have hfs24:=blk_frozen a6.out 1;have hns24_1:=b8.out;have hms24_1:=c1.out;refine skip_ (w1:=?_) (by rfl) rfl ?_ ?_;rotate_left
 ·go_simp;rfl
 refine hK.out _ _ ⟨((cell_far (p:=⟨a5,_,none⟩) b8.out _).trans (((cell_far (p:=⟨a5,_,none⟩) b8.out _).trans (hHeld.1)))),((cell_far (p:=⟨a5,_,none⟩) b8.out _).trans (((cell_far (p:=⟨a5,_,none⟩) b8.out _).trans (hHeld.2))))⟩ (fun hHeld=>?_);clear hK K;refine pure_ (i:=18) (N:=some 5) (v:=?_) (a':=?_) (zqb 20 524287) rfl rfl (any_of HT_.out zqk) (fun _ _ _ h=>h) (Or.inl ⟨by rfl,?_⟩) ?_ ?_;rotate_left
 ·exact zqt
 rotate_left
 ·exact zqs
 refine pure_ (i:=19) (N:=some 6) (v:=?_) (a':=?_) (zqb 20 1048575) rfl rfl (any_of HT_.out zqk) (fun _ _ _ h=>h) (Or.inl ⟨by rfl,?_⟩) ?_ ?_;rotate_left
 ·exact zqt
 rotate_left
 ·exact zqs
 refine done_ (done_of HT_.out zqk) ?_;(try go_wp2);refine bodyPost_ret (results_ctt rfl _ _ a5 30 #[.slice b0 a8.length b1,.slice b5 a4.length b6] (0,0) _ rfl (by(with_reducible repeat(first|refine blk_drewN ?_ _|refine blk_drew ?_|refine blk_alloc ?_ _));refine blk_put (cs:= #[.slice b0 a8.length b1,.slice none 0 0]) ?_ 1 _ rfl;(with_reducible repeat(first|refine blk_drewN ?_ _|refine blk_drew ?_|refine blk_alloc ?_ _));refine blk_put (cs:= #[.slice none 0 0,.slice none 0 0]) ?_ 0 _ rfl;(with_reducible repeat(first|refine blk_drewN ?_ _|refine blk_drew ?_|refine blk_alloc ?_ _));exact a6.out) Try.underlying30 rfl zqk) rfl ?_;exact⟨_,_,by first|rfl|(simp [errW_none,errW_some] <;> rfl)|(simp only [← c8];first|rfl|(simp [errW_none,errW_some] <;> rfl))|(simp [*,errW_none,errW_some] <;> rfl),by(with_reducible repeat(first|apply Kd.S_alloc|apply Kd.S_drewN|apply Kd.S_drew));exact Kd.S_mono (Kd.S_far (p:=⟨a5,1,none⟩) (Kd.S_far (p:=⟨a5,0,none⟩) (Kd.S_types b3.out a6.out (by decide)) (fun _ hk=>hk.2) (.slice b0 a8.length b1)) (fun _ hk=>hk.2) (.slice b5 a4.length b6)) (fun _ hk=>hk.1),by(with_reducible repeat(first|apply Kd.Q_alloc|apply Kd.Q_drewN|apply Kd.Q_drew));exact Kd.Q_mono (Kd.Q_far (p:=⟨a5,1,none⟩) (Kd.Q_far (p:=⟨a5,0,none⟩) (Kd.Q_types b4.out a6.out (by decide)) (fun _ hk=>hk.2) (.slice b0 a8.length b1)) (fun _ hk=>hk.2) (.slice b5 a4.length b6)) (fun _ hk=>trivial),zq117,zq102,zq118⟩
end Go.Proofs.Ytdoomkcgdcfmlaa.Print
end
section
namespace Go.Proofs.Ytdoomkcgdcfmlaa.Print
open Go.RowKit Go.Proofs.YtdoomkcgdcfmlaaW.PrintWords Go.Proofs.YtdoomkcgdcfmlaaW.PrintLast Go.Proofs.YtdoomkcgdcfmlaaW.PrintMore
open Oml
section
variable {b : List Int} (hb : Bytes b) (hl : b.length ≤ 2000)
include hb hl
theorem two_ev {p : Int} (h0 : 0 ≤ p) (h1 : p ≤ 999999000) (n : Int) : ∃ V M x y q, Ev (fun k => spec_l20Two.f k b p n) (V, M, x, y, q) ∧ p ≤ q ∧ q ≤ p + 124 := by
  obtain⟨V,M,q,h,k1,k2⟩:=logic_ev hb hl h0 (by omega) n
  obtain⟨v1,e1,_,_⟩:=pick_ev hb hl (p:=q) (by omega) (by omega) (mx (M.length:Int) 1)
  obtain⟨v2,e2,_,_⟩:=pick_ev hb hl (p:=q+1) (by omega) (by omega) 40
  obtain⟨v3,e3,_,_⟩:=pick_ev hb hl (p:=q+1+1) (by omega) (by omega) (mx (M.length:Int) 1)
  obtain⟨v4,e4,_,_⟩:=pick_ev hb hl (p:=q+1+1+1) (by omega) (by omega) 40
  exact⟨_,_,_,_,q+1+1+1+1,Ev.bind h (Ev.bind e1 (Ev.bind e2 (Ev.bind e3 (Ev.bind e4 (Ev.now _))))),by omega,by omega⟩
end
end Go.Proofs.Ytdoomkcgdcfmlaa.Print
end
section
namespace Go.Proofs.Ytdoomkcgdcfmlaa.Print
open Go.RowKit Go.Proofs.YtdoomkcgdcfmlaaW.PrintWords Go.Proofs.YtdoomkcgdcfmlaaW.PrintLast Go.Proofs.YtdoomkcgdcfmlaaW.PrintMore
open Oml
def impl_ApartOk.T2 : Bool × List (List Nat × List Nat) := (true, [([], []), ([], []), ([], []), ([1, 2], [1, 2]), ([0, 3], [0, 3]), ([4, 4], [4]), ([5], [5]), ([6, 5], [5, 6]), ([7, 5], [5, 7]), ([8, 5], [5, 8]), ([5], [5]), ([9, 10, 5], [5, 9, 10]), ([11, 5], [5, 11]), ([5], [5]), ([13, 5], [5, 13]), ([14, 5], [5, 14]), ([15, 5], [5, 15]), ([5], [5]), ([16, 17, 5], [5, 16, 17]), ([18, 5], [5, 18]), ([12, 19, 5], [5, 12, 19]), ([20, 5], [5, 20]), ([21, 5], [5, 21]), ([5, 22], [5, 22]), ([23, 5, 0, 1, 2, 3, 4, 5, 6, 7, 8, 9, 10, 11, 12, 13, 14, 15, 16, 17, 18, 19, 20, 21, 22, 23], [23])])
def impl_ApartOk.B2 : List Nat := [0, 0, 0, 6, 15, 31, 63, 127, 255, 511, 63, 2047, 4095, 63, 8255, 24639, 57407, 63, 254015, 516159, 1048575, 2097151, 4194303, 8388607, 16777215]
theorem impl_ApartOk.tab2 : rtab .any (opsOf Try.f28 2) = impl_ApartOk.T2 := by kernel_rfl
theorem impl_ApartOk.bits2 : waitsOk impl_ApartOk.T2.2 impl_ApartOk.B2 = true := by kernel_rfl
def impl_ApartOk.f (l0_0 : List (List Int)) (l0_1 : List Int) (a1 : Int) (a2 : Int) : Option (Bool) := some (if logicB l0_0 l0_1 = true then (if [a1, a2].all (inR l0_0.length) = true then (at2 l0_0 a1.toNat (notI l0_1 a2).toNat == 1) else false) else false)
set_option maxHeartbeats 4000000 in
set_option maxRecDepth 100000 in
theorem impl_ApartOk.calls (A0_0 : Option Addr) (c0_0 : Nat) (l0_0 : List (List Int)) (A0_1 : Option Addr) (c0_1 : Nat) (l0_1 : List Int) (a1 : Int) (a2 : Int) (r : Bool) (w : World) (hr0_0 : Kd.C (Kd.slice 3 (Kd.int .i64)) w A0_0 l0_0.length l0_0) (hc0_0 : l0_0.length ≤ c0_0) (hr0_1 : Kd.C (Kd.int .i64) w A0_1 l0_1.length l0_1) (hc0_1 : l0_1.length ≤ c0_1) (h : impl_ApartOk.f l0_0 l0_1 a1 a2 = some r) :
    Calls Try.prog 28 #[.agg #[.slice A0_0 l0_0.length c0_0,.slice A0_1 l0_1.length c0_1],.int .i64 a1,.int .i64 a2] w fun e w'=>e= .returned (.bool r)∧Below w.heap.size w w':=by
  obtain⟨k,hF⟩:=told_facts l0_0
  have hu30:=Try.underlying30
  have hu70:=Try.underlying70
  have HF:=Aside0.mk hF
  have HR0:=Aside0.mk hr0_0
  have HC0:=Aside0.mk hc0_0
  have HR1:=Aside0.mk hr0_1
  have HC1:=Aside0.mk hc0_1
  simp only [impl_ApartOk.f,Option.some.injEq] at h
  clear hr0_0 hc0_0 hr0_1 hc0_1 hF
  cases hL:logicB l0_0 l0_1 with
  | false =>
    rw [hL] at h
    have hr_:false=r:=by simpa using h
    subst hr_
    have HLB:=Aside0.mk hL
    clear h hL
    go_enter Try.func28,Try.ntmps28
    go_wp2_with (first|((with_reducible refine gate_dst (N:=3) rfl ?_);refine box_event ?hg (N:=3) ?hd (cs:= #[.slice A0_0 l0_0.length c0_0,.slice A0_1 l0_1.length c0_1]) (t:=30) ?hr ?_;(case hd=>rfl);(case hg=>rfl);(case hr=>first|(go_simp;done)|(go_simp;rfl));intro gb hg_ w1 hbox hb;have HB:=Aside0.mk hb;have hx0:w1.cell? ⟨gb,0,none⟩=some (.slice A0_0 l0_0.length c0_0):=(blk_cell hbox 0).trans rfl;have hx1:w1.cell? ⟨gb,1,none⟩=some (.slice A0_1 l0_1.length c0_1):=(blk_cell hbox 1).trans rfl;have HX:=Aside0.mk hbox;clear hbox hb hg_)|(go_at_call 77;(with_reducible refine(told_n k _ _ l0_0 _ _ l0_1 _ ?s1 ?s2 ?s3 ?s4 HF.out HLB.out).mono ?_);(case s1=>exact Kd.C_below HR0.out HB.out);(case s2=>exact HC0.out);(case s3=>exact Kd.C_below HR1.out HB.out);(case s4=>exact HC1.out);rintro e w2 ⟨rfl,hb⟩;have HB2:=Aside0.mk (below_step HB.out hb);clear hb hx0 hx1 HX HB))
    have HB3:=Aside0.mk (below_drew1 HB2.out)
    refine start_ (n:=25) (S:=(fun _=>True)) (ds:= []) (zqb 25 0) (by kernel_rfl) rfl rfl True.intro (fun hHeld=>?_)
    refine with_tabW impl_ApartOk.tab2 impl_ApartOk.bits2 (fun HT_ HW_=>?_)
    generalize w2.drew=w3 at hHeld HB3 ⊢
    refine pure_ (i:=0) (N:=some 10) (v:=?_) (a':=?_) (zqb 25 1) rfl rfl (any_of HT_.out (by kernel_rfl)) (fun _ _ _ h=>h) (Or.inl ⟨by rfl,?_⟩) ?_ ?_
    rotate_left
    · intro w';go_simp;with_reducible rfl
    rotate_left
    · simp only [Act.put,List.setIfInBounds_toArray,List.set_cons_zero,List.set_cons_succ,i64_w,i32_w];rfl
    refine pure_ (i:=1) (N:=some 11) (v:=?_) (a':=?_) (zqb 25 3) rfl rfl (any_of HT_.out (by kernel_rfl)) (fun _ _ _ h=>h) (Or.inl ⟨by rfl,?_⟩) ?_ ?_
    rotate_left
    · intro w';go_simp;with_reducible rfl
    rotate_left
    · simp only [Act.put,List.setIfInBounds_toArray,List.set_cons_zero,List.set_cons_succ,i64_w,i32_w];rfl
    refine pure_ (i:=2) (N:=some 12) (v:=?_) (a':=?_) (zqb 25 7) rfl rfl (any_of HT_.out (by kernel_rfl)) (fun _ _ _ h=>h) (Or.inl ⟨by rfl,?_⟩) ?_ ?_
    rotate_left
    · intro w';go_simp;with_reducible rfl
    rotate_left
    · simp only [Act.put,List.setIfInBounds_toArray,List.set_cons_zero,List.set_cons_succ,i64_w,i32_w];rfl
    refine one_ (i:=3) (N:=some 13) (zqb 25 15) rfl rfl (one_of HT_.out (by kernel_rfl)) (by decide) (fun K hK=>?_)
    refine event_step (w1:=World.alloc w3 (.cells #[.int .i64 a1,.int .i64 a2] 3)) (v:= .slice (some ⟨w3.heap.size,0,none⟩) 2 2) (by rfl) ?hr1 ?_
    case hr1=>first|(go_simp;done)|(go_simp;rfl)
    refine hK.out _ _ True.intro (fun hHeld4=>?_)
    clear hK K
    refine norm_ (a':=?_) ?_ ?_
    rotate_left
    · show Act.put _ (some 13) _ = _
      simp only [Act.put,List.setIfInBounds_toArray,List.set_cons_zero,List.set_cons_succ,i64_w,i32_w]
      rfl
    refine one_ (i:=4) (N:=some 14) (zqb 25 31) rfl rfl (one_of HT_.out (by kernel_rfl)) (by decide) (fun K hK=>?_)
    refine goes_ Try.func78 (by kernel_rfl) rfl #[.pointer none,.slice (some ⟨w3.heap.size,0,none⟩) 2 2] (by rfl) rfl rfl zq324 ?_
    refine(knows_nil _ _ _ _).mono ?_
    rintro e w4 ⟨rfl,hb⟩
    refine⟨_,rfl,?_⟩
    have HB4:=Aside0.mk (below_step (below_alloc HB3.out _) hb)
    refine hK.out _ _ True.intro (fun hHeld5=>?_)
    clear hK K hb
    refine norm_ (a':=?_) ?_ ?_
    rotate_left
    · show Act.put _ (some 14) _ = _
      simp only [Act.put,List.setIfInBounds_toArray,List.set_cons_zero,List.set_cons_succ,i64_w,i32_w]
      rfl
    refine pure_ (i:=5) (N:=some 15) (v:=?_) (a':=?_) (zqb 25 63) rfl rfl (any_of HT_.out (by kernel_rfl)) (fun _ _ _ h=>h) (Or.inl ⟨by rfl,?_⟩) ?_ ?_
    rotate_left
    · intro w';go_simp;with_reducible rfl
    rotate_left
    · simp only [Act.put,List.setIfInBounds_toArray,List.set_cons_zero,List.set_cons_succ,i64_w,i32_w];rfl
    refine pure_ (i:=6) (N:=some 16) (v:=undef) (a':=?_) (zqb 25 127) rfl rfl (any_of HT_.out (by kernel_rfl)) (fun _ _ _ h=>h) (Or.inr ⟨by rfl,rfl⟩) ?_ ?_
    rotate_left
    · simp only [Act.put,List.setIfInBounds_toArray,List.set_cons_zero,List.set_cons_succ,i64_w,i32_w];rfl
    refine pure_ (i:=7) (N:=some 17) (v:=undef) (a':=?_) (zqb 25 255) rfl rfl (any_of HT_.out (by kernel_rfl)) (fun _ _ _ h=>h) (Or.inr ⟨by rfl,rfl⟩) ?_ ?_
    rotate_left
    · simp only [Act.put,List.setIfInBounds_toArray,List.set_cons_zero,List.set_cons_succ,i64_w,i32_w];rfl
    refine pure_ (i:=8) (N:=some 18) (v:=undef) (a':=?_) (zqb 25 511) rfl rfl (any_of HT_.out (by kernel_rfl)) (fun _ _ _ h=>h) (Or.inr ⟨by rfl,rfl⟩) ?_ ?_
    rotate_left
    · simp only [Act.put,List.setIfInBounds_toArray,List.set_cons_zero,List.set_cons_succ,i64_w,i32_w];rfl
    refine pure_ (i:=9) (N:=some 19) (v:=undef) (a':=?_) (zqb 25 1023) rfl rfl (any_of HT_.out (by kernel_rfl)) (fun _ _ _ h=>h) (Or.inr ⟨by rfl,rfl⟩) ?_ ?_
    rotate_left
    · simp only [Act.put,List.setIfInBounds_toArray,List.set_cons_zero,List.set_cons_succ,i64_w,i32_w];rfl
    refine pure_ (i:=10) (N:=some 20) (v:=undef) (a':=?_) (zqb 25 2047) rfl rfl (any_of HT_.out (by kernel_rfl)) (fun _ _ _ h=>h) (Or.inr ⟨by rfl,rfl⟩) ?_ ?_
    rotate_left
    · simp only [Act.put,List.setIfInBounds_toArray,List.set_cons_zero,List.set_cons_succ,i64_w,i32_w];rfl
    refine pure_ (i:=11) (N:=some 21) (v:=undef) (a':=?_) (zqb 25 4095) rfl rfl (any_of HT_.out (by kernel_rfl)) (fun _ _ _ h=>h) (Or.inr ⟨by rfl,rfl⟩) ?_ ?_
    rotate_left
    · simp only [Act.put,List.setIfInBounds_toArray,List.set_cons_zero,List.set_cons_succ,i64_w,i32_w];rfl
    refine pure_ (i:=12) (N:=some 22) (v:=undef) (a':=?_) (zqb 25 8191) rfl rfl (any_of HT_.out (by kernel_rfl)) (fun _ _ _ h=>h) (Or.inr ⟨by rfl,rfl⟩) ?_ ?_
    rotate_left
    · simp only [Act.put,List.setIfInBounds_toArray,List.set_cons_zero,List.set_cons_succ,i64_w,i32_w];rfl
    refine pure_ (i:=13) (N:=some 23) (v:=undef) (a':=?_) (zqb 25 16383) rfl rfl (any_of HT_.out (by kernel_rfl)) (fun _ _ _ h=>h) (Or.inr ⟨by rfl,rfl⟩) ?_ ?_
    rotate_left
    · simp only [Act.put,List.setIfInBounds_toArray,List.set_cons_zero,List.set_cons_succ,i64_w,i32_w];rfl
    refine pure_ (i:=14) (N:=some 24) (v:=undef) (a':=?_) (zqb 25 32767) rfl rfl (any_of HT_.out (by kernel_rfl)) (fun _ _ _ h=>h) (Or.inr ⟨by rfl,rfl⟩) ?_ ?_
    rotate_left
    · simp only [Act.put,List.setIfInBounds_toArray,List.set_cons_zero,List.set_cons_succ,i64_w,i32_w];rfl
    refine pure_ (i:=15) (N:=some 25) (v:=undef) (a':=?_) (zqb 25 65535) rfl rfl (any_of HT_.out (by kernel_rfl)) (fun _ _ _ h=>h) (Or.inr ⟨by rfl,rfl⟩) ?_ ?_
    rotate_left
    · simp only [Act.put,List.setIfInBounds_toArray,List.set_cons_zero,List.set_cons_succ,i64_w,i32_w];rfl
    refine pure_ (i:=16) (N:=some 26) (v:=undef) (a':=?_) (zqb 25 131071) rfl rfl (any_of HT_.out (by kernel_rfl)) (fun _ _ _ h=>h) (Or.inr ⟨by rfl,rfl⟩) ?_ ?_
    rotate_left
    · simp only [Act.put,List.setIfInBounds_toArray,List.set_cons_zero,List.set_cons_succ,i64_w,i32_w];rfl
    refine pure_ (i:=17) (N:=some 27) (v:=undef) (a':=?_) (zqb 25 262143) rfl rfl (any_of HT_.out (by kernel_rfl)) (fun _ _ _ h=>h) (Or.inr ⟨by rfl,rfl⟩) ?_ ?_
    rotate_left
    · simp only [Act.put,List.setIfInBounds_toArray,List.set_cons_zero,List.set_cons_succ,i64_w,i32_w];rfl
    refine pure_ (i:=18) (N:=some 28) (v:=undef) (a':=?_) (zqb 25 524287) rfl rfl (any_of HT_.out (by kernel_rfl)) (fun _ _ _ h=>h) (Or.inr ⟨by rfl,rfl⟩) ?_ ?_
    rotate_left
    · simp only [Act.put,List.setIfInBounds_toArray,List.set_cons_zero,List.set_cons_succ,i64_w,i32_w];rfl
    refine pure_ (i:=19) (N:=some 29) (v:=undef) (a':=?_) (zqb 25 1048575) rfl rfl (any_of HT_.out (by kernel_rfl)) (fun _ _ _ h=>h) (Or.inr ⟨by rfl,rfl⟩) ?_ ?_
    rotate_left
    · simp only [Act.put,List.setIfInBounds_toArray,List.set_cons_zero,List.set_cons_succ,i64_w,i32_w];rfl
    refine pure_ (i:=20) (N:=some 30) (v:=undef) (a':=?_) (zqb 25 2097151) rfl rfl (any_of HT_.out (by kernel_rfl)) (fun _ _ _ h=>h) (Or.inr ⟨by rfl,rfl⟩) ?_ ?_
    rotate_left
    · simp only [Act.put,List.setIfInBounds_toArray,List.set_cons_zero,List.set_cons_succ,i64_w,i32_w];rfl
    refine pure_ (i:=21) (N:=some 31) (v:=undef) (a':=?_) (zqb 25 4194303) rfl rfl (any_of HT_.out (by kernel_rfl)) (fun _ _ _ h=>h) (Or.inr ⟨by rfl,rfl⟩) ?_ ?_
    rotate_left
    · simp only [Act.put,List.setIfInBounds_toArray,List.set_cons_zero,List.set_cons_succ,i64_w,i32_w];rfl
    refine pure_ (i:=22) (N:=some 32) (v:=undef) (a':=?_) (zqb 25 8388607) rfl rfl (any_of HT_.out (by kernel_rfl)) (fun _ _ _ h=>h) (Or.inr ⟨by rfl,rfl⟩) ?_ ?_
    rotate_left
    · simp only [Act.put,List.setIfInBounds_toArray,List.set_cons_zero,List.set_cons_succ,i64_w,i32_w];rfl
    refine pure_ (i:=23) (N:=some 33) (v:=?_) (a':=?_) (zqb 25 16777215) rfl rfl (any_of HT_.out (by kernel_rfl)) (fun _ _ _ h=>h) (Or.inl ⟨by rfl,?_⟩) ?_ ?_
    rotate_left
    · intro w';go_simp;with_reducible rfl
    rotate_left
    · simp only [Act.put,List.setIfInBounds_toArray,List.set_cons_zero,List.set_cons_succ,i64_w,i32_w];rfl
    refine pure_ (i:=24) (N:=some 6) (v:=?_) (a':=?_) (zqb 25 33554431) rfl rfl (any_of HT_.out (by kernel_rfl)) (fun _ _ _ h=>h) (Or.inl ⟨by rfl,?_⟩) ?_ ?_
    rotate_left
    · intro w';go_simp;with_reducible rfl
    rotate_left
    · simp only [Act.put,List.setIfInBounds_toArray,List.set_cons_zero,List.set_cons_succ,i64_w,i32_w];rfl
    refine done_ (done_of HT_.out (by kernel_rfl)) ?_
    go_wp2
    go_ret
    exact⟨rfl,HB4.out⟩
  | true =>
    have HLB:=Aside0.mk hL
    have HLg:=Aside0.mk (logicB_iff.1 hL)
    cases hin: [a1,a2].all (inR l0_0.length) with
    | false =>
      rw [hL,hin] at h
      have hr_:false=r:=by simpa using h
      subst hr_
      have HIN:=Aside0.mk hin
      clear h hL hin
      go_enter Try.func28,Try.ntmps28
      go_wp2_with (first|((with_reducible refine gate_dst (N:=3) rfl ?_);refine box_event ?hg (N:=3) ?hd (cs:= #[.slice A0_0 l0_0.length c0_0,.slice A0_1 l0_1.length c0_1]) (t:=30) ?hr ?_;(case hd=>rfl);(case hg=>rfl);(case hr=>first|(go_simp;done)|(go_simp;rfl));intro gb hg_ w1 hbox hb;have HB:=Aside0.mk hb;have hx0:w1.cell? ⟨gb,0,none⟩=some (.slice A0_0 l0_0.length c0_0):=(blk_cell hbox 0).trans rfl;have hx1:w1.cell? ⟨gb,1,none⟩=some (.slice A0_1 l0_1.length c0_1):=(blk_cell hbox 1).trans rfl;have HX:=Aside0.mk hbox;clear hbox hb hg_)|(go_at_call 77;(with_reducible refine(told_y k _ _ l0_0 _ _ l0_1 _ ?s1 ?s2 ?s3 ?s4 HF.out HLB.out).mono ?_);(case s1=>exact Kd.C_below HR0.out HB.out);(case s2=>exact HC0.out);(case s3=>exact Kd.C_below HR1.out HB.out);(case s4=>exact HC1.out);rintro e w2 ⟨g,v,rfl,hv,hge,hb⟩;have HB2:=Aside0.mk (below_step HB.out hb);have HV:=Aside0.mk hv;clear hv hge hb hx0 hx1 HX HB))
      have HB3:=Aside0.mk (below_drew1 HB2.out)
      have HV3:=Aside0.mk (View.below HV.out (below_drew1 (Below.refl _ _)))
      refine start_ (n:=25) (S:=(fun _=>True)) (ds:= []) (zqb 25 0) (by kernel_rfl) rfl rfl True.intro (fun hHeld=>?_)
      refine with_tabW impl_ApartOk.tab2 impl_ApartOk.bits2 (fun HT_ HW_=>?_)
      generalize w2.drew=w3 at hHeld HB3 HV3 ⊢
      refine pure_ (i:=0) (N:=some 10) (v:=?_) (a':=?_) (zqb 25 1) rfl rfl (any_of HT_.out (by kernel_rfl)) (fun _ _ _ h=>h) (Or.inl ⟨by rfl,?_⟩) ?_ ?_
      rotate_left
      · intro w';go_simp;with_reducible rfl
      rotate_left
      · simp only [Act.put,List.setIfInBounds_toArray,List.set_cons_zero,List.set_cons_succ,i64_w,i32_w];rfl
      refine pure_ (i:=1) (N:=some 11) (v:=?_) (a':=?_) (zqb 25 3) rfl rfl (any_of HT_.out (by kernel_rfl)) (fun _ _ _ h=>h) (Or.inl ⟨by rfl,?_⟩) ?_ ?_
      rotate_left
      · intro w';go_simp;with_reducible rfl
      rotate_left
      · simp only [Act.put,List.setIfInBounds_toArray,List.set_cons_zero,List.set_cons_succ,i64_w,i32_w];rfl
      refine pure_ (i:=2) (N:=some 12) (v:=?_) (a':=?_) (zqb 25 7) rfl rfl (any_of HT_.out (by kernel_rfl)) (fun _ _ _ h=>h) (Or.inl ⟨by rfl,?_⟩) ?_ ?_
      rotate_left
      · intro w';go_simp;with_reducible rfl
      rotate_left
      · simp only [Act.put,List.setIfInBounds_toArray,List.set_cons_zero,List.set_cons_succ,i64_w,i32_w];rfl
      refine one_ (i:=3) (N:=some 13) (zqb 25 15) rfl rfl (one_of HT_.out (by kernel_rfl)) (by decide) (fun K hK=>?_)
      refine event_step (w1:=World.alloc w3 (.cells #[.int .i64 a1,.int .i64 a2] 3)) (v:= .slice (some ⟨w3.heap.size,0,none⟩) 2 2) (by rfl) ?hr1 ?_
      case hr1=>first|(go_simp;done)|(go_simp;rfl)
      refine hK.out _ _ True.intro (fun hHeld4=>?_)
      clear hK K
      refine norm_ (a':=?_) ?_ ?_
      rotate_left
      · show Act.put _ (some 13) _ = _
        simp only [Act.put,List.setIfInBounds_toArray,List.set_cons_zero,List.set_cons_succ,i64_w,i32_w]
        rfl
      refine one_ (i:=4) (N:=some 14) (zqb 25 31) rfl rfl (one_of HT_.out (by kernel_rfl)) (by decide) (fun K hK=>?_)
      refine goes_ Try.func78 (by kernel_rfl) rfl #[.pointer (some ⟨g,0,none⟩),.slice (some ⟨w3.heap.size,0,none⟩) 2 2] (by rfl) rfl rfl zq324 ?_
      refine(knows_calls g l0_0 l0_1 v _ HLg.out (View.alloc HV3.out _) _ _ [a1,a2] 2 rfl (lit_C _ _ [a1,a2] (by simp)) (by omega) false HIN.out).mono ?_
      rintro e w4 ⟨rfl,hb⟩
      refine⟨_,rfl,?_⟩
      have HB4:=Aside0.mk (below_step (below_alloc HB3.out _) hb)
      have HV4:=Aside0.mk (View.below (View.alloc HV3.out _) hb)
      refine hK.out _ _ True.intro (fun hHeld5=>?_)
      clear hK K hb
      refine norm_ (a':=?_) ?_ ?_
      rotate_left
      · show Act.put _ (some 14) _ = _
        simp only [Act.put,List.setIfInBounds_toArray,List.set_cons_zero,List.set_cons_succ,i64_w,i32_w]
        rfl
      refine pure_ (i:=5) (N:=some 15) (v:=?_) (a':=?_) (zqb 25 63) rfl rfl (any_of HT_.out (by kernel_rfl)) (fun _ _ _ h=>h) (Or.inl ⟨by rfl,?_⟩) ?_ ?_
      rotate_left
      · intro w';go_simp;with_reducible rfl
      rotate_left
      · simp only [Act.put,List.setIfInBounds_toArray,List.set_cons_zero,List.set_cons_succ,i64_w,i32_w];rfl
      refine pure_ (i:=6) (N:=some 16) (v:=undef) (a':=?_) (zqb 25 127) rfl rfl (any_of HT_.out (by kernel_rfl)) (fun _ _ _ h=>h) (Or.inr ⟨by rfl,rfl⟩) ?_ ?_
      rotate_left
      · simp only [Act.put,List.setIfInBounds_toArray,List.set_cons_zero,List.set_cons_succ,i64_w,i32_w];rfl
      refine pure_ (i:=7) (N:=some 17) (v:=undef) (a':=?_) (zqb 25 255) rfl rfl (any_of HT_.out (by kernel_rfl)) (fun _ _ _ h=>h) (Or.inr ⟨by rfl,rfl⟩) ?_ ?_
      rotate_left
      · simp only [Act.put,List.setIfInBounds_toArray,List.set_cons_zero,List.set_cons_succ,i64_w,i32_w];rfl
      refine pure_ (i:=8) (N:=some 18) (v:=undef) (a':=?_) (zqb 25 511) rfl rfl (any_of HT_.out (by kernel_rfl)) (fun _ _ _ h=>h) (Or.inr ⟨by rfl,rfl⟩) ?_ ?_
      rotate_left
      · simp only [Act.put,List.setIfInBounds_toArray,List.set_cons_zero,List.set_cons_succ,i64_w,i32_w];rfl
      refine pure_ (i:=9) (N:=some 19) (v:=undef) (a':=?_) (zqb 25 1023) rfl rfl (any_of HT_.out (by kernel_rfl)) (fun _ _ _ h=>h) (Or.inr ⟨by rfl,rfl⟩) ?_ ?_
      rotate_left
      · simp only [Act.put,List.setIfInBounds_toArray,List.set_cons_zero,List.set_cons_succ,i64_w,i32_w];rfl
      refine pure_ (i:=10) (N:=some 20) (v:=undef) (a':=?_) (zqb 25 2047) rfl rfl (any_of HT_.out (by kernel_rfl)) (fun _ _ _ h=>h) (Or.inr ⟨by rfl,rfl⟩) ?_ ?_
      rotate_left
      · simp only [Act.put,List.setIfInBounds_toArray,List.set_cons_zero,List.set_cons_succ,i64_w,i32_w];rfl
      refine pure_ (i:=11) (N:=some 21) (v:=undef) (a':=?_) (zqb 25 4095) rfl rfl (any_of HT_.out (by kernel_rfl)) (fun _ _ _ h=>h) (Or.inr ⟨by rfl,rfl⟩) ?_ ?_
      rotate_left
      · simp only [Act.put,List.setIfInBounds_toArray,List.set_cons_zero,List.set_cons_succ,i64_w,i32_w];rfl
      refine pure_ (i:=12) (N:=some 22) (v:=undef) (a':=?_) (zqb 25 8191) rfl rfl (any_of HT_.out (by kernel_rfl)) (fun _ _ _ h=>h) (Or.inr ⟨by rfl,rfl⟩) ?_ ?_
      rotate_left
      · simp only [Act.put,List.setIfInBounds_toArray,List.set_cons_zero,List.set_cons_succ,i64_w,i32_w];rfl
      refine pure_ (i:=13) (N:=some 23) (v:=undef) (a':=?_) (zqb 25 16383) rfl rfl (any_of HT_.out (by kernel_rfl)) (fun _ _ _ h=>h) (Or.inr ⟨by rfl,rfl⟩) ?_ ?_
      rotate_left
      · simp only [Act.put,List.setIfInBounds_toArray,List.set_cons_zero,List.set_cons_succ,i64_w,i32_w];rfl
      refine pure_ (i:=14) (N:=some 24) (v:=undef) (a':=?_) (zqb 25 32767) rfl rfl (any_of HT_.out (by kernel_rfl)) (fun _ _ _ h=>h) (Or.inr ⟨by rfl,rfl⟩) ?_ ?_
      rotate_left
      · simp only [Act.put,List.setIfInBounds_toArray,List.set_cons_zero,List.set_cons_succ,i64_w,i32_w];rfl
      refine pure_ (i:=15) (N:=some 25) (v:=undef) (a':=?_) (zqb 25 65535) rfl rfl (any_of HT_.out (by kernel_rfl)) (fun _ _ _ h=>h) (Or.inr ⟨by rfl,rfl⟩) ?_ ?_
      rotate_left
      · simp only [Act.put,List.setIfInBounds_toArray,List.set_cons_zero,List.set_cons_succ,i64_w,i32_w];rfl
      refine pure_ (i:=16) (N:=some 26) (v:=undef) (a':=?_) (zqb 25 131071) rfl rfl (any_of HT_.out (by kernel_rfl)) (fun _ _ _ h=>h) (Or.inr ⟨by rfl,rfl⟩) ?_ ?_
      rotate_left
      · simp only [Act.put,List.setIfInBounds_toArray,List.set_cons_zero,List.set_cons_succ,i64_w,i32_w];rfl
      refine pure_ (i:=17) (N:=some 27) (v:=undef) (a':=?_) (zqb 25 262143) rfl rfl (any_of HT_.out (by kernel_rfl)) (fun _ _ _ h=>h) (Or.inr ⟨by rfl,rfl⟩) ?_ ?_
      rotate_left
      · simp only [Act.put,List.setIfInBounds_toArray,List.set_cons_zero,List.set_cons_succ,i64_w,i32_w];rfl
      refine pure_ (i:=18) (N:=some 28) (v:=undef) (a':=?_) (zqb 25 524287) rfl rfl (any_of HT_.out (by kernel_rfl)) (fun _ _ _ h=>h) (Or.inr ⟨by rfl,rfl⟩) ?_ ?_
      rotate_left
      · simp only [Act.put,List.setIfInBounds_toArray,List.set_cons_zero,List.set_cons_succ,i64_w,i32_w];rfl
      refine pure_ (i:=19) (N:=some 29) (v:=undef) (a':=?_) (zqb 25 1048575) rfl rfl (any_of HT_.out (by kernel_rfl)) (fun _ _ _ h=>h) (Or.inr ⟨by rfl,rfl⟩) ?_ ?_
      rotate_left
      · simp only [Act.put,List.setIfInBounds_toArray,List.set_cons_zero,List.set_cons_succ,i64_w,i32_w];rfl
      refine pure_ (i:=20) (N:=some 30) (v:=undef) (a':=?_) (zqb 25 2097151) rfl rfl (any_of HT_.out (by kernel_rfl)) (fun _ _ _ h=>h) (Or.inr ⟨by rfl,rfl⟩) ?_ ?_
      rotate_left
      · simp only [Act.put,List.setIfInBounds_toArray,List.set_cons_zero,List.set_cons_succ,i64_w,i32_w];rfl
      refine pure_ (i:=21) (N:=some 31) (v:=undef) (a':=?_) (zqb 25 4194303) rfl rfl (any_of HT_.out (by kernel_rfl)) (fun _ _ _ h=>h) (Or.inr ⟨by rfl,rfl⟩) ?_ ?_
      rotate_left
      · simp only [Act.put,List.setIfInBounds_toArray,List.set_cons_zero,List.set_cons_succ,i64_w,i32_w];rfl
      refine pure_ (i:=22) (N:=some 32) (v:=undef) (a':=?_) (zqb 25 8388607) rfl rfl (any_of HT_.out (by kernel_rfl)) (fun _ _ _ h=>h) (Or.inr ⟨by rfl,rfl⟩) ?_ ?_
      rotate_left
      · simp only [Act.put,List.setIfInBounds_toArray,List.set_cons_zero,List.set_cons_succ,i64_w,i32_w];rfl
      refine pure_ (i:=23) (N:=some 33) (v:=?_) (a':=?_) (zqb 25 16777215) rfl rfl (any_of HT_.out (by kernel_rfl)) (fun _ _ _ h=>h) (Or.inl ⟨by rfl,?_⟩) ?_ ?_
      rotate_left
      · intro w';go_simp;with_reducible rfl
      rotate_left
      · simp only [Act.put,List.setIfInBounds_toArray,List.set_cons_zero,List.set_cons_succ,i64_w,i32_w];rfl
      refine pure_ (i:=24) (N:=some 6) (v:=?_) (a':=?_) (zqb 25 33554431) rfl rfl (any_of HT_.out (by kernel_rfl)) (fun _ _ _ h=>h) (Or.inl ⟨by rfl,?_⟩) ?_ ?_
      rotate_left
      · intro w';go_simp;with_reducible rfl
      rotate_left
      · simp only [Act.put,List.setIfInBounds_toArray,List.set_cons_zero,List.set_cons_succ,i64_w,i32_w];rfl
      refine done_ (done_of HT_.out (by kernel_rfl)) ?_
      go_wp2
      go_ret
      exact⟨rfl,HB4.out⟩
    | true =>
      rw [hL,hin] at h
      have hr_:(at2 l0_0 a1.toNat (notI l0_1 a2).toNat==1)=r:=by simpa using h
      subst hr_
      have HIN:=Aside0.mk hin
      have hin2:=hin
      simp only [List.all_cons,List.all_nil,Bool.and_true,Bool.and_eq_true,inR_iff] at hin2
      have Ia1:=Aside0.mk hin2.1
      have Ia2:=Aside0.mk hin2.2
      clear h hL hin hin2
      have b0_:=eq_true Ia2.out.1;have c0_:=eq_true Ia2.out.2
      have b3_:=eq_true Ia1.out.1;have c3_:=eq_true Ia1.out.2
      have IN1_:=Aside0.mk (HLg.out.in_not Ia2.out)
      have b4_:=eq_true IN1_.out.1;have c4_:=eq_true IN1_.out.2
      go_enter Try.func28,Try.ntmps28
      go_wp2_with (first|((with_reducible refine gate_dst (N:=3) rfl ?_);refine box_event ?hg (N:=3) ?hd (cs:= #[.slice A0_0 l0_0.length c0_0,.slice A0_1 l0_1.length c0_1]) (t:=30) ?hr ?_;(case hd=>rfl);(case hg=>rfl);(case hr=>first|(go_simp;done)|(go_simp;rfl));intro gb hg_ w1 hbox hb;have HB:=Aside0.mk hb;have hx0:w1.cell? ⟨gb,0,none⟩=some (.slice A0_0 l0_0.length c0_0):=(blk_cell hbox 0).trans rfl;have hx1:w1.cell? ⟨gb,1,none⟩=some (.slice A0_1 l0_1.length c0_1):=(blk_cell hbox 1).trans rfl;have HX:=Aside0.mk hbox;clear hbox hb hg_)|(go_at_call 77;(with_reducible refine(told_y k _ _ l0_0 _ _ l0_1 _ ?s1 ?s2 ?s3 ?s4 HF.out HLB.out).mono ?_);(case s1=>exact Kd.C_below HR0.out HB.out);(case s2=>exact HC0.out);(case s3=>exact Kd.C_below HR1.out HB.out);(case s4=>exact HC1.out);rintro e w2 ⟨g,v,rfl,hv,hge,hb⟩;have HB2:=Aside0.mk (below_step HB.out hb);have HV:=Aside0.mk hv;clear hv hge hb hx0 hx1 HX HB))
      have HB3:=Aside0.mk (below_drew1 HB2.out)
      have HV3:=Aside0.mk (View.below HV.out (below_drew1 (Below.refl _ _)))
      refine start_ (n:=25) (S:=(fun w'=>w'.cell? ⟨g,0,none⟩=some (.slice (some v.aU) l0_0.length v.cU)∧w'.cell? (v.aU.add a1.toNat)=some (.slice (some (v.rU a1.toNat)) l0_0.length (v.qU a1.toNat))∧w'.cell? ⟨g,3,none⟩=some (.slice (some v.aN) l0_0.length v.cN)∧w'.cell? (v.aN.add a2.toNat)=some (.int .i64 (notI l0_1 a2))∧w'.cell? ((v.rU a1.toNat).add (notI l0_1 a2).toNat)=some (.int .i64 (at2 l0_0 a1.toNat (notI l0_1 a2).toNat)))) (ds:= []) (zqb 25 0) (by kernel_rfl) rfl rfl ⟨HV3.out.f0,HV3.out.u a1 Ia1.out,HV3.out.f3,HV3.out.n a2 Ia2.out,HV3.out.u2 a1 (notI l0_1 a2) Ia1.out (HLg.out.in_not Ia2.out)⟩ (fun hHeld=>?_)
      refine with_tabW impl_ApartOk.tab2 impl_ApartOk.bits2 (fun HT_ HW_=>?_)
      generalize w2.drew=w3 at hHeld HB3 HV3 ⊢
      refine pure_ (i:=0) (N:=some 10) (v:=?_) (a':=?_) (zqb 25 1) rfl rfl (any_of HT_.out (by kernel_rfl)) (fun _ _ _ h=>h) (Or.inl ⟨by rfl,?_⟩) ?_ ?_
      rotate_left
      · intro w';go_simp;with_reducible rfl
      rotate_left
      · simp only [Act.put,List.setIfInBounds_toArray,List.set_cons_zero,List.set_cons_succ,i64_w,i32_w];rfl
      refine pure_ (i:=1) (N:=some 11) (v:=?_) (a':=?_) (zqb 25 3) rfl rfl (any_of HT_.out (by kernel_rfl)) (fun _ _ _ h=>h) (Or.inl ⟨by rfl,?_⟩) ?_ ?_
      rotate_left
      · intro w';go_simp;with_reducible rfl
      rotate_left
      · simp only [Act.put,List.setIfInBounds_toArray,List.set_cons_zero,List.set_cons_succ,i64_w,i32_w];rfl
      refine pure_ (i:=2) (N:=some 12) (v:=?_) (a':=?_) (zqb 25 7) rfl rfl (any_of HT_.out (by kernel_rfl)) (fun _ _ _ h=>h) (Or.inl ⟨by rfl,?_⟩) ?_ ?_
      rotate_left
      · intro w';go_simp;with_reducible rfl
      rotate_left
      · simp only [Act.put,List.setIfInBounds_toArray,List.set_cons_zero,List.set_cons_succ,i64_w,i32_w];rfl
      refine one_ (i:=3) (N:=some 13) (zqb 25 15) rfl rfl (one_of HT_.out (by kernel_rfl)) (by decide) (fun K hK=>?_)
      refine event_step (w1:=World.alloc w3 (.cells #[.int .i64 a1,.int .i64 a2] 3)) (v:= .slice (some ⟨w3.heap.size,0,none⟩) 2 2) (by rfl) ?hr1 ?_
      case hr1=>first|(go_simp;done)|(go_simp;rfl)
      refine hK.out _ _ ⟨(View.alloc HV3.out _).f0,(View.alloc HV3.out _).u a1 Ia1.out,(View.alloc HV3.out _).f3,(View.alloc HV3.out _).n a2 Ia2.out,(View.alloc HV3.out _).u2 a1 (notI l0_1 a2) Ia1.out (HLg.out.in_not Ia2.out)⟩ (fun hHeld4=>?_)
      clear hK K
      refine norm_ (a':=?_) ?_ ?_
      rotate_left
      · show Act.put _ (some 13) _ = _
        simp only [Act.put,List.setIfInBounds_toArray,List.set_cons_zero,List.set_cons_succ,i64_w,i32_w]
        rfl
      refine one_ (i:=4) (N:=some 14) (zqb 25 31) rfl rfl (one_of HT_.out (by kernel_rfl)) (by decide) (fun K hK=>?_)
      refine goes_ Try.func78 (by kernel_rfl) rfl #[.pointer (some ⟨g,0,none⟩),.slice (some ⟨w3.heap.size,0,none⟩) 2 2] (by rfl) rfl rfl zq324 ?_
      refine(knows_calls g l0_0 l0_1 v _ HLg.out (View.alloc HV3.out _) _ _ [a1,a2] 2 rfl (lit_C _ _ [a1,a2] (by simp)) (by omega) true HIN.out).mono ?_
      rintro e w4 ⟨rfl,hb⟩
      refine⟨_,rfl,?_⟩
      have HB4:=Aside0.mk (below_step (below_alloc HB3.out _) hb)
      have HV4:=Aside0.mk (View.below (View.alloc HV3.out _) hb)
      refine hK.out _ _ ⟨HV4.out.f0,HV4.out.u a1 Ia1.out,HV4.out.f3,HV4.out.n a2 Ia2.out,HV4.out.u2 a1 (notI l0_1 a2) Ia1.out (HLg.out.in_not Ia2.out)⟩ (fun hHeld5=>?_)
      clear hK K hb
      refine norm_ (a':=?_) ?_ ?_
      rotate_left
      · show Act.put _ (some 14) _ = _
        simp only [Act.put,List.setIfInBounds_toArray,List.set_cons_zero,List.set_cons_succ,i64_w,i32_w]
        rfl
      refine pure_ (i:=5) (N:=some 15) (v:=?_) (a':=?_) (zqb 25 63) rfl rfl (any_of HT_.out (by kernel_rfl)) (fun _ _ _ h=>h) (Or.inl ⟨by rfl,?_⟩) ?_ ?_
      rotate_left
      · intro w';go_simp;with_reducible rfl
      rotate_left
      · simp only [Act.put,List.setIfInBounds_toArray,List.set_cons_zero,List.set_cons_succ,i64_w,i32_w];rfl
      refine pure_ (i:=6) (N:=some 16) (v:=?_) (a':=?_) (zqb 25 127) rfl rfl (any_of HT_.out (by kernel_rfl)) (fun _ _ _ h=>h) (Or.inl ⟨by rfl,?_⟩) ?_ ?_
      rotate_left
      · intro w';go_simp;with_reducible rfl
      rotate_left
      · simp only [Act.put,List.setIfInBounds_toArray,List.set_cons_zero,List.set_cons_succ,i64_w,i32_w];rfl
      refine pure_ (i:=7) (N:=some 17) (v:=?_) (a':=?_) (zqb 25 255) rfl rfl (any_of HT_.out (by kernel_rfl)) (fun _ _ _ h=>h) (Or.inl ⟨by rfl,?_⟩) ?_ ?_
      rotate_left
      · intro w';go_simp;with_reducible rfl
      rotate_left
      · simp only [Act.put,List.setIfInBounds_toArray,List.set_cons_zero,List.set_cons_succ,i64_w,i32_w];rfl
      refine pure_ (i:=8) (N:=some 18) (v:=?_) (a':=?_) (zqb 25 511) rfl rfl (any_of HT_.out (by kernel_rfl)) (fun _ _ _ h=>h) (Or.inl ⟨by rfl,?_⟩) ?_ ?_
      rotate_left
      · intro w';go_simp;with_reducible rfl
      rotate_left
      · simp only [Act.put,List.setIfInBounds_toArray,List.set_cons_zero,List.set_cons_succ,i64_w,i32_w];rfl
      refine take_ (i:=9) (N:=some 19) (v:=?_) (a':=?_) (zqb 25 1023) rfl rfl (take_ofW HT_.out HW_.out (by kernel_rfl)) (fun _ _ _ h=>h) (Or.inl ⟨by rfl,?_⟩) hHeld5 ?_ ?_
      rotate_left
      · rintro w' ⟨t0,t1,t2,t3,t4⟩;go_simp;with_reducible rfl
      rotate_left
      · simp only [Act.put,List.setIfInBounds_toArray,List.set_cons_zero,List.set_cons_succ,i64_w,i32_w];rfl
      refine pure_ (i:=10) (N:=some 20) (v:=?_) (a':=?_) (zqb 25 2047) rfl rfl (any_of HT_.out (by kernel_rfl)) (fun _ _ _ h=>h) (Or.inl ⟨by rfl,?_⟩) ?_ ?_
      rotate_left
      · intro w';go_simp;with_reducible rfl
      rotate_left
      · simp only [Act.put,List.setIfInBounds_toArray,List.set_cons_zero,List.set_cons_succ,i64_w,i32_w];rfl
      refine pure_ (i:=11) (N:=some 21) (v:=?_) (a':=?_) (zqb 25 4095) rfl rfl (any_of HT_.out (by kernel_rfl)) (fun _ _ _ h=>h) (Or.inl ⟨by rfl,?_⟩) ?_ ?_
      rotate_left
      · intro w';go_simp;with_reducible rfl
      rotate_left
      · simp only [Act.put,List.setIfInBounds_toArray,List.set_cons_zero,List.set_cons_succ,i64_w,i32_w];rfl
      refine take_ (i:=12) (N:=some 22) (v:=?_) (a':=?_) (zqb 25 8191) rfl rfl (take_ofW HT_.out HW_.out (by kernel_rfl)) (fun _ _ _ h=>h) (Or.inl ⟨by rfl,?_⟩) hHeld5 ?_ ?_
      rotate_left
      · rintro w' ⟨t0,t1,t2,t3,t4⟩;go_simp;with_reducible rfl
      rotate_left
      · simp only [Act.put,List.setIfInBounds_toArray,List.set_cons_zero,List.set_cons_succ,i64_w,i32_w];rfl
      refine pure_ (i:=13) (N:=some 23) (v:=?_) (a':=?_) (zqb 25 16383) rfl rfl (any_of HT_.out (by kernel_rfl)) (fun _ _ _ h=>h) (Or.inl ⟨by rfl,?_⟩) ?_ ?_
      rotate_left
      · intro w';go_simp;with_reducible rfl
      rotate_left
      · simp only [Act.put,List.setIfInBounds_toArray,List.set_cons_zero,List.set_cons_succ,i64_w,i32_w];rfl
      refine pure_ (i:=14) (N:=some 24) (v:=?_) (a':=?_) (zqb 25 32767) rfl rfl (any_of HT_.out (by kernel_rfl)) (fun _ _ _ h=>h) (Or.inl ⟨by rfl,?_⟩) ?_ ?_
      rotate_left
      · intro w';go_simp;with_reducible rfl
      rotate_left
      · simp only [Act.put,List.setIfInBounds_toArray,List.set_cons_zero,List.set_cons_succ,i64_w,i32_w];rfl
      refine pure_ (i:=15) (N:=some 25) (v:=?_) (a':=?_) (zqb 25 65535) rfl rfl (any_of HT_.out (by kernel_rfl)) (fun _ _ _ h=>h) (Or.inl ⟨by rfl,?_⟩) ?_ ?_
      rotate_left
      · intro w';go_simp;with_reducible rfl
      rotate_left
      · simp only [Act.put,List.setIfInBounds_toArray,List.set_cons_zero,List.set_cons_succ,i64_w,i32_w];rfl
      refine take_ (i:=16) (N:=some 26) (v:=?_) (a':=?_) (zqb 25 131071) rfl rfl (take_ofW HT_.out HW_.out (by kernel_rfl)) (fun _ _ _ h=>h) (Or.inl ⟨by rfl,?_⟩) hHeld5 ?_ ?_
      rotate_left
      · rintro w' ⟨t0,t1,t2,t3,t4⟩;go_simp;with_reducible rfl
      rotate_left
      · simp only [Act.put,List.setIfInBounds_toArray,List.set_cons_zero,List.set_cons_succ,i64_w,i32_w];rfl
      refine pure_ (i:=17) (N:=some 27) (v:=?_) (a':=?_) (zqb 25 262143) rfl rfl (any_of HT_.out (by kernel_rfl)) (fun _ _ _ h=>h) (Or.inl ⟨by rfl,?_⟩) ?_ ?_
      rotate_left
      · intro w';go_simp;with_reducible rfl
      rotate_left
      · simp only [Act.put,List.setIfInBounds_toArray,List.set_cons_zero,List.set_cons_succ,i64_w,i32_w];rfl
      refine pure_ (i:=18) (N:=some 28) (v:=?_) (a':=?_) (zqb 25 524287) rfl rfl (any_of HT_.out (by kernel_rfl)) (fun _ _ _ h=>h) (Or.inl ⟨by rfl,?_⟩) ?_ ?_
      rotate_left
      · intro w';go_simp;with_reducible rfl
      rotate_left
      · simp only [Act.put,List.setIfInBounds_toArray,List.set_cons_zero,List.set_cons_succ,i64_w,i32_w];rfl
      refine take_ (i:=19) (N:=some 29) (v:=?_) (a':=?_) (zqb 25 1048575) rfl rfl (take_ofW HT_.out HW_.out (by kernel_rfl)) (fun _ _ _ h=>h) (Or.inl ⟨by rfl,?_⟩) hHeld5 ?_ ?_
      rotate_left
      · rintro w' ⟨t0,t1,t2,t3,t4⟩;go_simp;with_reducible rfl
      rotate_left
      · simp only [Act.put,List.setIfInBounds_toArray,List.set_cons_zero,List.set_cons_succ,i64_w,i32_w];rfl
      refine pure_ (i:=20) (N:=some 30) (v:=?_) (a':=?_) (zqb 25 2097151) rfl rfl (any_of HT_.out (by kernel_rfl)) (fun _ _ _ h=>h) (Or.inl ⟨by rfl,?_⟩) ?_ ?_
      rotate_left
      · intro w';go_simp;with_reducible rfl
      rotate_left
      · simp only [Act.put,List.setIfInBounds_toArray,List.set_cons_zero,List.set_cons_succ,i64_w,i32_w];rfl
      refine take_ (i:=21) (N:=some 31) (v:=?_) (a':=?_) (zqb 25 4194303) rfl rfl (take_ofW HT_.out HW_.out (by kernel_rfl)) (fun _ _ _ h=>h) (Or.inl ⟨by rfl,?_⟩) hHeld5 ?_ ?_
      rotate_left
      · rintro w' ⟨t0,t1,t2,t3,t4⟩;go_simp;with_reducible rfl
      rotate_left
      · simp only [Act.put,List.setIfInBounds_toArray,List.set_cons_zero,List.set_cons_succ,i64_w,i32_w];rfl
      refine pure_ (i:=22) (N:=some 32) (v:=?_) (a':=?_) (zqb 25 8388607) rfl rfl (any_of HT_.out (by kernel_rfl)) (fun _ _ _ h=>h) (Or.inl ⟨by rfl,?_⟩) ?_ ?_
      rotate_left
      · intro w';go_simp;with_reducible rfl
      rotate_left
      · simp only [Act.put,List.setIfInBounds_toArray,List.set_cons_zero,List.set_cons_succ,i64_w,i32_w];rfl
      refine pure_ (i:=23) (N:=some 33) (v:=?_) (a':=?_) (zqb 25 16777215) rfl rfl (any_of HT_.out (by kernel_rfl)) (fun _ _ _ h=>h) (Or.inl ⟨by rfl,?_⟩) ?_ ?_
      rotate_left
      · intro w';go_simp;with_reducible rfl
      rotate_left
      · simp only [Act.put,List.setIfInBounds_toArray,List.set_cons_zero,List.set_cons_succ,i64_w,i32_w];rfl
      refine pure_ (i:=24) (N:=some 6) (v:=?_) (a':=?_) (zqb 25 33554431) rfl rfl (any_of HT_.out (by kernel_rfl)) (fun _ _ _ h=>h) (Or.inl ⟨by rfl,?_⟩) ?_ ?_
      rotate_left
      · intro w';go_simp;with_reducible rfl
      rotate_left
      · simp only [Act.put,List.setIfInBounds_toArray,List.set_cons_zero,List.set_cons_succ,i64_w,i32_w];rfl
      refine done_ (done_of HT_.out (by kernel_rfl)) ?_
      go_wp2
      go_ret
      exact⟨rfl,HB4.out⟩
end Go.Proofs.Ytdoomkcgdcfmlaa.Print
end
section
namespace Go.Proofs.Ytdoomkcgdcfmlaa.Print
open Go.RowKit Go.Proofs.YtdoomkcgdcfmlaaW.PrintWords Go.Proofs.YtdoomkcgdcfmlaaW.PrintLast Go.Proofs.YtdoomkcgdcfmlaaW.PrintMore
mutual
def spec_KeepsOk.l0 : Nat → Int → List (List Int) → List Int → Option (Bool)
 | 0, _, _, _ => none
 | k + 1, x3, x610000, x610001 => if x3 < (x610001.length : Int) then ((spec_LogicOk.f k x610000 x610001).bind fun t610 => (spec_KeepsOk.j1 k x3 t610 x610000 x610001)) else (spec_KeepsOk.j1 k x3 false x610000 x610001)
def spec_KeepsOk.j1 : Nat → Int → Bool → List (List Int) → List Int → Option (Bool)
 | 0, _, _, _, _ => none
 | k + 1, x3, x13, x610000, x610001 => if x13 = true then (spec_KeepsOk.l1 k x3 0 x610000 x610001) else ((spec_LogicOk.f k x610000 x610001).bind fun t611 => (some t611))
def spec_KeepsOk.l1 : Nat → Int → Int → List (List Int) → List Int → Option (Bool)
 | 0, _, _, _, _ => none
 | k + 1, x3, x4, x610000, x610001 => if x4 < (x610001.length : Int) then (if 0 ≤ x3 then (if x3 < (x610000.length : Int) then (if 0 ≤ x4 then (if x4 < ((rd_L3 x610000 x3).length : Int) then (if (rd (rd_L3 x610000 x3) x4) = 1 then (if x3 < (x610001.length : Int) then ((spec_l1Meet.f k x610000 x4 (rd x610001 x3)).bind fun t615 => ((spec_l1Join.f k x610000 x3 t615).bind fun t616 => (if t616 = x4 then (spec_KeepsOk.l1 k x3 (wrap64 (x4 + 1)) x610000 x610001) else (some false)))) else (none)) else (spec_KeepsOk.l1 k x3 (wrap64 (x4 + 1)) x610000 x610001)) else (none)) else (none)) else (none)) else (none)) else (spec_KeepsOk.l0 k (wrap64 (x3 + 1)) x610000 x610001)
end
def spec_KeepsOk.f (k : Nat) (l0_0 : List (List Int)) (l0_1 : List Int) : Option (Bool) := spec_KeepsOk.l0 k 0 l0_0 l0_1
set_option maxHeartbeats 8000000 in
set_option maxRecDepth 100000 in
theorem spec_KeepsOk.calls (k : Nat) (A0_0 : Option Addr) (c0_0 : Nat) (l0_0 : List (List Int)) (A0_1 : Option Addr) (c0_1 : Nat) (l0_1 : List Int) (r : Bool) (w : World) (hr0_0 : Kd.C (Kd.slice 3 (Kd.int .i64)) w A0_0 l0_0.length l0_0) (hc0_0 : l0_0.length ≤ c0_0) (hr0_1 : Kd.C (Kd.int .i64) w A0_1 l0_1.length l0_1) (hc0_1 : l0_1.length ≤ c0_1) (h : spec_KeepsOk.f k l0_0 l0_1 = some r) :
  Calls Try.prog 22 #[.agg #[.slice A0_0 l0_0.length c0_0, .slice A0_1 l0_1.length c0_1]] w fun e w' => e = .returned (.bool r) ∧ Below w.heap.size w w' := by
 have hu30:=Try.underlying30;have a5:=zqm hr0_0;have a6:=zqm hc0_0;clear hr0_0 hc0_0;have b8:=zqm hr0_1;have c0:=zqm hc0_1;clear hr0_1 hc0_1;have HB:=zqm (Below.refl w.heap.size w);have H:(spec_KeepsOk.l0 k 0 l0_0 l0_1)=some r:=h;clear h;have H':=zqm H;clear H
 go_enter Try.func22,Try.ntmps22
 go_wp2_with (first|((with_reducible refine gate_dst (N:=1) rfl ?_);refine box_event ?hg (N:=1) ?hd (cs:= #[.slice A0_0 l0_0.length c0_0,.slice A0_1 l0_1.length c0_1]) (t:=30) ?hr ?_;(case hd=>rfl);(case hg=>rfl);(case hr=>first|(go_simp;done)|(go_simp;rfl));intro a3 hg w2 hbox hb;have c7:=zqm (below_step zq0 hb);have a0:=zqm (hbox);have f4:=zqm ((by rw [hg];exact(below_size zq0):w.heap.size≤a3));have a4:=zqm ((by rw [hg];exact(below_size zq0):w.heap.size≤a3));clear HB;have HB:=c7;clear c7 hb hbox hg))
 repeat(go_quiet (first|((with_reducible refine gate_dst (N:=1) rfl ?_);refine box_event ?hg (N:=1) ?hd (cs:= #[.slice A0_0 l0_0.length c0_0,.slice A0_1 l0_1.length c0_1]) (t:=30) ?hr ?_;(case hd=>rfl);(case hg=>rfl);(case hr=>first|(go_simp;done)|(go_simp;rfl));intro a3 hg w2 hbox hb;have c7:=zqm (below_step zq0 hb);have a0:=zqm (hbox);have f4:=zqm ((by rw [hg];exact(below_size zq0):w.heap.size≤a3));have a4:=zqm ((by rw [hg];exact(below_size zq0):w.heap.size≤a3));clear HB;have HB:=c7;clear c7 hb hbox hg));try go_wp2_with (first|((with_reducible refine gate_dst (N:=1) rfl ?_);refine box_event ?hg (N:=1) ?hd (cs:= #[.slice A0_0 l0_0.length c0_0,.slice A0_1 l0_1.length c0_1]) (t:=30) ?hr ?_;(case hd=>rfl);(case hg=>rfl);(case hr=>first|(go_simp;done)|(go_simp;rfl));intro a3 hg w2 hbox hb;have c7:=zqm (below_step zq0 hb);have a0:=zqm (hbox);have f4:=zqm ((by rw [hg];exact(below_size zq0):w.heap.size≤a3));have a4:=zqm ((by rw [hg];exact(below_size zq0):w.heap.size≤a3));clear HB;have HB:=c7;clear c7 hb hbox hg)))
 go_loopg [3] k (fun kq v3 w'=> ∃(a1:Int),v3= .int .i64 a1∧Aside0 (spec_KeepsOk.l0 kq a1 l0_0 l0_1=some r)∧Aside0 (kq≤k)∧Aside0 (w'.heap[a3]? =some (.cells #[(.slice A0_0 l0_0.length c0_0),(.slice A0_1 l0_1.length c0_1)] 30 (0,0)))∧Aside0 (Below w.heap.size w w'))
 case atStart=>exact⟨(0),(by first|rfl|(simp;done)|(simp [*];done)),H',⟨Nat.le_refl _⟩,⟨zq2⟩,⟨zq8⟩⟩
 case round=>
  clear H';(try clear c2);(try clear p2);obtain⟨a1,rfl,HA,c8,a0,HB⟩:=hrel
  cases gk with
  |zero=>exact absurd HA.out (by simp [spec_KeepsOk.l0])
  |succ k1=>
   have H:=HA.out;clear HA;simp only [spec_KeepsOk.l0] at H;have g2:=zqm H;clear H
   go_upto_region 2 with (fail)
   repeat(go_quiet (fail);go_upto_region 2 with (fail))
   go_cut [13] (fun j6 wc=> ∃(kq:Nat) (d0:Bool),j6= .bool d0∧Aside0 (spec_KeepsOk.j1 kq a1 d0 l0_0 l0_1=some r)∧Aside0 (kq≤k1)∧Aside0 (wc.heap[a3]? =some (.cells #[(.slice A0_0 l0_0.length c0_0),(.slice A0_1 l0_1.length c0_1)] 30 (0,0)))∧Aside0 (Below w.heap.size w wc))
   case first=>
    have H:=g2.out;clear g2
    by_cases c4:a1<(l0_1.length:Int)
    ·rw [if_pos c4] at H;have c1:decide (a1<(l0_1.length:Int))=true:=decide_eq_true c4;clear c4;(first|rw [c1]|(simp only [i64_w,i32_w];rw [c1])|skip);replace H:=Option.bind_eq_some_iff.mp H;obtain⟨d1,h3,H⟩:=H;replace H:(spec_KeepsOk.j1 k1 a1 d1 l0_0 l0_1)=some r:=H;have A5:=zqm h3;clear h3;have H':=zqm H;clear H;have e3:wr.cell? ⟨a3,0,none⟩=some (.slice A0_0 l0_0.length c0_0):=(blk_cell a0.out 0).trans rfl;have e4:wr.cell? ⟨a3,1,none⟩=some (.slice A0_1 l0_1.length c0_1):=(blk_cell a0.out 1).trans rfl;have e5:=blk_frozen a0.out 0;have e6:=blk_frozen a0.out 1
     go_wp2_with (first|(go_at_call 42;(with_reducible refine(spec_LogicOk.calls k1 _ _ l0_0 _ _ l0_1 d1 _ ?side1 ?side2 ?side3 ?side4 A5.out).mono ?_);(case side1=> exact zq38);(case side2=>exact a6.out);(case side3=> exact zq127);(case side4=>exact c0.out);rintro e w7 ⟨rfl,hb⟩;replace a0:=zqm (blk_below (g:=a3) (o:= .cells #[.slice A0_0 l0_0.length c0_0,.slice A0_1 l0_1.length c0_1] 30 (0,0)) zq2 hb);replace HB:=zqm (below_step zq8 hb);clear hb))
     repeat(go_quiet (first|(go_at_call 42;(with_reducible refine(spec_LogicOk.calls k1 _ _ l0_0 _ _ l0_1 d1 _ ?side1 ?side2 ?side3 ?side4 A5.out).mono ?_);(case side1=> exact zq38);(case side2=>exact a6.out);(case side3=> exact zq127);(case side4=>exact c0.out);rintro e w7 ⟨rfl,hb⟩;replace a0:=zqm (blk_below (g:=a3) (o:= .cells #[.slice A0_0 l0_0.length c0_0,.slice A0_1 l0_1.length c0_1] 30 (0,0)) zq2 hb);replace HB:=zqm (below_step zq8 hb);clear hb));try go_wp2_with (first|(go_at_call 42;(with_reducible refine(spec_LogicOk.calls k1 _ _ l0_0 _ _ l0_1 d1 _ ?side1 ?side2 ?side3 ?side4 A5.out).mono ?_);(case side1=> exact zq38);(case side2=>exact a6.out);(case side3=> exact zq127);(case side4=>exact c0.out);rintro e w7 ⟨rfl,hb⟩;replace a0:=zqm (blk_below (g:=a3) (o:= .cells #[.slice A0_0 l0_0.length c0_0,.slice A0_1 l0_1.length c0_1] 30 (0,0)) zq2 hb);replace HB:=zqm (below_step zq8 hb);clear hb)))
     go_meet
     case rel=>exact⟨_,(d1),(by first|rfl|(simp;done)|(simp [*];done)),H',⟨by have:=c8.out;first|omega|exact Nat.le_refl _⟩,⟨zq2⟩,⟨zq8⟩⟩
    ·rw [if_neg c4] at H;have c1:decide (a1<(l0_1.length:Int))=false:=decide_eq_false c4;clear c4;(first|rw [c1]|(simp only [i64_w,i32_w];rw [c1])|skip);have H':=zqm H;clear H;have e7:wr.cell? ⟨a3,0,none⟩=some (.slice A0_0 l0_0.length c0_0):=(blk_cell a0.out 0).trans rfl;have e8:wr.cell? ⟨a3,1,none⟩=some (.slice A0_1 l0_1.length c0_1):=(blk_cell a0.out 1).trans rfl;have e9:=blk_frozen a0.out 0;have f0:=blk_frozen a0.out 1
     go_wp2
     repeat(go_quiet (fail);try go_wp2)
     go_meet
     case rel=>exact⟨_,(false),(by first|rfl|(simp;done)|(simp [*];done)),H',⟨by have:=c8.out;first|omega|exact Nat.le_refl _⟩,⟨zq2⟩,⟨zq8⟩⟩
   case rest=>
    clear g2;(try clear c2);(try clear p2);(try clear c4);(try clear c1);(try clear e3);(try clear e4);(try clear e7);(try clear e8);(try clear e5);(try clear e6);(try clear e9);(try clear f0);(try clear p2);obtain⟨kq,d0,rfl,HA,d7,a0,HB⟩:=hcut
    cases kq with
    |zero=>exact absurd HA.out (by simp [spec_KeepsOk.j1])
    |succ d2=>
     have H:=HA.out;clear HA;simp only [spec_KeepsOk.j1] at H
     by_cases c9:d0=true
     ·subst c9;(have H1:(spec_KeepsOk.l1 d2 a1 0 l0_0 l0_1)=some r:=by rw [if_pos rfl] at H;exact H);clear H;have H:=H1;clear H1;have H':=zqm H;clear H
      go_wp2
      repeat(go_quiet (fail);try go_wp2)
      go_loopg [4] d2 (fun kq v4 w'=> ∃(a2:Int),v4= .int .i64 a2∧Aside0 (spec_KeepsOk.l1 kq a1 a2 l0_0 l0_1=some r)∧Aside0 (kq≤d2)∧Aside0 (w'.heap[a3]? =some (.cells #[(.slice A0_0 l0_0.length c0_0),(.slice A0_1 l0_1.length c0_1)] 30 (0,0)))∧Aside0 (Below w.heap.size w w'))
      case atStart=>exact⟨(0),(by first|rfl|(simp;done)|(simp [*];done)),H',⟨Nat.le_refl _⟩,⟨zq2⟩,⟨zq8⟩⟩
      case round=>
       clear H';(try clear c2);(try clear p2);(try clear c4);(try clear c1);(try clear c9);(try clear e3);(try clear e4);(try clear e7);(try clear e8);(try clear e5);(try clear e6);(try clear e9);(try clear f0);(try clear p2);obtain⟨a2,rfl,HA,d8,a0,HB⟩:=hrel
       cases gk with
       |zero=>exact absurd HA.out (by simp [spec_KeepsOk.l1])
       |succ k3=>
        have H:=HA.out;clear HA;simp only [spec_KeepsOk.l1] at H
        by_cases d9:a2<(l0_1.length:Int)
        ·rw [if_pos d9] at H;have g7:decide (a2<(l0_1.length:Int))=true:=decide_eq_true d9;clear d9
         by_cases f5:0≤a1
         ·rw [if_pos f5] at H;have j7:decide (0≤a1)=true:=decide_eq_true f5;clear f5
          by_cases f6:a1<(l0_0.length:Int)
          ·rw [if_pos f6] at H;have j8:decide (a1<(l0_0.length:Int))=true:=decide_eq_true f6;clear f6
           by_cases f7:0≤a2
           ·rw [if_pos f7] at H;have j9:decide (0≤a2)=true:=decide_eq_true f7;clear f7
            by_cases f8:a2<((rd_L3 l0_0 a1).length:Int)
            ·rw [if_pos f8] at H;have k0:decide (a2<((rd_L3 l0_0 a1).length:Int))=true:=decide_eq_true f8;clear f8
             by_cases d3:(rd (rd_L3 l0_0 a1) a2)=1
             ·rw [if_pos d3] at H;have g8:((rd (rd_L3 l0_0 a1) a2)==1)=true:=beq_iff_eq.mpr d3;have g9:((rd (rd_L3 l0_0 a1) a2) !=1)=false:=bne_eq_false_iff_eq.mpr d3;clear d3
              by_cases f9:a1<(l0_1.length:Int)
              ·rw [if_pos f9] at H;have k2:decide (a1<(l0_1.length:Int))=true:=decide_eq_true f9;clear f9;replace H:=Option.bind_eq_some_iff.mp H;obtain⟨b2,g3,H⟩:=H;replace H:((spec_l1Join.f k3 l0_0 a1 b2).bind fun b1=>(if b1=a2 then(spec_KeepsOk.l1 k3 a1 (wrap64 (a2+1)) l0_0 l0_1) else(some false)))=some r:=H;have e0:=zqm g3;clear g3;replace H:=Option.bind_eq_some_iff.mp H;obtain⟨b1,g4,H⟩:=H;replace H:(if b1=a2 then(spec_KeepsOk.l1 k3 a1 (wrap64 (a2+1)) l0_0 l0_1) else(some false))=some r:=H;have e1:=zqm g4;clear g4
               by_cases d4:b1=a2
               ·rw [if_pos d4] at H;have h0:(b1==a2)=true:=beq_iff_eq.mpr d4;have h1:(b1 !=a2)=false:=bne_eq_false_iff_eq.mpr d4;clear d4;have H':=zqm H;clear H;have h5:wr.cell? ⟨a3,0,none⟩=some (.slice A0_0 l0_0.length c0_0):=(blk_cell a0.out 0).trans rfl;have h6:wr.cell? ⟨a3,1,none⟩=some (.slice A0_1 l0_1.length c0_1):=(blk_cell a0.out 1).trans rfl;have h7:=blk_frozen a0.out 0;have h8:=blk_frozen a0.out 1;have b4:0≤(a1:Int):=zqo;have b5:a1<(l0_0.length:Int):=zqo;obtain⟨g0,f1,f2,d5,a7,a9,b0⟩:=at_L3 a5.out a1 b4 b5
                cases d5
                replace a7:=(HB.out.cell (World.block_lt_of_cell? w _ a7)).trans a7;have b9:=zqm b0;have e2:=zqm a9;clear b0 a9;replace b4:=eq_true b4;replace b5:=eq_true b5;have b6:0≤(a2:Int):=zqo;have b7:a2<((rd_L3 l0_0 a1).length:Int):=zqo;obtain⟨g1,d6,a8⟩:=Kd.at_int b9.out a2 b6 b7
                cases d6
                replace a8:=(HB.out.cell (World.block_lt_of_cell? w _ a8)).trans a8;replace b6:=eq_true b6;replace b7:=eq_true b7;have c3:0≤(a1:Int):=zqo;have c5:a1<(l0_1.length:Int):=zqo;obtain⟨h2,f3,b3⟩:=Kd.at_int b8.out a1 c3 c5
                cases f3
                replace b3:=(HB.out.cell (World.block_lt_of_cell? w _ b3)).trans b3;replace c3:=eq_true c3;replace c5:=eq_true c5
                go_wp2_with (first|(go_at_call 81;(with_reducible refine(spec_l1Meet.calls k3 _ _ l0_0 a2 (rd l0_1 a1) b2 _ ?side1 ?side2 e0.out).mono ?_);(case side1=> exact zq38);(case side2=>exact a6.out);rintro e w' ⟨rfl,⟨nd,rfl⟩⟩;(try first|exact⟨rfl,_,World.drewN_drewN _ _ _⟩|exact⟨rfl,_,Eq.trans (World.drewN_drewN _ _ _) (congrArg (World.drewN _) (Nat.add_assoc _ _ _))⟩))|(go_at_call 82;(with_reducible refine(spec_l1Join.calls k3 _ _ l0_0 a1 b2 b1 _ ?side1 ?side2 e1.out).mono ?_);(case side1=> exact zq62);(case side2=>exact a6.out);rintro e w' ⟨rfl,⟨nd,rfl⟩⟩;(try first|exact⟨rfl,_,World.drewN_drewN _ _ _⟩|exact⟨rfl,_,Eq.trans (World.drewN_drewN _ _ _) (congrArg (World.drewN _) (Nat.add_assoc _ _ _))⟩)))
                repeat(go_quiet (first|(go_at_call 81;(with_reducible refine(spec_l1Meet.calls k3 _ _ l0_0 a2 (rd l0_1 a1) b2 _ ?side1 ?side2 e0.out).mono ?_);(case side1=> exact zq38);(case side2=>exact a6.out);rintro e w' ⟨rfl,⟨nd,rfl⟩⟩;(try first|exact⟨rfl,_,World.drewN_drewN _ _ _⟩|exact⟨rfl,_,Eq.trans (World.drewN_drewN _ _ _) (congrArg (World.drewN _) (Nat.add_assoc _ _ _))⟩))|(go_at_call 82;(with_reducible refine(spec_l1Join.calls k3 _ _ l0_0 a1 b2 b1 _ ?side1 ?side2 e1.out).mono ?_);(case side1=> exact zq62);(case side2=>exact a6.out);rintro e w' ⟨rfl,⟨nd,rfl⟩⟩;(try first|exact⟨rfl,_,World.drewN_drewN _ _ _⟩|exact⟨rfl,_,Eq.trans (World.drewN_drewN _ _ _) (congrArg (World.drewN _) (Nat.add_assoc _ _ _))⟩)));try go_wp2_with (first|(go_at_call 81;(with_reducible refine(spec_l1Meet.calls k3 _ _ l0_0 a2 (rd l0_1 a1) b2 _ ?side1 ?side2 e0.out).mono ?_);(case side1=> exact zq38);(case side2=>exact a6.out);rintro e w' ⟨rfl,⟨nd,rfl⟩⟩;(try first|exact⟨rfl,_,World.drewN_drewN _ _ _⟩|exact⟨rfl,_,Eq.trans (World.drewN_drewN _ _ _) (congrArg (World.drewN _) (Nat.add_assoc _ _ _))⟩))|(go_at_call 82;(with_reducible refine(spec_l1Join.calls k3 _ _ l0_0 a1 b2 b1 _ ?side1 ?side2 e1.out).mono ?_);(case side1=> exact zq62);(case side2=>exact a6.out);rintro e w' ⟨rfl,⟨nd,rfl⟩⟩;(try first|exact⟨rfl,_,World.drewN_drewN _ _ _⟩|exact⟨rfl,_,Eq.trans (World.drewN_drewN _ _ _) (congrArg (World.drewN _) (Nat.add_assoc _ _ _))⟩))))
                go_roundg k3
                (case measure=> exact zq370);case rel=>exact⟨(wrap64 (a2+1)),(by first|rfl|(simp;done)|(simp [*];done)),H',⟨zq370⟩,⟨zq2⟩,⟨zq8⟩⟩
               ·rw [if_neg d4] at H;have h0:(b1==a2)=false:=beq_eq_false_iff_ne.mpr d4;have h1:(b1 !=a2)=true:=bne_iff_ne.mpr d4;obtain rfl:=Option.some.inj H;have h9:wr.cell? ⟨a3,0,none⟩=some (.slice A0_0 l0_0.length c0_0):=(blk_cell a0.out 0).trans rfl;have i0:wr.cell? ⟨a3,1,none⟩=some (.slice A0_1 l0_1.length c0_1):=(blk_cell a0.out 1).trans rfl;have i1:=blk_frozen a0.out 0;have i2:=blk_frozen a0.out 1;have b4:0≤(a1:Int):=zqo;have b5:a1<(l0_0.length:Int):=zqo;obtain⟨g0,f1,f2,d5,a7,a9,b0⟩:=at_L3 a5.out a1 b4 b5
                cases d5
                replace a7:=(HB.out.cell (World.block_lt_of_cell? w _ a7)).trans a7;have b9:=zqm b0;have e2:=zqm a9;clear b0 a9;replace b4:=eq_true b4;replace b5:=eq_true b5;have b6:0≤(a2:Int):=zqo;have b7:a2<((rd_L3 l0_0 a1).length:Int):=zqo;obtain⟨g1,d6,a8⟩:=Kd.at_int b9.out a2 b6 b7
                cases d6
                replace a8:=(HB.out.cell (World.block_lt_of_cell? w _ a8)).trans a8;replace b6:=eq_true b6;replace b7:=eq_true b7;have c3:0≤(a1:Int):=zqo;have c5:a1<(l0_1.length:Int):=zqo;obtain⟨h2,f3,b3⟩:=Kd.at_int b8.out a1 c3 c5
                cases f3
                replace b3:=(HB.out.cell (World.block_lt_of_cell? w _ b3)).trans b3;replace c3:=eq_true c3;replace c5:=eq_true c5
                go_wp2_with (first|(go_at_call 81;(with_reducible refine(spec_l1Meet.calls k3 _ _ l0_0 a2 (rd l0_1 a1) b2 _ ?side1 ?side2 e0.out).mono ?_);(case side1=> exact zq38);(case side2=>exact a6.out);rintro e w' ⟨rfl,⟨nd,rfl⟩⟩;(try first|exact⟨rfl,_,World.drewN_drewN _ _ _⟩|exact⟨rfl,_,Eq.trans (World.drewN_drewN _ _ _) (congrArg (World.drewN _) (Nat.add_assoc _ _ _))⟩))|(go_at_call 82;(with_reducible refine(spec_l1Join.calls k3 _ _ l0_0 a1 b2 b1 _ ?side1 ?side2 e1.out).mono ?_);(case side1=> exact zq62);(case side2=>exact a6.out);rintro e w' ⟨rfl,⟨nd,rfl⟩⟩;(try first|exact⟨rfl,_,World.drewN_drewN _ _ _⟩|exact⟨rfl,_,Eq.trans (World.drewN_drewN _ _ _) (congrArg (World.drewN _) (Nat.add_assoc _ _ _))⟩)))
                repeat(go_quiet (first|(go_at_call 81;(with_reducible refine(spec_l1Meet.calls k3 _ _ l0_0 a2 (rd l0_1 a1) b2 _ ?side1 ?side2 e0.out).mono ?_);(case side1=> exact zq38);(case side2=>exact a6.out);rintro e w' ⟨rfl,⟨nd,rfl⟩⟩;(try first|exact⟨rfl,_,World.drewN_drewN _ _ _⟩|exact⟨rfl,_,Eq.trans (World.drewN_drewN _ _ _) (congrArg (World.drewN _) (Nat.add_assoc _ _ _))⟩))|(go_at_call 82;(with_reducible refine(spec_l1Join.calls k3 _ _ l0_0 a1 b2 b1 _ ?side1 ?side2 e1.out).mono ?_);(case side1=> exact zq62);(case side2=>exact a6.out);rintro e w' ⟨rfl,⟨nd,rfl⟩⟩;(try first|exact⟨rfl,_,World.drewN_drewN _ _ _⟩|exact⟨rfl,_,Eq.trans (World.drewN_drewN _ _ _) (congrArg (World.drewN _) (Nat.add_assoc _ _ _))⟩)));try go_wp2_with (first|(go_at_call 81;(with_reducible refine(spec_l1Meet.calls k3 _ _ l0_0 a2 (rd l0_1 a1) b2 _ ?side1 ?side2 e0.out).mono ?_);(case side1=> exact zq38);(case side2=>exact a6.out);rintro e w' ⟨rfl,⟨nd,rfl⟩⟩;(try first|exact⟨rfl,_,World.drewN_drewN _ _ _⟩|exact⟨rfl,_,Eq.trans (World.drewN_drewN _ _ _) (congrArg (World.drewN _) (Nat.add_assoc _ _ _))⟩))|(go_at_call 82;(with_reducible refine(spec_l1Join.calls k3 _ _ l0_0 a1 b2 b1 _ ?side1 ?side2 e1.out).mono ?_);(case side1=> exact zq62);(case side2=>exact a6.out);rintro e w' ⟨rfl,⟨nd,rfl⟩⟩;(try first|exact⟨rfl,_,World.drewN_drewN _ _ _⟩|exact⟨rfl,_,Eq.trans (World.drewN_drewN _ _ _) (congrArg (World.drewN _) (Nat.add_assoc _ _ _))⟩))))
                go_ret
                exact⟨zq11,zq8⟩
              ·rw [if_neg f9] at H;exact absurd H (by simp)
             ·rw [if_neg d3] at H;have g8:((rd (rd_L3 l0_0 a1) a2)==1)=false:=beq_eq_false_iff_ne.mpr d3;have g9:((rd (rd_L3 l0_0 a1) a2) !=1)=true:=bne_iff_ne.mpr d3;have H':=zqm H;clear H;have i3:wr.cell? ⟨a3,0,none⟩=some (.slice A0_0 l0_0.length c0_0):=(blk_cell a0.out 0).trans rfl;have i4:wr.cell? ⟨a3,1,none⟩=some (.slice A0_1 l0_1.length c0_1):=(blk_cell a0.out 1).trans rfl;have i5:=blk_frozen a0.out 0;have i6:=blk_frozen a0.out 1;have b4:0≤(a1:Int):=zqo;have b5:a1<(l0_0.length:Int):=zqo;obtain⟨g0,f1,f2,d5,a7,a9,b0⟩:=at_L3 a5.out a1 b4 b5
              cases d5
              replace a7:=(HB.out.cell (World.block_lt_of_cell? w _ a7)).trans a7;have b9:=zqm b0;have e2:=zqm a9;clear b0 a9;replace b4:=eq_true b4;replace b5:=eq_true b5;have b6:0≤(a2:Int):=zqo;have b7:a2<((rd_L3 l0_0 a1).length:Int):=zqo;obtain⟨g1,d6,a8⟩:=Kd.at_int b9.out a2 b6 b7
              cases d6
              replace a8:=(HB.out.cell (World.block_lt_of_cell? w _ a8)).trans a8;replace b6:=eq_true b6;replace b7:=eq_true b7
              go_wp2
              repeat(go_quiet (fail);try go_wp2)
              go_roundg k3
              (case measure=> exact zq370);case rel=>exact⟨(wrap64 (a2+1)),(by first|rfl|(simp;done)|(simp [*];done)),H',⟨zq370⟩,⟨zq2⟩,⟨zq8⟩⟩
            ·rw [if_neg f8] at H;exact absurd H (by simp)
           ·rw [if_neg f7] at H;exact absurd H (by simp)
          ·rw [if_neg f6] at H;exact absurd H (by simp)
         ·rw [if_neg f5] at H;exact absurd H (by simp)
        ·rw [if_neg d9] at H;have g7:decide (a2<(l0_1.length:Int))=false:=decide_eq_false d9;clear d9;have H':=zqm H;clear H;have i7:wr.cell? ⟨a3,0,none⟩=some (.slice A0_0 l0_0.length c0_0):=(blk_cell a0.out 0).trans rfl;have i8:wr.cell? ⟨a3,1,none⟩=some (.slice A0_1 l0_1.length c0_1):=(blk_cell a0.out 1).trans rfl;have i9:=blk_frozen a0.out 0;have j0:=blk_frozen a0.out 1
         go_wp2
         repeat(go_quiet (fail);try go_wp2)
         go_roundg k3
         (case measure=> exact zq370);case rel=>exact⟨(wrap64 (a1+1)),(by first|rfl|(simp;done)|(simp [*];done)),H',⟨zq370⟩,⟨zq2⟩,⟨zq8⟩⟩
     ·replace c9:=Bool.eq_false_iff.mpr c9;subst c9;(have H1:((spec_LogicOk.f d2 l0_0 l0_1).bind fun c6=>(some c6))=some r:=by rw [if_neg (show¬(false=true) by decide)] at H;exact H);clear H;have H:=H1;clear H1;replace H:=Option.bind_eq_some_iff.mp H;obtain⟨c6,g5,H⟩:=H;replace H:(some c6)=some r:=H;have g6:=zqm g5;clear g5;obtain rfl:=Option.some.inj H;have j2:wc.cell? ⟨a3,0,none⟩=some (.slice A0_0 l0_0.length c0_0):=(blk_cell a0.out 0).trans rfl;have j3:wc.cell? ⟨a3,1,none⟩=some (.slice A0_1 l0_1.length c0_1):=(blk_cell a0.out 1).trans rfl;have j4:=blk_frozen a0.out 0;have j5:=blk_frozen a0.out 1
      go_wp2_with (first|(go_at_call 42;(with_reducible refine(spec_LogicOk.calls d2 _ _ l0_0 _ _ l0_1 c6 _ ?side1 ?side2 ?side3 ?side4 g6.out).mono ?_);(case side1=> exact zq38);(case side2=>exact a6.out);(case side3=> exact zq127);(case side4=>exact c0.out);rintro e h4 ⟨rfl,hb⟩;replace a0:=zqm (blk_below (g:=a3) (o:= .cells #[.slice A0_0 l0_0.length c0_0,.slice A0_1 l0_1.length c0_1] 30 (0,0)) zq2 hb);replace HB:=zqm (below_step zq8 hb);clear hb))
      repeat(go_quiet (first|(go_at_call 42;(with_reducible refine(spec_LogicOk.calls d2 _ _ l0_0 _ _ l0_1 c6 _ ?side1 ?side2 ?side3 ?side4 g6.out).mono ?_);(case side1=> exact zq38);(case side2=>exact a6.out);(case side3=> exact zq127);(case side4=>exact c0.out);rintro e h4 ⟨rfl,hb⟩;replace a0:=zqm (blk_below (g:=a3) (o:= .cells #[.slice A0_0 l0_0.length c0_0,.slice A0_1 l0_1.length c0_1] 30 (0,0)) zq2 hb);replace HB:=zqm (below_step zq8 hb);clear hb));try go_wp2_with (first|(go_at_call 42;(with_reducible refine(spec_LogicOk.calls d2 _ _ l0_0 _ _ l0_1 c6 _ ?side1 ?side2 ?side3 ?side4 g6.out).mono ?_);(case side1=> exact zq38);(case side2=>exact a6.out);(case side3=> exact zq127);(case side4=>exact c0.out);rintro e h4 ⟨rfl,hb⟩;replace a0:=zqm (blk_below (g:=a3) (o:= .cells #[.slice A0_0 l0_0.length c0_0,.slice A0_1 l0_1.length c0_1] 30 (0,0)) zq2 hb);replace HB:=zqm (below_step zq8 hb);clear hb)))
      go_ret
      exact⟨zq11,zq8⟩
end Go.Proofs.Ytdoomkcgdcfmlaa.Print
end
section
namespace Go.Proofs.Ytdoomkcgdcfmlaa.Print
open Go.RowKit Go.Proofs.YtdoomkcgdcfmlaaW.PrintWords Go.Proofs.YtdoomkcgdcfmlaaW.PrintLast Go.Proofs.YtdoomkcgdcfmlaaW.PrintMore
open Oml
def keepT (U : List (List Int)) (N : List Int) (a b : Int) : Bool := (at2 U a.toNat b.toNat == 0) || (orI U a (andI U b (notI N a)) == b)
def keepB (U : List (List Int)) (N : List Int) : Bool := allN U.length fun a => allN U.length fun b => keepT U N a b
end Go.Proofs.Ytdoomkcgdcfmlaa.Print
end
section
namespace Go.Proofs.Ytdoomkcgdcfmlaa.Print
open Go.RowKit Go.Proofs.YtdoomkcgdcfmlaaW.PrintWords Go.Proofs.YtdoomkcgdcfmlaaW.PrintLast Go.Proofs.YtdoomkcgdcfmlaaW.PrintMore
open Oml
theorem spec_KeepsOk.ev (U : List (List Int)) (N : List Int) : Ev (fun k => spec_KeepsOk.f k U N) (if logicB U N = true then keepB U N else false) := by
  unfold spec_KeepsOk.f
  have hlo:=spec_LogicOk.ev U N
  cases hg:logicB U N with
  | false =>
    rw [hg] at hlo
    rw [if_neg (by simp)]
    refine Ev.succ ?_
    simp only [spec_KeepsOk.l0]
    have hj : Ev (fun k => spec_KeepsOk.j1 k 0 false U N) false := by
      refine Ev.succ ?_
      simp only [spec_KeepsOk.j1]
      exact Ev.ite_neg (by simp) (Ev.bind hlo (Ev.now _))
    by_cases h0:(0:Int)<(N.length:Int)
    · exact Ev.ite_pos h0 (Ev.bind hlo hj)
    · exact Ev.ite_neg h0 hj
  | true =>
    rw [hg] at hlo
    have L:=logicB_iff.1 hg
    have hlen:=L.len
    have hsm:=L.small
    rw [if_pos rfl]
    unfold keepB
    refine Ev.eq (Ev.all (g:=fun k i=>spec_KeepsOk.l0 k i U N) (n:=U.length) (fun a=>allN U.length fun b=>keepT U N a b) (go:=true) (stop:=false) (by omega) (fun _=>?_) (fun i hi _ R hR=>?_)) (by cases allN U.length _ <;> rfl)
    · refine Ev.succ ?_
      simp only [spec_KeepsOk.l0]
      refine Ev.ite_neg (by omega) (Ev.succ ?_)
      simp only [spec_KeepsOk.j1]
      exact Ev.ite_neg (by simp) (Ev.bind hlo (Ev.now _))
    · refine Ev.succ ?_
      simp only [spec_KeepsOk.l0]
      refine Ev.ite_pos (by omega) (Ev.bind hlo (Ev.succ ?_))
      simp only [spec_KeepsOk.j1]
      refine Ev.ite_pos (by simp) ?_
      have hrow:=L.row i hi
      have hran:=L.ran i hi
      refine Ev.all (g:=fun k j=>spec_KeepsOk.l1 k (i:Int) j U N) (n:=U.length) (fun b=>keepT U N i b) (go:=R) (stop:=false) (by omega) (fun hall=>?_) (fun j hj _ R' hR'=>?_)
      · refine Ev.succ ?_
        simp only [spec_KeepsOk.l1]
        exact Ev.ite_neg (by omega) (hR (allN_iff.2 hall))
      · refine Ev.succ ?_
        simp only [spec_KeepsOk.l1,rdL_nat,rd_nat,rd_row,hrow]
        refine Ev.ite_pos (by omega) (Ev.ite_pos (by omega) (Ev.ite_pos (by omega) (Ev.ite_pos (by omega) (Ev.ite_pos (by omega) ?_))))
        have hk : keepT U N i j = ((at2 U i j == 0) || (orI U i (andI U j (notI N i)) == (j : Int))) := by
          unfold keepT;rw [Int.toNat_natCast,Int.toNat_natCast]
        rcases L.bit i j hi hj with e|e
        · rw [hk, e] at hR' ⊢
          exact Ev.ite_neg (by omega) (hR' rfl)
        · have iI : In U ((i : Nat) : Int) := ⟨by omega, by omega⟩
          have iJ:In U ((j:Nat):Int):=⟨by omega,by omega⟩
          have hn:at1 N i=notI N (i:Int):=by unfold notI;rw [Int.toNat_natCast]
          rw [hk,e] at hR' ⊢
          rw [hn]
          refine Ev.ite_pos (by simp) (Ev.ite_pos (by omega) (Ev.bind (meet_in L iJ (L.in_not iI)) (Ev.bind (join_in L iI (L.in_and iJ (L.in_not iI))) ?_)))
          by_cases c:orI U i (andI U j (notI N i))=(j:Int)
          · have c2 : ((1 : Int) == 0 || (orI U i (andI U j (notI N i)) == (j : Int))) = true := by rw [c]; simp
            rw [c2] at hR' ⊢
            exact Ev.ite_pos c (hR' rfl)
          · have c2 : ((1 : Int) == 0 || (orI U i (andI U j (notI N i)) == (j : Int))) = false := by
              rw [Bool.or_eq_false_iff];exact⟨rfl,beq_eq_false_iff_ne.2 c⟩
            rw [c2]
            exact Ev.ite_neg c (Ev.now _)
section
variable {U : List (List Int)} {N : List Int} (L : Logic U N)
include L
theorem at2_fin (x y : Fin U.length) : (at2 U x.1 y.1 = 1 ↔ L.ol.le x y) ∧ (at2 U x.1 y.1 = 0 ↔ ¬ L.ol.le x y) := by
  have h : L.ol.le x y ↔ at2 U x.1 y.1 = 1 := by
    rw [← leB_fin L]; unfold leB; exact beq_iff_eq
  refine ⟨h.symm, ?_⟩
  rw [h]
  rcases L.bit x.1 y.1 x.2 y.2 with e | e <;> omega
theorem keepB_iff : keepB U N = true ↔ L.ol.Keeps := by
  unfold keepB OL.Keeps
  rw [allN_fin]
  have key : ∀ x y : Fin U.length, keepT U N x.1 y.1 = true ↔ (L.ol.le x y → L.ol.join x (L.ol.meet y (L.ol.neg x)) = y) := fun x y => by
    unfold keepT
    rw [Int.toNat_natCast,Int.toNat_natCast,not_fin L,and_fin L,or_fin L,fin_beq,Bool.or_eq_true,beq_iff_eq,decide_eq_true_eq,(at2_fin L x y).2]
    exact⟨fun h k=>h.resolve_left (fun n=>n k),fun h=>(Classical.em (L.ol.le x y)).elim (fun k=> .inr (h k)) .inl⟩
  constructor
  · intro h x y
    exact(key x y).1 (allN_fin.1 (h x) y)
  · intro h x
    exact allN_fin.2 fun y=>(key x y).2 (h x y)
theorem proj_fin (x y : Fin U.length) : andI U x.1 (orI U (notI N x.1) y.1) = (((L.ol.proj x y).1 : Nat) : Int) := by rw [not_fin L, or_fin L, and_fin L]; rfl
end
theorem inR_two {U : List (List Int)} (x y : Fin U.length) : [((x.1 : Nat) : Int), ((y.1 : Nat) : Int)].all (inR U.length) = true := by
  simp only [List.all_cons, List.all_nil, Bool.and_true, Bool.and_eq_true, inR_iff]; exact ⟨in_fin x, in_fin y⟩
theorem inR_three {U : List (List Int)} (x y z : Fin U.length) : [((x.1 : Nat) : Int), ((y.1 : Nat) : Int), ((z.1 : Nat) : Int)].all (inR U.length) = true := by
  simp only [List.all_cons, List.all_nil, Bool.and_true, Bool.and_eq_true, inR_iff]; exact ⟨in_fin x, in_fin y, in_fin z⟩
end Go.Proofs.Ytdoomkcgdcfmlaa.Print
end
section
namespace Go.Proofs.Ytdoomkcgdcfmlaa.Print
open Go.RowKit Go.Proofs.YtdoomkcgdcfmlaaW.PrintWords Go.Proofs.YtdoomkcgdcfmlaaW.PrintLast Go.Proofs.YtdoomkcgdcfmlaaW.PrintMore
def spec_l20Three.f (k : Nat) (s0_0 : List Int) (s0_1 : Int) (a1 : Int) : Option ((List (List Int)) × List Int × Int × Int × Int × Int) := (spec_l20Two.f k s0_0 s0_1 a1).bind fun bt648 => ((spec_l20Rd_pick.f k s0_0 bt648.2.2.2.2 (mx (bt648.2.1.length : Int) 1)).bind fun bt658 => (some (bt648.1, bt648.2.1, bt648.2.2.1, bt648.2.2.2.1, bt658.1, bt658.2)))
def spec_l20Three.T2 : Bool × List (List Nat × List Nat) := (true, [([], []), ([], []), ([], []), ([], []), ([], []), ([4], [4]), ([5], [5]), ([6], [6]), ([3, 7], [3, 7]), ([0, 8, 0], [0]), ([1, 9, 0, 1, 9], [1]), ([2, 10, 0, 1, 2, 9, 10], [2]), ([8, 11, 0, 1, 2, 3, 4, 5, 6, 7, 8, 9, 10, 11], [8])])
def spec_l20Three.B2 : List Nat := [0, 0, 0, 0, 0, 16, 48, 112, 248, 505, 1019, 2047, 4095]
theorem spec_l20Three.tab2 : rtab .any (opsOf Try.f84 2) = spec_l20Three.T2 := by kernel_rfl
theorem spec_l20Three.bits2 : waitsOk spec_l20Three.T2.2 spec_l20Three.B2 = true := by kernel_rfl
set_option maxHeartbeats 8000000 in
set_option maxRecDepth 100000 in
theorem spec_l20Three.calls (k : Nat) (g : Nat) (s0_0 : List Int) (s0_1 : Int) (a1 : Int) (r1 : List (List Int)) (r2 : List Int) (r3 : Int) (r4 : Int) (r5 : Int) (r6 : Int) (w0 w : World) (hI : IsS87 w0 w g s0_0 s0_1) (hB : Below w0.heap.size w0 w) (h : spec_l20Three.f k s0_0 s0_1 a1 = some (r1, r2, r3, r4, r5, r6)) :
  Calls Try.prog 84 #[.pointer (some ⟨g, 0, none⟩), .int .i64 a1] w fun e w' => ∃ v0_ v1_ : Value, e = .returned (.tuple #[.agg #[v0_, v1_], .int .i64 r3, .int .i64 r4, .int .i64 r5]) ∧ Kd.S (Kd.slice 3 (Kd.int .i64)) 28 w' w.heap.size (fun k_ => some k_ ≠ (v1_ : Value).ownBlock) v0_ r1 ∧ Kd.Q (Kd.int .i64) 3 w' w.heap.size (fun _ => True) v1_ r2 ∧ IsS87 w0 w' g s0_0 r6 ∧ Below w0.heap.size w0 w' ∧ KeepBut w w' g none := by
 have hu30:=Try.underlying30;have a3:=zqm hI;have HK:=zqm (KeepBut.refl w g none);have HL:=zqm hB.size;clear hI;have e0:=zqm hB.size;have HB:=zqm hB;clear hB;have H:((spec_l20Two.f k s0_0 s0_1 a1).bind fun c1=>((spec_l20Rd_pick.f k s0_0 c1.2.2.2.2 (mx (c1.2.1.length:Int) 1)).bind fun b9=>(some (c1.1,c1.2.1,c1.2.2.1,c1.2.2.2.1,b9.1,b9.2))))=some (r1,r2,r3,r4,r5,r6):=h;clear h;replace H:=Option.bind_eq_some_iff.mp H;obtain⟨⟨a6,a4,d2,d3,c0⟩,e1,H⟩:=H;replace H:((spec_l20Rd_pick.f k s0_0 c0 (mx (a4.length:Int) 1)).bind fun b9=>(some (a6,a4,d2,d3,b9.1,b9.2)))=some (r1,r2,r3,r4,r5,r6):=H;have A3:=zqm e1;clear e1;obtain⟨c4,c2⟩: ∃j_:Int,(mx (a4.length:Int) 1)=j_:=⟨_,rfl⟩;(replace H:((spec_l20Rd_pick.f k s0_0 c0 (c4)).bind fun b9=>(some (a6,a4,d2,d3,b9.1,b9.2)))=some (r1,r2,r3,r4,r5,r6):=by first|(rw [c2] at H;exact H)|(simp only [c2] at H ⊢;exact H));(try rw [c2] at A3);(try(have hji4l:1≤c4:=by(rw [← c2];unfold mx;(repeat' split) <;> omega)));(try(have hji4m:0≤c4:=by omega));have f3:(if(a4.length:Int)<1 then 1 else(a4.length:Int))=c4:=c2;replace H:=Option.bind_eq_some_iff.mp H;obtain⟨⟨d6,d7⟩,e2,H⟩:=H;replace H:(some (a6,a4,d2,d3,d6,d7))=some (r1,r2,r3,r4,r5,r6):=H;have A5:=zqm e2;clear e2;simp only [Option.some.injEq,Prod.mk.injEq] at H;obtain⟨rfl,rfl,rfl,rfl,rfl,rfl⟩:=H
 go_enter Try.func84,Try.ntmps84
 (try go_wp2_with (first|((with_reducible refine gate_dst (N:=4) rfl ?_);refine box_event ?hg (N:=4) ?hd (cs:= #[.slice none 0 0,.slice none 0 0]) (t:=30) ?hr ?_;(case hd=>rfl);(case hg=>rfl);(case hr=>first|(go_simp;done)|(go_simp;rfl));intro a2 hg w6 hbox hb;have c5:=zqm (IsS87.below (by repeat(first|(with_reducible first|exact a3.out|apply IsS87.alloc|apply IsS87.drewN|apply IsS87.drew|apply IsS87.set_1)|exact a3.out)) hb);have c6:=zqm (KeepBut.trans zq50 (KeepBut.of_below hb g none) (.inl rfl));replace HB:=zqm (below_step (by repeat(first|(with_reducible first|exact HB.out|apply below_alloc|apply pw_below_drewN|apply below_drew1|refine below_set ?_ (IsS87.ge a3.out))|exact HB.out)) hb);have a5:=zqm (hbox);have b7:=zqm ((by rw [hg];exact(keep_size (w:=w) (g:=g) (row:=none) zq50):w.heap.size≤a2));have c3:=zqm ((Nat.le_trans e0.out (by rw [hg];exact(keep_size (w:=w) (g:=g) (row:=none) zq50):w.heap.size≤a2):w0.heap.size≤a2));have b1:=zqm ((by rw [hg];exact Nat.ne_of_lt (IsS87.lt (show IsS87 w0 _ g s0_0 s0_1 from by repeat(first|(with_reducible first|exact a3.out|apply IsS87.alloc|apply IsS87.drewN|apply IsS87.drew|apply IsS87.set_1)|exact a3.out))):g≠a2));have c7:=zqm ((by rw [hg];exact Nat.ne_of_gt (IsS87.lt (show IsS87 w0 _ g s0_0 s0_1 from by repeat(first|(with_reducible first|exact a3.out|apply IsS87.alloc|apply IsS87.drewN|apply IsS87.drew|apply IsS87.set_1)|exact a3.out))):a2≠g));clear a3 HK;have a3:=c5;have HK:=c6;clear c5 c6 hb hbox hg)|((with_reducible refine gate_callee (f:=76) rfl ?_);refine goesL_ (some 14) rfl rfl Try.func76 zqk rfl #[.pointer (some ⟨g,0,none⟩),.int .i64 a1] rfl zq1 ?_;(with_reducible refine(spec_l20Two.calls k g s0_0 s0_1 a1 a6 a4 d2 d3 c0 w0 _ ?side1 ?side2 A3.out).mono ?_);(case side1=> exact zq343);(case side2=> exact zq332);rintro e w7 ⟨f8,f9,rfl,e3,e4,hi,hb,hk⟩;refine⟨_,rfl,?_⟩;replace a5:=zqm (KeepBut.blk hk (g':=a2) (o:= .cells #[.slice none 0 0,.slice none 0 0] 30 (0,0)) zq100 c7.out (by simp));have b2:=zqm (Kd.S_lower e3 (keep_size (w:=w) (g:=g) (row:=none) zq131));have b3:=zqm (Kd.Q_lower e4 (keep_size (w:=w) (g:=g) (row:=none) zq131));replace HK:=zqm (KeepBut.trans zq131 hk (.inl rfl));replace HB:=zqm (hb);replace a3:=zqm (hi);clear hb hk hi e3 e4)|((with_reducible refine gate_dst (N:=8) rfl ?_);refine box_event ?hg (N:=8) ?hd (cs:= #[.slice none 0 0,.slice none 0 0]) (t:=30) ?hr ?_;(case hd=>rfl);(case hg=>rfl);(case hr=>first|(go_simp;done)|(go_simp;rfl));intro a0 hg w8 hbox hb;replace b2:=zqm (Kd.S_below zq325 hb);replace b3:=zqm (Kd.Q_below zq330 hb);have c8:=zqm (IsS87.below zq343 hb);have c9:=zqm (blk_below (g:=a2) (o:= .cells #[.slice none 0 0,.slice none 0 0] 30 (0,0)) zq100 hb);have d0:=zqm (KeepBut.trans zq131 (KeepBut.of_below hb g none) (.inl rfl));replace HB:=zqm (below_step zq332 hb);have a7:=zqm (hbox);have d4:=zqm ((by rw [hg];exact(keep_size (w:=w) (g:=g) (row:=none) zq131):w.heap.size≤a0));have d5:=zqm ((Nat.le_trans e0.out (by rw [hg];exact(keep_size (w:=w) (g:=g) (row:=none) zq131):w.heap.size≤a0):w0.heap.size≤a0));have b6:=zqm ((by rw [hg];exact Nat.ne_of_lt (blk_lt (g:=a2) (o:= .cells #[.slice none 0 0,.slice none 0 0] 30 (0,0)) zq100):a2≠a0));have b0:=zqm ((by rw [hg];exact Nat.ne_of_gt (blk_lt (g:=a2) (o:= .cells #[.slice none 0 0,.slice none 0 0] 30 (0,0)) zq100):a0≠a2));have b8:=zqm ((by rw [hg];exact Nat.ne_of_lt (IsS87.lt (show IsS87 w0 _ g s0_0 c0 from by repeat(first|(with_reducible first|exact a3.out|apply IsS87.alloc|apply IsS87.drewN|apply IsS87.drew|apply IsS87.set_1|refine IsS87.far ?_ b1.out _)|exact a3.out))):g≠a0));have d1:=zqm ((by rw [hg];exact Nat.ne_of_gt (IsS87.lt (show IsS87 w0 _ g s0_0 c0 from by repeat(first|(with_reducible first|exact a3.out|apply IsS87.alloc|apply IsS87.drewN|apply IsS87.drew|apply IsS87.set_1|refine IsS87.far ?_ b1.out _)|exact a3.out))):a0≠g));clear a3 a5 HK;have a3:=c8;have a5:=c9;have HK:=d0;clear c8 c9 d0 hb hbox hg;obtain⟨b4,b5,f1⟩:=Kd.S_slice b2.out;subst f1;have f4:=b0.out;have f5:=b6.out;have f6:=d1.out;have f7:=b8.out;have e7:w8.cell? ⟨a0,0,none⟩=some (.slice none 0 0):=(blk_cell a7.out 0).trans rfl;have e8:w8.cell? ⟨a0,1,none⟩=some (.slice none 0 0):=(blk_cell a7.out 1).trans rfl;have e9:=blk_frozen a7.out 0;have f0:=blk_frozen a7.out 1;obtain⟨a8,a9,e6,_⟩:=Kd.Q_slice b3.out;subst e6)))
 have c5:Aside0 (Kd.S (Kd.slice 3 (Kd.int .i64)) 28 ((w8.setCell ⟨a0,0,none⟩ (.slice b4 a6.length b5)).setCell ⟨a0,1,none⟩ (.slice a8 a4.length a9)) w.heap.size (fun k_=>some k_≠(.slice a8 a4.length a9:Value).ownBlock) (.slice b4 a6.length b5) a6):=⟨by(with_reducible repeat(first|apply Kd.S_alloc|apply Kd.S_drewN|apply Kd.S_drew));exact Kd.S_mono (Kd.S_far (p:=⟨a0,1,none⟩) (Kd.S_far (p:=⟨a0,0,none⟩) (Kd.S_types b2.out a7.out (by decide)) (fun _ hk=>hk.2) (.slice b4 a6.length b5)) (fun _ hk=>hk.2) (.slice a8 a4.length a9)) (fun _ hk=>hk.1)⟩;have c6:Aside0 (Kd.Q (Kd.int .i64) 3 ((w8.setCell ⟨a0,0,none⟩ (.slice b4 a6.length b5)).setCell ⟨a0,1,none⟩ (.slice a8 a4.length a9)) w.heap.size (fun _=>True) (.slice a8 a4.length a9) a4):=⟨by(with_reducible repeat(first|apply Kd.Q_alloc|apply Kd.Q_drewN|apply Kd.Q_drew));exact Kd.Q_mono (Kd.Q_far (p:=⟨a0,1,none⟩) (Kd.Q_far (p:=⟨a0,0,none⟩) (Kd.Q_types b3.out a7.out (by decide)) (fun _ hk=>hk.2) (.slice b4 a6.length b5)) (fun _ hk=>hk.2) (.slice a8 a4.length a9)) (fun _ hk=>trivial)⟩;have c8:Aside0 (((w8.setCell ⟨a0,0,none⟩ (.slice b4 a6.length b5)).setCell ⟨a0,1,none⟩ (.slice a8 a4.length a9)).heap[a2]? =some (.cells #[.slice none 0 0,.slice none 0 0] 30 (0,0))):=⟨by(with_reducible repeat(first|refine blk_drewN ?_ _|refine blk_drew ?_|refine blk_alloc ?_ _));refine blk_far ?_ b6.out _;(with_reducible repeat(first|refine blk_drewN ?_ _|refine blk_drew ?_|refine blk_alloc ?_ _));refine blk_far ?_ b6.out _;(with_reducible repeat(first|refine blk_drewN ?_ _|refine blk_drew ?_|refine blk_alloc ?_ _));exact a5.out⟩;have c9:Aside0 (((w8.setCell ⟨a0,0,none⟩ (.slice b4 a6.length b5)).setCell ⟨a0,1,none⟩ (.slice a8 a4.length a9)).heap[a0]? =some (.cells #[.slice b4 a6.length b5,.slice a8 a4.length a9] 30 (0,0))):=⟨by(with_reducible repeat(first|refine blk_drewN ?_ _|refine blk_drew ?_|refine blk_alloc ?_ _));refine blk_put (cs:= #[.slice b4 a6.length b5,.slice none 0 0]) ?_ 1 _ rfl;(with_reducible repeat(first|refine blk_drewN ?_ _|refine blk_drew ?_|refine blk_alloc ?_ _));refine blk_put (cs:= #[.slice none 0 0,.slice none 0 0]) ?_ 0 _ rfl;(with_reducible repeat(first|refine blk_drewN ?_ _|refine blk_drew ?_|refine blk_alloc ?_ _));exact a7.out⟩;have d0:Aside0 (IsS87 w0 ((w8.setCell ⟨a0,0,none⟩ (.slice b4 a6.length b5)).setCell ⟨a0,1,none⟩ (.slice a8 a4.length a9)) g s0_0 c0):=⟨zq269⟩;have d8:Aside0 (KeepBut w ((w8.setCell ⟨a0,0,none⟩ (.slice b4 a6.length b5)).setCell ⟨a0,1,none⟩ (.slice a8 a4.length a9)) g none):=⟨zq272⟩;have d9:Aside0 (Below w0.heap.size w0 ((w8.setCell ⟨a0,0,none⟩ (.slice b4 a6.length b5)).setCell ⟨a0,1,none⟩ (.slice a8 a4.length a9))):=⟨zq177⟩;generalize ((w8.setCell ⟨a0,0,none⟩ (.slice b4 a6.length b5)).setCell ⟨a0,1,none⟩ (.slice a8 a4.length a9))=f2 at c5 c6 c8 c9 d0 d8 d9 ⊢;have b2:=c5;have b3:=c6;have a5:=c8;have a7:=c9;have a3:=d0;have HK:=d8;have HB:=d9;clear c5 c6 c8 c9 d0 d8 d9;replace b2:=zqm (Kd.S_drew b2.out);replace b3:=zqm (Kd.Q_drew b3.out);replace a5:=zqm (blk_drew a5.out);replace a7:=zqm (blk_drew a7.out);replace a3:=zqm (IsS87.drew a3.out);replace HK:=zqm (keep_drew HK.out);replace HB:=zqm (below_drew1 HB.out);refine start_ (n:=13) (S:=fun w'=>w'.cell? ⟨a0,0,none⟩=some (.slice b4 a6.length b5)∧w'.cell? ⟨a0,1,none⟩=some (.slice a8 a4.length a9)) (ds:= []) (zqb 13 0) zqk rfl rfl ⟨(blk_cell a7.out 0).trans rfl,(blk_cell a7.out 1).trans rfl⟩ (fun hHeld=>?_);refine with_tabW spec_l20Three.tab2 spec_l20Three.bits2 (fun HT_ HW_=>?_);generalize f2.drew=g0 at b2 b3 a5 a7 a3 HK HB hHeld ⊢;refine pure_ (i:=1) (N:=some 19) (v:=?_) (a':=?_) (zqb 13 2) rfl rfl (any_of HT_.out zqk) (fun _ _ _ h=>h) (Or.inl ⟨by rfl,?_⟩) ?_ ?_;rotate_left
 ·exact zqt
 rotate_left
 ·exact zqs
 refine pure_ (i:=2) (N:=some 20) (v:=?_) (a':=?_) (zqb 13 6) rfl rfl (any_of HT_.out zqk) (fun _ _ _ h=>h) (Or.inl ⟨by rfl,?_⟩) ?_ ?_;rotate_left
 ·exact zqt
 rotate_left
 ·exact zqs
 refine pure_ (i:=3) (N:=some 21) (v:=?_) (a':=?_) (zqb 13 14) rfl rfl (any_of HT_.out zqk) (fun _ _ _ h=>h) (Or.inl ⟨by rfl,?_⟩) ?_ ?_;rotate_left
 ·exact zqt
 rotate_left
 ·exact zqs
 refine pure_ (i:=4) (N:=some 22) (v:=?_) (a':=?_) (zqb 13 30) rfl rfl (any_of HT_.out zqk) (fun _ _ _ h=>h) (Or.inl ⟨by rfl,?_⟩) ?_ ?_;rotate_left
 ·exact zqt
 rotate_left
 ·exact zqs
 refine take_ (i:=0) (N:=some 18) (v:=?_) (a':=?_) (zqb 13 31) rfl rfl (take_ofW HT_.out HW_.out zqk) (fun _ _ _ h=>h) (Or.inl ⟨by rfl,?_⟩) hHeld ?_ ?_;rotate_left
 ·rintro w' ⟨s0,s1⟩;go_simp;with_reducible rfl
 rotate_left
 ·exact zqs
 refine take_ (i:=5) (N:=some 23) (v:=?_) (a':=?_) (zqb 13 63) rfl rfl (take_ofW HT_.out HW_.out zqk) (fun _ _ _ h=>h) (Or.inl ⟨by rfl,?_⟩) hHeld ?_ ?_;rotate_left
 ·rintro w' ⟨s0,s1⟩;go_simp;with_reducible rfl
 rotate_left
 ·exact zqs
 refine pure_ (i:=6) (N:=some 24) (v:=?_) (a':=?_) (zqb 13 127) rfl rfl (any_of HT_.out zqk) (fun _ _ _ h=>h) (Or.inl ⟨by rfl,?_⟩) ?_ ?_;rotate_left
 ·exact zqt
 rotate_left
 ·exact zqs
 refine pure_ (i:=7) (N:=some 25) (v:=?_) (a':=?_) (zqb 13 255) rfl rfl (any_of HT_.out zqk) (fun _ _ _ h=>h) (Or.inl ⟨by rfl,?_⟩) ?_ ?_;rotate_left
 ·exact zqt
 rotate_left
 ·exact zqs
 refine one_ (i:=8) (N:=some 26) (zqb 13 511) rfl rfl (one_of HT_.out zqk) (by decide) (fun K hK=>?_);refine goes_ Try.func103 zqk rfl #[.pointer (some ⟨g,0,none⟩),.int .i64 c4] (by rfl) rfl rfl (by(try simp only [List.map_toArray,List.map_cons,List.map_nil]);first|done|(simp only [c2];rfl)|rfl|(simp only [List.length_drop,List.length_take];rfl)) ?_;(with_reducible refine(spec_l20Rd_pick.calls k g s0_0 c0 c4 d6 d7 w0 _ ?side1 ?side2 A5.out).mono ?_);(case side1=> exact zq269);(case side2=> exact zq177);rintro e e5 ⟨rfl,hi,hb,hk⟩;refine⟨_,rfl,?_⟩;replace a5:=zqm (KeepBut.blk hk (g':=a2) (o:= .cells #[.slice none 0 0,.slice none 0 0] 30 (0,0)) zq100 c7.out (by simp));replace b2:=zqm (Kd.S_mono (Kd.S_keep (IsS87.apartS (show IsS87 w0 _ g s0_0 c0 from by repeat(first|(with_reducible first|exact a3.out|apply IsS87.alloc|apply IsS87.drewN|apply IsS87.drew|apply IsS87.set_1|refine IsS87.far ?_ b1.out _|refine IsS87.far ?_ b8.out _)|exact a3.out)) zq325 (by decide)) hk (fun _ h=>h.2)) (fun _ h=>h.1));replace b3:=zqm (Kd.Q_mono (Kd.Q_keep (IsS87.apartQ (show IsS87 w0 _ g s0_0 c0 from by repeat(first|(with_reducible first|exact a3.out|apply IsS87.alloc|apply IsS87.drewN|apply IsS87.drew|apply IsS87.set_1|refine IsS87.far ?_ b1.out _|refine IsS87.far ?_ b8.out _)|exact a3.out)) zq330 (by decide)) hk (fun _ h=>h.2)) (fun _ h=>h.1));replace a7:=zqm (KeepBut.blk hk (g':=a0) (o:= .cells #[.slice b4 a6.length b5,.slice a8 a4.length a9] 30 (0,0)) zq33 d1.out (by simp));replace HK:=zqm (KeepBut.trans zq272 hk (.inl rfl));replace HB:=zqm (hb);replace a3:=zqm (hi);clear hb hk hi;refine hK.out _ _ ⟨(blk_cell a7.out 0).trans rfl,(blk_cell a7.out 1).trans rfl⟩ (fun hHeld=>?_);clear hK K;refine norm_ (a':=?_) ?_ ?_;rotate_left
 ·show Act.put _ (some 26) _=_;exact zqs
 refine one_ (i:=9) (N:=none) (zqb 13 1023) rfl rfl (one_of HT_.out zqk) (by decide) (fun K hK=>?_);have hs17:e5.cell? ⟨a2,0,none⟩=some (.slice none 0 0):=(blk_cell a5.out 0).trans rfl;have hfs17:=blk_frozen a5.out 0;have hns17_1:=b0.out;have hms17_1:=b6.out;have hs18:e5.cell? ⟨a2,1,none⟩=some (.slice none 0 0):=(blk_cell a5.out 1).trans rfl;have hfs18:=blk_frozen a5.out 1;have hns18_1:=b0.out;have hms18_1:=b6.out;refine skip_ (w1:=?_) (by rfl) rfl ?_ ?_;rotate_left
 ·go_simp;rfl
 refine hK.out _ _ ⟨((cell_far (p:=⟨a2,_,none⟩) b0.out _).trans (((cell_far (p:=⟨a2,_,none⟩) b0.out _).trans (hHeld.1)))),((cell_far (p:=⟨a2,_,none⟩) b0.out _).trans (((cell_far (p:=⟨a2,_,none⟩) b0.out _).trans (hHeld.2))))⟩ (fun hHeld=>?_);clear hK K;refine pure_ (i:=10) (N:=some 5) (v:=?_) (a':=?_) (zqb 13 2047) rfl rfl (any_of HT_.out zqk) (fun _ _ _ h=>h) (Or.inl ⟨by rfl,?_⟩) ?_ ?_;rotate_left
 ·exact zqt
 rotate_left
 ·exact zqs
 refine pure_ (i:=11) (N:=some 6) (v:=?_) (a':=?_) (zqb 13 4095) rfl rfl (any_of HT_.out zqk) (fun _ _ _ h=>h) (Or.inl ⟨by rfl,?_⟩) ?_ ?_;rotate_left
 ·exact zqt
 rotate_left
 ·exact zqs
 refine pure_ (i:=12) (N:=some 7) (v:=?_) (a':=?_) (zqb 13 8191) rfl rfl (any_of HT_.out zqk) (fun _ _ _ h=>h) (Or.inl ⟨by rfl,?_⟩) ?_ ?_;rotate_left
 ·exact zqt
 rotate_left
 ·exact zqs
 refine done_ (done_of HT_.out zqk) ?_;(try go_wp2);refine bodyPost_ret (results_list (rs:= [.cell 4 30,.tmp 5,.tmp 6,.tmp 7]) rfl (by simp) (.cell a2 30 #[.slice b4 a6.length b5,.slice a8 a4.length a9] (0,0) _ rfl (by(with_reducible repeat(first|refine blk_drewN ?_ _|refine blk_drew ?_|refine blk_alloc ?_ _));refine blk_put (cs:= #[.slice b4 a6.length b5,.slice none 0 0]) ?_ 1 _ rfl;(with_reducible repeat(first|refine blk_drewN ?_ _|refine blk_drew ?_|refine blk_alloc ?_ _));refine blk_put (cs:= #[.slice none 0 0,.slice none 0 0]) ?_ 0 _ rfl;(with_reducible repeat(first|refine blk_drewN ?_ _|refine blk_drew ?_|refine blk_alloc ?_ _));exact a5.out) Try.underlying30 rfl zqk (.tmp (.tmp (.tmp .nil))))) rfl ?_;exact⟨_,_,by first|rfl|(simp [errW_none,errW_some] <;> rfl)|(simp only [← c2];first|rfl|(simp [errW_none,errW_some] <;> rfl))|(simp [*,errW_none,errW_some] <;> rfl),by(with_reducible repeat(first|apply Kd.S_alloc|apply Kd.S_drewN|apply Kd.S_drew));exact Kd.S_mono (Kd.S_far (p:=⟨a2,1,none⟩) (Kd.S_far (p:=⟨a2,0,none⟩) (Kd.S_types b2.out a5.out (by decide)) (fun _ hk=>hk.2) (.slice b4 a6.length b5)) (fun _ hk=>hk.2) (.slice a8 a4.length a9)) (fun _ hk=>hk.1),by(with_reducible repeat(first|apply Kd.Q_alloc|apply Kd.Q_drewN|apply Kd.Q_drew));exact Kd.Q_mono (Kd.Q_far (p:=⟨a2,1,none⟩) (Kd.Q_far (p:=⟨a2,0,none⟩) (Kd.Q_types b3.out a5.out (by decide)) (fun _ hk=>hk.2) (.slice b4 a6.length b5)) (fun _ hk=>hk.2) (.slice a8 a4.length a9)) (fun _ hk=>trivial),zq269,zq177,zq272⟩
def spec_DrawBehindOf.f (k : Nat) (l0 : List Int) : Option ((List (List Int)) × List Int × Int × Int × Int) := (spec_l20Open.f l0).bind fun bt661 => ((spec_l20Three.f k bt661.1 bt661.2 14).bind fun bt664 => (some (bt664.1, bt664.2.1, bt664.2.2.1, bt664.2.2.2.1, bt664.2.2.2.2.1)))
set_option maxHeartbeats 8000000 in
set_option maxRecDepth 100000 in
theorem spec_DrawBehindOf.calls (k : Nat) (A0 : Option Addr) (c0 : Nat) (l0 : List Int) (r1 : List (List Int)) (r2 : List Int) (r3 : Int) (r4 : Int) (r5 : Int) (w : World) (hr0 : Kd.C (Kd.int .u8) w A0 l0.length l0) (hc0 : l0.length ≤ c0) (h : spec_DrawBehindOf.f k l0 = some (r1, r2, r3, r4, r5)) :
  Calls Try.prog 25 #[.slice A0 l0.length c0] w fun e w' => ∃ v0_ v1_ : Value, e = .returned (.tuple #[.agg #[v0_, v1_], .int .i64 r3, .int .i64 r4, .int .i64 r5]) ∧ Kd.S (Kd.slice 3 (Kd.int .i64)) 28 w' w.heap.size (fun k_ => some k_ ≠ (v1_ : Value).ownBlock) v0_ r1 ∧ Kd.Q (Kd.int .i64) 3 w' w.heap.size (fun _ => True) v1_ r2 ∧ Below w.heap.size w w' := by
 have hu30:=Try.underlying30;have c9:=zqm hr0;have d0:=zqm hc0;clear hr0 hc0;have HB:=zqm (Below.refl w.heap.size w);have H:((spec_l20Open.f l0).bind fun b4=>((spec_l20Three.f k b4.1 b4.2 14).bind fun a2=>(some (a2.1,a2.2.1,a2.2.2.1,a2.2.2.2.1,a2.2.2.2.2.1))))=some (r1,r2,r3,r4,r5):=h;clear h;replace H:=Option.bind_eq_some_iff.mp H;obtain⟨⟨b0,b1⟩,c3,H⟩:=H;replace H:((spec_l20Three.f k b0 b1 14).bind fun a2=>(some (a2.1,a2.2.1,a2.2.2.1,a2.2.2.2.1,a2.2.2.2.2.1)))=some (r1,r2,r3,r4,r5):=H;have A2:=zqm c3;clear c3;replace H:=Option.bind_eq_some_iff.mp H;obtain⟨⟨a5,a8,b9,c1,c2,c7⟩,c4,H⟩:=H;replace H:(some (a5,a8,b9,c1,c2))=some (r1,r2,r3,r4,r5):=H;have A3:=zqm c4;clear c4;simp only [Option.some.injEq,Prod.mk.injEq] at H;obtain⟨rfl,rfl,rfl,rfl,rfl⟩:=H
 go_enter Try.func25,Try.ntmps25
 go_wp2_with (first|((with_reducible refine gate_dst (N:=2) rfl ?_);refine box_event ?hg (N:=2) ?hd (cs:= #[.slice none 0 0,.slice none 0 0]) (t:=30) ?hr ?_;(case hd=>rfl);(case hg=>rfl);(case hr=>first|(go_simp;done)|(go_simp;rfl));intro a1 hg w4 hbox hb;have a9:=zqm (below_step zq0 hb);have a0:=zqm (hbox);have d6:=zqm ((by rw [hg];exact(below_size zq0):w.heap.size≤a1));have a4:=zqm ((by rw [hg];exact(below_size zq0):w.heap.size≤a1));clear HB;have HB:=a9;clear a9 hb hbox hg)|((with_reducible refine gate_callee (f:=72) rfl ?_);refine goesL_ (some 7) rfl rfl Try.func72 zqk rfl #[.slice A0 l0.length c0] rfl zq1 ?_;(with_reducible refine(spec_l20Open.calls _ _ l0 b0 b1 w _ ?side1 ?side2 ?side3 A2.out).mono ?_);(case side1=> exact zq8);(case side2=>exact c9.out);(case side3=>exact d0.out);rintro e w5 ⟨g663,rfl,hi,hb,hb2⟩;refine⟨_,rfl,?_⟩;have a9:=zqm (blk_below (g:=a1) (o:= .cells #[.slice none 0 0,.slice none 0 0] 30 (0,0)) zq2 hb2);replace HB:=zqm (hb);have a3:=zqm (hi);have a6:=zqm (IsS87.ne_blk hi (blk_below (g:=a1) (o:= .cells #[.slice none 0 0,.slice none 0 0] 30 (0,0)) zq2 hb2) (by decide));have a7:=zqm (Ne.symm (IsS87.ne_blk hi (blk_below (g:=a1) (o:= .cells #[.slice none 0 0,.slice none 0 0] 30 (0,0)) zq2 hb2) (by decide)));clear a0;have a0:=a9;clear a9 hb hb2 hi)|((with_reducible refine gate_callee (f:=84) rfl ?_);refine goesL_ (some 8) rfl rfl Try.func84 zqk rfl #[.pointer (some ⟨g663,0,none⟩),.int .i64 14] rfl zq1 ?_;(with_reducible refine(spec_l20Three.calls k g663 b0 b1 14 a5 a8 b9 c1 c2 c7 w _ ?side1 ?side2 A3.out).mono ?_);(case side1=> exact zq293);(case side2=> exact zq51);rintro e w6 ⟨d7,d8,rfl,c5,c6,hi,hb,hk⟩;refine⟨_,rfl,?_⟩;replace a0:=zqm (KeepBut.blk hk (g':=a1) (o:= .cells #[.slice none 0 0,.slice none 0 0] 30 (0,0)) zq2 a7.out (by simp));have b5:=zqm (Kd.S_lower c5 (below_size zq51));have b6:=zqm (Kd.Q_lower c6 (below_size zq51));replace HB:=zqm (hb);replace a3:=zqm (hi);clear hb hk hi c5 c6;obtain⟨b7,b8,d1⟩:=Kd.S_slice b5.out;subst d1;have d9:=a7.out;have e0:=a6.out;have d2:w6.cell? ⟨a1,0,none⟩=some (.slice none 0 0):=(blk_cell a0.out 0).trans rfl;have d3:w6.cell? ⟨a1,1,none⟩=some (.slice none 0 0):=(blk_cell a0.out 1).trans rfl;have d4:=blk_frozen a0.out 0;have d5:=blk_frozen a0.out 1;obtain⟨b2,b3,c8,_⟩:=Kd.Q_slice b6.out;subst c8))
 refine bodyPost_ret (results_list (rs:= [.cell 2 30,.tmp 3,.tmp 4,.tmp 5]) rfl (by simp) (.cell a1 30 #[.slice b7 a5.length b8,.slice b2 a8.length b3] (0,0) _ rfl zq52 Try.underlying30 rfl zqk (.tmp (.tmp (.tmp .nil))))) rfl ?_;exact⟨_,_,zq11,zq83,zq80,zq51⟩
def spec_BehindOf.f (k : Nat) (l0_0 : List (List Int)) (l0_1 : List Int) (a1 : Int) (a2 : Int) (a3 : Int) : Option (Int) := (spec_ProjectOf.f k l0_0 l0_1 a1 a3).bind fun t675 => ((spec_ProjectOf.f k l0_0 l0_1 a2 t675).bind fun t676 => (some t676))
def spec_BehindOf.T1 : Bool × List (List Nat × List Nat) := (true, [([], []), ([], []), ([], []), ([], []), ([], []), ([2, 3, 4], [2, 3, 4]), ([0, 1, 5, 5], [0, 1, 5]), ([6, 6, 0, 1, 2, 3, 4, 5, 6], [6])])
def spec_BehindOf.B1 : List Nat := [0, 0, 0, 0, 0, 28, 63, 127]
theorem spec_BehindOf.tab1 : rtab .any (opsOf Try.f27 1) = spec_BehindOf.T1 := by kernel_rfl
theorem spec_BehindOf.bits1 : waitsOk spec_BehindOf.T1.2 spec_BehindOf.B1 = true := by kernel_rfl
set_option maxHeartbeats 8000000 in
set_option maxRecDepth 100000 in
theorem spec_BehindOf.calls (k : Nat) (A0_0 : Option Addr) (c0_0 : Nat) (l0_0 : List (List Int)) (A0_1 : Option Addr) (c0_1 : Nat) (l0_1 : List Int) (a1 : Int) (a2 : Int) (a3 : Int) (r : Int) (w : World) (hr0_0 : Kd.C (Kd.slice 3 (Kd.int .i64)) w A0_0 l0_0.length l0_0) (hc0_0 : l0_0.length ≤ c0_0) (hr0_1 : Kd.C (Kd.int .i64) w A0_1 l0_1.length l0_1) (hc0_1 : l0_1.length ≤ c0_1) (h : spec_BehindOf.f k l0_0 l0_1 a1 a2 a3 = some r) :
  Calls Try.prog 27 #[.agg #[.slice A0_0 l0_0.length c0_0, .slice A0_1 l0_1.length c0_1], .int .i64 a1, .int .i64 a2, .int .i64 a3] w fun e w' => e = .returned (.int .i64 r) ∧ Below w.heap.size w w' := by
 have hu30:=Try.underlying30;have a8:=zqm hr0_0;have a9:=zqm hc0_0;clear hr0_0 hc0_0;have b0:=zqm hr0_1;have b1:=zqm hc0_1;clear hr0_1 hc0_1;have HB:=zqm (Below.refl w.heap.size w);have H:((spec_ProjectOf.f k l0_0 l0_1 a1 a3).bind fun a5=>((spec_ProjectOf.f k l0_0 l0_1 a2 a5).bind fun a6=>(some a6)))=some r:=h;clear h;replace H:=Option.bind_eq_some_iff.mp H;obtain⟨a5,b2,H⟩:=H;replace H:((spec_ProjectOf.f k l0_0 l0_1 a2 a5).bind fun a6=>(some a6))=some r:=H;have A5:=zqm b2;clear b2;replace H:=Option.bind_eq_some_iff.mp H;obtain⟨a6,b3,H⟩:=H;replace H:(some a6)=some r:=H;have A6:=zqm b3;clear b3;obtain rfl:=Option.some.inj H
 go_enter Try.func27,Try.ntmps27
 (try go_wp2_with (first|((with_reducible refine gate_dst (N:=4) rfl ?_);refine box_event ?hg (N:=4) ?hd (cs:= #[.slice A0_0 l0_0.length c0_0,.slice A0_1 l0_1.length c0_1]) (t:=30) ?hr ?_;(case hd=>rfl);(case hg=>rfl);(case hr=>first|(go_simp;done)|(go_simp;rfl));intro a4 hg w7 hbox hb;have b4:=zqm (below_step zq0 hb);have a0:=zqm (hbox);have b5:=zqm ((by rw [hg];exact(below_size zq0):w.heap.size≤a4));have a7:=zqm ((by rw [hg];exact(below_size zq0):w.heap.size≤a4));clear HB;have HB:=b4;clear b4 hb hbox hg)));replace a0:=zqm (blk_drew a0.out);replace HB:=zqm (below_drew1 HB.out);refine start_ (n:=8) (S:=fun w'=>w'.cell? ⟨a4,0,none⟩=some (.slice A0_0 l0_0.length c0_0)∧w'.cell? ⟨a4,1,none⟩=some (.slice A0_1 l0_1.length c0_1)) (ds:= []) (zqb 8 0) zqk rfl rfl ⟨(blk_cell a0.out 0).trans rfl,(blk_cell a0.out 1).trans rfl⟩ (fun hHeld=>?_);refine with_tabW spec_BehindOf.tab1 spec_BehindOf.bits1 (fun HT_ HW_=>?_);generalize w7.drew=w8 at a0 HB hHeld ⊢;refine pure_ (i:=1) (N:=some 10) (v:=?_) (a':=?_) (zqb 8 2) rfl rfl (any_of HT_.out zqk) (fun _ _ _ h=>h) (Or.inl ⟨by rfl,?_⟩) ?_ ?_;rotate_left
 ·exact zqt
 rotate_left
 ·exact zqs
 refine pure_ (i:=3) (N:=some 12) (v:=?_) (a':=?_) (zqb 8 10) rfl rfl (any_of HT_.out zqk) (fun _ _ _ h=>h) (Or.inl ⟨by rfl,?_⟩) ?_ ?_;rotate_left
 ·exact zqt
 rotate_left
 ·exact zqs
 refine pure_ (i:=4) (N:=some 13) (v:=?_) (a':=?_) (zqb 8 26) rfl rfl (any_of HT_.out zqk) (fun _ _ _ h=>h) (Or.inl ⟨by rfl,?_⟩) ?_ ?_;rotate_left
 ·exact zqt
 rotate_left
 ·exact zqs
 refine take_ (i:=0) (N:=some 9) (v:=?_) (a':=?_) (zqb 8 27) rfl rfl (take_ofW HT_.out HW_.out zqk) (fun _ _ _ h=>h) (Or.inl ⟨by rfl,?_⟩) hHeld ?_ ?_;rotate_left
 ·rintro w' ⟨s0,s1⟩;go_simp;with_reducible rfl
 rotate_left
 ·exact zqs
 refine take_ (i:=2) (N:=some 11) (v:=?_) (a':=?_) (zqb 8 31) rfl rfl (take_ofW HT_.out HW_.out zqk) (fun _ _ _ h=>h) (Or.inl ⟨by rfl,?_⟩) hHeld ?_ ?_;rotate_left
 ·rintro w' ⟨s0,s1⟩;go_simp;with_reducible rfl
 rotate_left
 ·exact zqs
 refine one_ (i:=5) (N:=some 14) (zqb 8 63) rfl rfl (one_of HT_.out zqk) (by decide) (fun K hK=>?_);refine goes_ Try.func21 zqk rfl #[.agg #[.slice A0_0 l0_0.length c0_0,.slice A0_1 l0_1.length c0_1],.int .i64 a1,.int .i64 a3] (by rfl) rfl rfl zq1 ?_;(with_reducible refine(spec_ProjectOf.calls k _ _ l0_0 _ _ l0_1 a1 a3 a5 _ ?side1 ?side2 ?side3 ?side4 A5.out).mono ?_);(case side1=> exact zq26);(case side2=>exact a9.out);(case side3=> exact zq45);(case side4=>exact b1.out);rintro e w9 ⟨rfl,hb⟩;refine⟨_,rfl,?_⟩;replace a0:=zqm (blk_below (g:=a4) (o:= .cells #[.slice A0_0 l0_0.length c0_0,.slice A0_1 l0_1.length c0_1] 30 (0,0)) zq2 hb);replace HB:=zqm (below_step zq307 hb);clear hb;refine hK.out _ _ ⟨(blk_cell a0.out 0).trans rfl,(blk_cell a0.out 1).trans rfl⟩ (fun hHeld=>?_);clear hK K;refine norm_ (a':=?_) ?_ ?_;rotate_left
 ·show Act.put _ (some 14) _=_;exact zqs
 refine one_ (i:=6) (N:=some 15) (zqb 8 127) rfl rfl (one_of HT_.out zqk) (by decide) (fun K hK=>?_);refine goes_ Try.func21 zqk rfl #[.agg #[.slice A0_0 l0_0.length c0_0,.slice A0_1 l0_1.length c0_1],.int .i64 a2,.int .i64 a5] (by rfl) rfl rfl zq1 ?_;(with_reducible refine(spec_ProjectOf.calls k _ _ l0_0 _ _ l0_1 a2 a5 a6 _ ?side1 ?side2 ?side3 ?side4 A6.out).mono ?_);(case side1=> exact zq26);(case side2=>exact a9.out);(case side3=> exact zq45);(case side4=>exact b1.out);rintro e b6 ⟨rfl,hb⟩;refine⟨_,rfl,?_⟩;replace a0:=zqm (blk_below (g:=a4) (o:= .cells #[.slice A0_0 l0_0.length c0_0,.slice A0_1 l0_1.length c0_1] 30 (0,0)) zq2 hb);replace HB:=zqm (below_step zq307 hb);clear hb;refine hK.out _ _ ⟨(blk_cell a0.out 0).trans rfl,(blk_cell a0.out 1).trans rfl⟩ (fun hHeld=>?_);clear hK K;refine norm_ (a':=?_) ?_ ?_;rotate_left
 ·show Act.put _ (some 15) _=_;exact zqs
 refine pure_ (i:=7) (N:=some 8) (v:=?_) (a':=?_) (zqb 8 255) rfl rfl (any_of HT_.out zqk) (fun _ _ _ h=>h) (Or.inl ⟨by rfl,?_⟩) ?_ ?_;rotate_left
 ·exact zqt
 rotate_left
 ·exact zqs
 refine done_ (done_of HT_.out zqk) ?_;try go_wp2
 go_ret
 exact⟨zq11,zq307⟩
end Go.Proofs.Ytdoomkcgdcfmlaa.Print
end
