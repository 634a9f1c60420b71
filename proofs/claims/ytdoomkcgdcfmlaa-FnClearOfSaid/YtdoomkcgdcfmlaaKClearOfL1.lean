/- Part 1 of what this is proved by: for every text of bytes the law of ClearOf answers true -/
import Derived.Test.YtdoomkcgdcfmlaaLB7
import Derived.Below
import Derived.Deep.Draws
import Derived.Deep.AppendLies
import Derived.Maps.AppendAt
import Derived.OwnWalk
import Derived.Laws.BytesArg
import Derived.Laws.MakeOwn
import Derived.Laws.OwnMore
import Derived.Deep.OwnRows
import Derived.Tactics
import Derived.Lib.ConvBytes
import Derived.Laws.Slices
import Derived.WalkKit
import Derived.KernelRfl
import Derived.RowKit3
import Derived.Deep.LoopGhost
import Derived.Deep.QuietTactic
import Derived.BigQuiet
import Derived.WideLaws
import Derived.Deep.DeepCutAuto
import Derived.Deep.CutBlock
import Derived.Deep.RegionHeld3
import Derived.Laws.Rows
import Derived.Lib.AppendStr
import Derived.ArgAppend
import Derived.Laws.IdiomCopy
import Derived.RowKit
import Derived.Test.YtdoomkcgdcfmlaaProg
import Derived.OrdersHeld
import Derived.Laws.BitsLemmas
import Derived.ProofKit
import Derived.OpenShut
set_option linter.all false
section
namespace Go.Proofs.YtdoomkcgdcfmlaaW.PrintWords
open Go.RowKit
def nums (k : IntKind) (xs : List Int) : List Value := xs.map fun x => .int k x
theorem own_lit (W : World) (base : Nat) (e : TypeId) (k : IntKind) (xs : List Int) (hb : base ≤ W.heap.size) (hm : xs.length ≤ 9223372036854775807) :
    (W.alloc (.cells (nums k xs).toArray e)).ownsRow base e 1 (.slice (some ⟨W.heap.size,0,none⟩) xs.length xs.length) xs.length (nums k xs):=by
  have h:=World.ownsRow_lit (base:=base) (e:=e) (size:=1) W (nums k xs).toArray xs.length hb (by simpa [maxLen] using hm) (by simp [nums])
  simpa using h
section
variable {P : Program}
theorem results_ct {fn : Func} {p u : Tmp} {ty : TypeId} (h : fn.results = #[.cell p ty, .tmp u]) (tmps : Array Value) (w : World) (g : Nat) (t : TypeId) (cs : Array Value) (fr : Nat × Nat) (d : TypeDesc)
    (hp:tmps.getD p undef= .pointer (some ⟨g,0,none⟩)) (hg:w.heap[g]? =some (.cells cs t fr))
    (hu:P.underlying ty=some d) (hd:(match d with| .struct _| .array _ _=>true|_=>false)=true) (hi:(P.info? ty).map (·.size)=some cs.size):
    (results fn tmps).run P w= .ok (.tuple #[.agg cs,tmps.getD u undef]) w:=by
  have hp':tmps[p]?.getD undef= .pointer (some ⟨g,0,none⟩):=by simpa using hp
  simp [results,h,hp',asAddr,run_loadVar_row w g t ty cs fr d hg hu hd hi]
theorem results_ctt {fn : Func} {p u v : Tmp} {ty : TypeId} (h : fn.results = #[.cell p ty, .tmp u, .tmp v]) (tmps : Array Value) (w : World) (g : Nat) (t : TypeId) (cs : Array Value) (fr : Nat × Nat) (d : TypeDesc)
    (hp:tmps.getD p undef= .pointer (some ⟨g,0,none⟩)) (hg:w.heap[g]? =some (.cells cs t fr))
    (hu:P.underlying ty=some d) (hd:(match d with| .struct _| .array _ _=>true|_=>false)=true) (hi:(P.info? ty).map (·.size)=some cs.size):
    (results fn tmps).run P w= .ok (.tuple #[.agg cs,tmps.getD u undef,tmps.getD v undef]) w:=by
  have hp':tmps[p]?.getD undef= .pointer (some ⟨g,0,none⟩):=by simpa using hp
  simp [results,h,hp',asAddr,run_loadVar_row w g t ty cs fr d hg hu hd hi]
end
theorem cell_far {W : World} {p a : Addr} (h : a.block ≠ p.block) (u : Value) : (W.setCell p u).cell? a = W.cell? a := by
  have := Below.heap_setCell W p u a.block h
  simp [World.cell?, this]
end Go.Proofs.YtdoomkcgdcfmlaaW.PrintWords
end
section
namespace Go.Proofs.YtdoomkcgdcfmlaaW.PrintWords
open Go.RowKit
def mx (a b : Int) : Int := if a < b then b else a
end Go.Proofs.YtdoomkcgdcfmlaaW.PrintWords

end
section
namespace Go.Proofs.Ytdoomkcgdcfmlaa
variable {p : Prop}
theorem zq9 (h:p:=by repeat(first|(with_reducible first|exact HB.out|apply below_alloc|apply pw_below_drewN|apply below_drew1|refine below_set ?_ a8.out)|exact HB.out)):p:=h
theorem zq26 (h:p:=by repeat(first|exact(Kd.C_below a8.out HB.out)|(with_reducible refine Kd.C_alloc ?_ _)|(with_reducible refine Kd.C_drewN ?_ _)|(with_reducible refine Kd.C_drew ?_))):p:=h
theorem zq27 (h:p:=by repeat(first|exact(Kd.Q_reads' a4.out).2.2|(with_reducible refine Kd.C_alloc ?_ _)|(with_reducible refine Kd.C_drewN ?_ _)|(with_reducible refine Kd.C_drew ?_))):p:=h
theorem zq28 (h:p:=by (with_reducible repeat(first|apply Kd.Q_alloc|apply Kd.Q_drewN|apply Kd.Q_drew));exact a4.out):p:=h
theorem zq30 (h:p:=by repeat(first|(with_reducible first|exact HB.out|apply below_alloc|apply pw_below_drewN|apply below_drew1|refine below_set ?_ (IsS87.ge a2.out)|refine below_set ?_ a5.out)|exact HB.out)):p:=h
theorem zq42 (h:p:=by repeat(first|exact(Kd.C_below b1.out HB.out)|(with_reducible refine Kd.C_alloc ?_ _)|(with_reducible refine Kd.C_drewN ?_ _)|(with_reducible refine Kd.C_drew ?_))):p:=h
theorem zq45 (h:p:=by repeat(first|exact(Kd.C_below b0.out HB.out)|(with_reducible refine Kd.C_alloc ?_ _)|(with_reducible refine Kd.C_drewN ?_ _)|(with_reducible refine Kd.C_drew ?_))):p:=h
theorem zq57 (h:p:=by repeat(first|exact(Kd.C_below a9.out HB.out)|(with_reducible refine Kd.C_alloc ?_ _)|(with_reducible refine Kd.C_drewN ?_ _)|(with_reducible refine Kd.C_drew ?_))):p:=h
theorem zq60 (h:p:=by repeat(first|exact(Kd.C_below a6.out (by repeat(first|(with_reducible first|exact HB.out|apply below_alloc|apply pw_below_drewN|apply below_drew1|refine below_set ?_ a4.out)|exact HB.out)))|(with_reducible refine Kd.C_alloc ?_ _)|(with_reducible refine Kd.C_drewN ?_ _)|(with_reducible refine Kd.C_drew ?_))):p:=h
theorem zq62 (h:p:=by repeat(first|exact(Kd.C_below a5.out (by repeat(first|(with_reducible first|exact HB.out|apply below_alloc|apply pw_below_drewN|apply below_drew1|refine below_set ?_ a4.out)|exact HB.out)))|(with_reducible refine Kd.C_alloc ?_ _)|(with_reducible refine Kd.C_drewN ?_ _)|(with_reducible refine Kd.C_drew ?_))):p:=h
theorem zq76 (h:p:=by (with_reducible repeat(first|apply Kd.S_alloc|apply Kd.S_drewN|apply Kd.S_drew));exact a6.out):p:=h
theorem zq85 (h:p:=by (with_reducible repeat(first|refine blk_drewN ?_ _|refine blk_drew ?_|refine blk_alloc ?_ _));refine blk_put (cs:= #[.slice b7 a7.length b8,.slice none 0 0]) ?_ 1 _ rfl;(with_reducible repeat(first|refine blk_drewN ?_ _|refine blk_drew ?_|refine blk_alloc ?_ _));refine blk_put (cs:= #[.slice none 0 0,.slice none 0 0]) ?_ 0 _ rfl;(with_reducible repeat(first|refine blk_drewN ?_ _|refine blk_drew ?_|refine blk_alloc ?_ _));refine blk_far ?_ a8.out _;(with_reducible repeat(first|refine blk_drewN ?_ _|refine blk_drew ?_|refine blk_alloc ?_ _));refine blk_far ?_ a8.out _;(with_reducible repeat(first|refine blk_drewN ?_ _|refine blk_drew ?_|refine blk_alloc ?_ _));exact a0.out):p:=h
theorem zq102 (h:p:=by repeat(first|(with_reducible first|exact HB.out|apply below_alloc|apply pw_below_drewN|apply below_drew1|refine below_set ?_ (IsS87.ge a0.out)|refine below_set ?_ c3.out|refine below_set ?_ d0.out)|exact HB.out)):p:=h
theorem zq117 (h:p:=by repeat(first|(with_reducible first|exact a0.out|apply IsS87.alloc|apply IsS87.drewN|apply IsS87.drew|apply IsS87.set_1|refine IsS87.far ?_ a7.out _|refine IsS87.far ?_ a9.out _)|exact a0.out)):p:=h
theorem zq118 (h:p:=by repeat(first|(with_reducible first|exact HK.out|apply KeepBut.set_|apply keep_drewN|apply keep_drew|apply keep_alloc|refine keep_far ?_ b9.out _|refine keep_far ?_ c9.out _)|exact HK.out)):p:=h
theorem zq119 (h:p:=by repeat(first|exact(Kd.S_reads' a6.out).2.2|(with_reducible refine Kd.C_alloc ?_ _)|(with_reducible refine Kd.C_drewN ?_ _)|(with_reducible refine Kd.C_drew ?_))):p:=h
theorem zq123 (h:p:=by repeat(first|exact(Kd.Q_reads' HO_980001.out).2.2|(with_reducible refine Kd.C_alloc ?_ _)|(with_reducible refine Kd.C_drewN ?_ _)|(with_reducible refine Kd.C_drew ?_))):p:=h
theorem zq124 (h:p:=by repeat(first|exact(Kd.S_reads' HO_980000.out).2.2|(with_reducible refine Kd.C_alloc ?_ _)|(with_reducible refine Kd.C_drewN ?_ _)|(with_reducible refine Kd.C_drew ?_))):p:=h
theorem zq127 (h:p:=by repeat(first|exact(Kd.C_below b8.out HB.out)|(with_reducible refine Kd.C_alloc ?_ _)|(with_reducible refine Kd.C_drewN ?_ _)|(with_reducible refine Kd.C_drew ?_))):p:=h
theorem zq128 (h:p:=by repeat(first|(with_reducible first|exact a2.out|apply IsS87.alloc|apply IsS87.drewN|apply IsS87.drew|apply IsS87.set_1|refine IsS87.far ?_ a4.out _)|exact a2.out)):p:=h
theorem zq132 (h:p:=by repeat(first|(with_reducible first|exact HK.out|apply KeepBut.set_|apply keep_drewN|apply keep_drew|apply keep_alloc|refine keep_far ?_ b9.out _)|exact HK.out)):p:=h
theorem zq135 (h:p:=by (with_reducible repeat(first|apply Kd.Q_alloc|apply Kd.Q_drewN|apply Kd.Q_drew));exact Kd.Q_mono (Kd.Q_far (p:=⟨a1,1,none⟩) (Kd.Q_far (p:=⟨a1,0,none⟩) (Kd.Q_far (p:=⟨a3,1,none⟩) (Kd.Q_far (p:=⟨a3,0,none⟩) (Kd.Q_types (Kd.Q_types b3.out a9.out (by decide)) a0.out (by decide)) (fun _ hk=>hk.1.2) (.slice b7 a7.length b8)) (fun _ hk=>hk.1.2) (.slice b5 b0.length b6)) (fun _ hk=>hk.2) (.slice b7 a7.length b8)) (fun _ hk=>hk.2) (.slice b5 b0.length b6)) (fun _ hk=>trivial)):p:=h
theorem zq136 (h:p:=by (with_reducible repeat(first|apply Kd.S_alloc|apply Kd.S_drewN|apply Kd.S_drew));exact Kd.S_mono (Kd.S_far (p:=⟨a1,1,none⟩) (Kd.S_far (p:=⟨a1,0,none⟩) (Kd.S_far (p:=⟨a3,1,none⟩) (Kd.S_far (p:=⟨a3,0,none⟩) (Kd.S_types (Kd.S_types b2.out a9.out (by decide)) a0.out (by decide)) (fun _ hk=>hk.1.2) (.slice b7 a7.length b8)) (fun _ hk=>hk.1.2) (.slice b5 b0.length b6)) (fun _ hk=>hk.2) (.slice b7 a7.length b8)) (fun _ hk=>hk.2) (.slice b5 b0.length b6)) (fun _ hk=>hk.1.1)):p:=h
theorem zq140 (h:p:=by (with_reducible repeat(first|apply Kd.R_alloc|apply Kd.R_drewN|apply Kd.R_drew));exact b7.out):p:=h
theorem zq143 (h:p:=by (with_reducible repeat(first|apply Kd.Q_alloc|apply Kd.Q_drewN|apply Kd.Q_drew));exact(Kd.Q_mono (Kd.Q_far (p:=⟨a1,1,none⟩) (Kd.Q_far (p:=⟨a1,0,none⟩) (Kd.Q_types a4.out a0.out (by decide)) (fun _ hk=>hk.2) (.slice b3 a3.length b1)) (fun _ hk=>hk.2) (.slice b0 a2.length a9)) (fun _ h_=>h_.1))):p:=h
theorem zq144 (h:p:=by (with_reducible repeat(first|apply Kd.Q_alloc|apply Kd.Q_drewN|apply Kd.Q_drew));exact(Kd.Q_mono (Kd.Q_far (p:=⟨a1,1,none⟩) (Kd.Q_far (p:=⟨a1,0,none⟩) (Kd.Q_types a4.out a0.out (by decide)) (fun _ hk=>hk.2) (.slice d6 a3.length d3)) (fun _ hk=>hk.2) (.slice d7 a2.length d4)) (fun _ h_=>h_.1))):p:=h
theorem zq146 (h:p:=by (with_reducible repeat(first|apply Kd.Q_alloc|apply Kd.Q_drewN|apply Kd.Q_drew));exact(Kd.Q_mono (Kd.Q_far (p:=⟨a1,1,none⟩) (Kd.Q_far (p:=⟨a1,0,none⟩) (Kd.Q_types a4.out a0.out (by decide)) (fun _ hk=>hk.2) (.slice d1 a3.length c4)) (fun _ hk=>hk.2) (.slice d2 a2.length c6)) (fun _ h_=>h_.1))):p:=h
theorem zq153 (h:p:=by (with_reducible repeat(first|refine blk_drewN ?_ _|refine blk_drew ?_|refine blk_alloc ?_ _));exact a6.out):p:=h
theorem zq154 (h:p:=by repeat(first|exact(Kd.R_reads' HO_5.out).2.2|(with_reducible refine Kd.C_alloc ?_ _)|(with_reducible refine Kd.C_drewN ?_ _)|(with_reducible refine Kd.C_drew ?_))):p:=h
theorem zq156 (h:p:=by (with_reducible repeat(first|apply Kd.Q_alloc|apply Kd.Q_drewN|apply Kd.Q_drew));exact HO_980001.out):p:=h
theorem zq158 (h:p:=by (with_reducible repeat(first|apply Kd.S_alloc|apply Kd.S_drewN|apply Kd.S_drew));exact HO_980000.out):p:=h
theorem zq173 (h:p:=by (with_reducible repeat(first|apply Kd.R_alloc|apply Kd.R_drewN|apply Kd.R_drew));exact b2.out):p:=h
theorem zq176 (h:p:=by repeat(first|(with_reducible first|exact HB.out|apply below_alloc|apply pw_below_drewN|apply below_drew1|refine below_set ?_ (IsS87.ge a2.out)|refine below_set ?_ a5.out|refine below_set ?_ c8.out)|exact HB.out)):p:=h
theorem zq196 (h:p:=by (with_reducible repeat(first|apply Kd.S_alloc|apply Kd.S_drewN|apply Kd.S_drew));exact(Kd.S_mono (Kd.S_far (p:=⟨a1,1,none⟩) (Kd.S_far (p:=⟨a1,0,none⟩) (Kd.S_types a6.out a0.out (by decide)) (fun _ hk=>hk.2) (.slice b3 a3.length b1)) (fun _ hk=>hk.2) (.slice b0 a2.length a9)) (fun _ h_=>h_.1))):p:=h
theorem zq202 (h:p:=by (with_reducible repeat(first|apply Kd.S_alloc|apply Kd.S_drewN|apply Kd.S_drew));exact(Kd.S_mono (Kd.S_far (p:=⟨a1,1,none⟩) (Kd.S_far (p:=⟨a1,0,none⟩) (Kd.S_types a6.out a0.out (by decide)) (fun _ hk=>hk.2) (.slice d6 a3.length d3)) (fun _ hk=>hk.2) (.slice d7 a2.length d4)) (fun _ h_=>h_.1))):p:=h
theorem zq248 (h:p:=by (with_reducible repeat(first|apply Kd.S_alloc|apply Kd.S_drewN|apply Kd.S_drew));exact(Kd.S_mono (Kd.S_far (p:=⟨a1,1,none⟩) (Kd.S_far (p:=⟨a1,0,none⟩) (Kd.S_types a6.out a0.out (by decide)) (fun _ hk=>hk.2) (.slice d1 a3.length c4)) (fun _ hk=>hk.2) (.slice d2 a2.length c6)) (fun _ h_=>h_.1))):p:=h
theorem zq275 (h:p:=by (with_reducible repeat(first|apply Kd.Q_alloc|apply Kd.Q_drewN|apply Kd.Q_drew));exact b4.out):p:=h
theorem zq292 (h:p:=by repeat(first|exact(Kd.C_below a4.out HB.out)|(with_reducible refine Kd.C_alloc ?_ _)|(with_reducible refine Kd.C_drewN ?_ _)|(with_reducible refine Kd.C_drew ?_))):p:=h
theorem zq295 (h:p:=by repeat(first|exact(Kd.R_reads' b7.out).2.2|(with_reducible refine Kd.C_alloc ?_ _)|(with_reducible refine Kd.C_drewN ?_ _)|(with_reducible refine Kd.C_drew ?_))):p:=h
theorem zq297 (h:p:=by repeat(first|exact(Kd.R_reads' b2.out).2.2|(with_reducible refine Kd.C_alloc ?_ _)|(with_reducible refine Kd.C_drewN ?_ _)|(with_reducible refine Kd.C_drew ?_))):p:=h
theorem zq309 (h:p:=by repeat(first|exact g7.out|(with_reducible refine Kd.C_alloc ?_ _)|(with_reducible refine Kd.C_drewN ?_ _)|(with_reducible refine Kd.C_drew ?_))):p:=h
theorem zq311 (h:p:=by (with_reducible repeat(first|refine blk_drewN ?_ _|refine blk_drew ?_|refine blk_alloc ?_ _));exact a3.out):p:=h
theorem zq324 (h:p:=by (try simp only [List.map_toArray,List.map_cons,List.map_nil]);first|done|rfl):p:=h
theorem zq325 (h:p:=by (with_reducible repeat(first|apply Kd.S_alloc|apply Kd.S_drewN|apply Kd.S_drew));exact b2.out):p:=h
theorem zq327 (h:p:=by repeat (first | exact HB1.out | apply below_alloc | apply pw_below_drewN | apply below_drew1)):p:=h
theorem zq330 (h:p:=by (with_reducible repeat(first|apply Kd.Q_alloc|apply Kd.Q_drewN|apply Kd.Q_drew));exact b3.out):p:=h
theorem zq333 (h:p:=by repeat(first|(with_reducible first|exact HB.out|apply below_alloc|apply pw_below_drewN|apply below_drew1|refine below_set ?_ (IsS87.ge a0.out)|refine below_set ?_ c3.out)|exact HB.out)):p:=h
theorem zq336 (h:p:=by repeat(first|exact Below.refl _ _|apply pw_below_drewN|apply below_drew1)):p:=h
theorem zq340 (h:p:=by (try simp only [List.map_toArray, List.map_cons, List.map_nil]); first | done | rfl):p:=h
theorem zq346 (h:p:=by repeat(first|(with_reducible first|exact a0.out|apply IsS87.alloc|apply IsS87.drewN|apply IsS87.drew|apply IsS87.set_1|refine IsS87.far ?_ a7.out _)|exact a0.out)):p:=h
theorem zq354 (h:p:=by (try simp only [List.map_toArray,List.map_cons,List.map_nil]);first|done|(simp only [c8];rfl)|rfl|(simp only [List.length_drop,List.length_take];rfl)):p:=h
theorem zq365 (h:p:=by repeat (first | exact HB3.out | apply below_alloc | apply pw_below_drewN | apply below_drew1)):p:=h
theorem zq366 (h:p:=by (with_reducible repeat(first|apply Kd.R_alloc|apply Kd.R_drewN|apply Kd.R_drew));exact e1.out):p:=h
theorem zq370 (h:p:=by have:=c8.out;have:=d7.out;have:=d8.out;omega):p:=h
theorem zq386 (h:p:=by (with_reducible repeat (first | apply Kd.R_alloc | apply Kd.R_drewN | apply Kd.R_drew)); exact HO1.out):p:=h
theorem zq414 (h:p:=by repeat(first|exact HUC.out|(refine Kd.C_drewN ?_ _)|(refine Kd.C_drew ?_))):p:=h
theorem zq426 (h:p:=by repeat(first|exact HB8.out|apply pw_below_drewN|apply below_drew1)):p:=h
end Go.Proofs.Ytdoomkcgdcfmlaa
end
section
namespace Oml
universe u
namespace OL
variable {α : Type u} (L : OL α)
theorem le_neg_iff (a b : α) : L.le a (L.neg b) ↔ L.le b (L.neg a) := by
  constructor <;> intro h
  · have := L.neg_anti _ _ h; rwa [L.neg_neg] at this
  · have := L.neg_anti _ _ h; rwa [L.neg_neg] at this
theorem neg_inj {a b : α} (h : L.neg a = L.neg b) : a = b := by
  have := congrArg L.neg h; rwa [L.neg_neg, L.neg_neg] at this
theorem meet_le_l {a b c : α} (h : L.le a c) : L.le (L.meet a b) c := L.le_trans _ _ _ (L.meet_l _ _) h
theorem meet_le_r {a b c : α} (h : L.le b c) : L.le (L.meet a b) c := L.le_trans _ _ _ (L.meet_r _ _) h
theorem meet_mono {a b c d : α} (h : L.le a c) (k : L.le b d) : L.le (L.meet a b) (L.meet c d) := L.le_meet _ _ _ (L.meet_le_l h) (L.meet_le_r k)
theorem join_eq_r (a b : α) : L.join a b = b ↔ L.le a b := by
  constructor
  · intro h; rw [← h]; exact L.join_l _ _
  · intro h; exact L.le_antisymm _ _ (L.join_le _ _ _ h (L.le_refl _)) (L.join_r _ _)
theorem join_eq_l (a b : α) : L.join a b = a ↔ L.le b a := by rw [L.join_comm]; exact L.join_eq_r b a
theorem neg_join (a b : α) : L.neg (L.join a b) = L.meet (L.neg a) (L.neg b) := by
  apply L.neg_inj
  rw [L.neg_neg, L.neg_meet, L.neg_neg, L.neg_neg]
theorem neg_top : L.neg L.top = L.bot := L.neg_neg _
theorem join_bot (a : α) : L.join a L.bot = a := (L.join_eq_l _ _).2 (L.bot_le _)
theorem join_top (a : α) : L.join a L.top = L.top := (L.join_eq_r _ _).2 (L.le_top _)
theorem le_bot {a : α} (h : L.le a L.bot) : a = L.bot := L.le_antisymm _ _ h (L.bot_le _)
def Keeps : Prop := ∀ a b, L.le a b → L.join a (L.meet b (L.neg a)) = b
def proj (a b : α) : α := L.meet a (L.join (L.neg a) b)
variable {L}
theorem Keeps.dual (K : L.Keeps) {a b : α} (h : L.le a b) : L.meet b (L.join a (L.neg b)) = a := by
  have := K _ _ (L.neg_anti _ _ h)
  have h2 := congrArg L.neg this
  rw [L.neg_join, L.neg_meet, L.neg_neg, L.neg_neg] at h2
  exact h2
theorem Keeps.proj_below (K : L.Keeps) {a b : α} (h : L.le b a) : L.proj a b = b := by
  have := K.dual h
  unfold proj; rwa [L.join_comm]
theorem Keeps.proj_apart (K : L.Keeps) (a b c : α) : L.le (L.proj a c) (L.neg b) ↔ L.le (L.proj a b) (L.neg c) := by
  have key : ∀ b c, L.le (L.proj a c) (L.neg b) → L.le (L.proj a b) (L.neg c) := by
    intro b c h
    -- b ≤ (proj a c)' = a' ∨ (a ∧ c'); project: ≤ a ∧ (a' ∨ (a ∧ c')) = a ∧ c' ≤ c'
    have h1:L.le b (L.neg (L.proj a c)):=(L.le_neg_iff _ _).1 h
    have e : L.neg (L.proj a c) = L.join (L.neg a) (L.meet a (L.neg c)) := by
      unfold proj;rw [L.neg_meet,L.neg_join,L.neg_neg]
    rw [e] at h1
    have h2 : L.le (L.proj a b) (L.proj a (L.meet a (L.neg c))) := by
      unfold proj
      exact L.meet_mono (L.le_refl _) (L.join_le _ _ _ (L.join_l _ _) h1)
    rw [K.proj_below (L.meet_l _ _)] at h2
    exact L.le_trans _ _ _ h2 (L.meet_r _ _)
  exact⟨key b c,key c b⟩
theorem Keeps.proj_bot_iff (K : L.Keeps) (a b : α) : L.proj a b = L.bot ↔ L.le b (L.neg a) := by
  have h:=K.proj_apart a L.top b
  rw [L.neg_top] at h
  constructor
  · intro e
    have:=h.1 (by rw [e];exact L.le_refl _)
    unfold proj at this
    rw [L.join_top,L.meet_top] at this
    exact(L.le_neg_iff _ _).1 this
  · intro e
    refine L.le_bot (h.2 ?_)
    unfold proj
    rw [L.join_top,L.meet_top]
    exact(L.le_neg_iff _ _).1 e
end OL
end Oml
end
section
namespace Oml
theorem allN_false {n : Nat} {p : Nat → Bool} : allN n p = false ↔ ∃ i, i < n ∧ p i = false := by
  rw [← Bool.not_eq_true,allN_iff]
  constructor
  · intro h
    apply Classical.byContradiction
    intro k
    exact h fun i hi => by
      cases e:p i
      · exact absurd ⟨i,hi,e⟩ k
      · rfl
  · rintro ⟨i, hi, e⟩ h
    rw [h i hi] at e
    exact absurd e (by simp)
section
variable {U : List (List Int)} {N : List Int} (L : Logic U N)
theorem Logic.ng_eq (a : Fin U.length) : at1 N a = ((L.ng a).1 : Int) := by
  have := L.ran a a.2
  show at1 N a = (((at1 N a).toNat : Nat) : Int)
  omega
include L in
end
end Oml
end
section
namespace Go.Proofs.Ytdoomkcgdcfmlaa.Print
open Go.RowKit Go.Proofs.YtdoomkcgdcfmlaaW.PrintWords Go.Proofs.YtdoomkcgdcfmlaaW.PrintLast Go.Proofs.YtdoomkcgdcfmlaaW.PrintMore
open Oml
def inR (n : Nat) (a : Int) : Bool := decide (0 ≤ a) && decide (a < (n : Int))
theorem inR_iff {U : List (List Int)} {a : Int} : inR U.length a = true ↔ In U a := by simp [inR, In]
section
variable {U : List (List Int)} {N : List Int} (L : Logic U N)
include L
theorem _root_.Oml.Logic.in_and {a b : Int} (ha : In U a) (hb : In U b) : In U (andI U a b) := by
  obtain⟨m,hm⟩:=Option.isSome_iff_exists.1 (L.meets a.toNat b.toNat (by have:=ha.1;have:=ha.2;omega) (by have:=hb.1;have:=hb.2;omega))
  have:=(findN_some hm).1
  unfold In andI mI;rw [hm];simp only [optI];omega
theorem _root_.Oml.Logic.in_or {a b : Int} (ha : In U a) (hb : In U b) : In U (orI U a b) := by
  obtain⟨m,hm⟩:=Option.isSome_iff_exists.1 (L.joins a.toNat b.toNat (by have:=ha.1;have:=ha.2;omega) (by have:=hb.1;have:=hb.2;omega))
  have:=(findN_some hm).1
  unfold In orI jI;rw [hm];simp only [optI];omega
theorem _root_.Oml.Logic.in_not {a : Int} (ha : In U a) : In U (notI N a) := L.ran a.toNat (by have := ha.1; have := ha.2; omega)
end
namespace View
section
variable {W W1 : World} {g : Nat} {U : List (List Int)} {N : List Int} {v : Adr} (h : View W g U N v)
include h
theorem f4 : W.cell? ⟨g, 4, none⟩ = some (.int .i64 (noI U)) := (blk_cell h.blk 4).trans rfl
theorem rowsU (L : Logic U N) : Kd.C (Kd.slice 3 (Kd.int .i64)) W (some v.aU) U.length U := by
  have hs:=L.small
  refine⟨rfl,by omega,fun _=>⟨v.aU,rfl,fun j p hp=>?_⟩⟩
  have hj:j<U.length:=(List.getElem?_eq_some_iff.1 hp).1
  have hin:In U (j:Int):=⟨by omega,by omega⟩
  have hpl : p.length = U.length := by
    have:=L.row j hj
    rw [List.getD_eq_getElem?_getD,hp] at this
    exact this
  refine⟨[.slice (some (v.rU j)) p.length (v.qU j)],rfl,⟨some (v.rU j),v.qU j,rfl,by rw [hpl];have:=h.capR _ hin;simpa using this,?_⟩,fun i u hu=>?_⟩
  · refine ⟨rfl, by omega, fun _ => ⟨v.rU j, rfl, fun i q hq => ?_⟩⟩
    have hi:i<p.length:=(List.getElem?_eq_some_iff.1 hq).1
    refine⟨[.int .i64 q],rfl,rfl,fun z u hu=>?_⟩
    have hz : z = 0 := by
      rcases z with _|z
      · rfl
      · simp at hu
    subst hz
    have hu':Value.int .i64 q=u:=by simpa using hu
    subst hu'
    have:=h.u2 j i hin ⟨by omega,by omega⟩
    simp only [Int.toNat_natCast] at this
    show W.cell? ((v.rU j).add (i*1+0))=_
    rw [Nat.mul_one,Nat.add_zero,this]
    simp [at2,List.getD_eq_getElem?_getD,hp,hq]
  · have hz : i = 0 := by
      rcases i with _|z
      · rfl
      · simp at hu
    subst hz
    have hu':Value.slice (some (v.rU j)) p.length (v.qU j)=u:=by simpa using hu
    subst hu'
    have:=h.u j hin
    simp only [Int.toNat_natCast] at this
    show W.cell? (v.aU.add (j*1+0))=_
    rw [Nat.mul_one,Nat.add_zero,this,hpl]
end
end View
end Go.Proofs.Ytdoomkcgdcfmlaa.Print
end
section
namespace Go.Proofs.Ytdoomkcgdcfmlaa.Print
open Go.RowKit Go.Proofs.YtdoomkcgdcfmlaaW.PrintWords Go.Proofs.YtdoomkcgdcfmlaaW.PrintLast Go.Proofs.YtdoomkcgdcfmlaaW.PrintMore
open Oml
theorem lit_C (W : World) (e : TypeId) (xs : List Int) (hm : xs.length ≤ 9223372036854775807) :
    Kd.C (Kd.int .i64) (W.alloc (.cells (nums .i64 xs).toArray e)) (some ⟨W.heap.size,0,none⟩) xs.length xs:=
  (Kd.R_reads' (Kd.R_of_own (ok:=fun _=>True) (own_lit W W.heap.size e .i64 xs (Nat.le_refl _) hm) (fun _ _=>trivial))).2.2
theorem isAnswer_eq (U : List (List Int)) (a : Int) : impl_isAnswer.f U a = some (inR U.length a) := by
  unfold impl_isAnswer.f inR
  by_cases h : a ≥ 0
  · rw [if_pos h]; simp [h]
  · rw [if_neg h]; simp; omega
theorem knows_nil (A : Option Addr) (n c : Nat) (w : World) :
    Calls Try.prog 78 #[.pointer none, .slice A n c] w fun e w' => e = .returned (.bool false) ∧ Below w.heap.size w w' := by
  go_enter Try.func78, Try.ntmps78
  go_wp2_with fail
  go_ret
  exact ⟨rfl, Below.refl _ _⟩
set_option maxHeartbeats 1000000 in
theorem knows_calls (g : Nat) (U : List (List Int)) (N : List Int) (v : Adr) (w : World) (L : Logic U N) (hV : View w g U N v) (A : Option Addr) (c : Nat) (xs : List Int) (n : Nat) (hn : xs.length = n)
    (hr:Kd.C (Kd.int .i64) w A n xs) (hs:n≤100) (b:Bool) (hb:xs.all (inR U.length)=b):
    Calls Try.prog 78 #[.pointer (some ⟨g,0,none⟩),.slice A n c] w fun e w'=>e= .returned (.bool b)∧Below w.heap.size w w':=by
  have hu70:=Try.underlying70
  have HV:=Aside0.mk hV
  have HR:=Aside0.mk hr
  have HL:=Aside0.mk L
  have HN:=Aside0.mk hn
  have HBB:=Aside0.mk hb
  clear hV hr L hn hb
  go_enter Try.func78,Try.ntmps78
  go_wp2_with fail
  go_loopg [11] (n+1) (fun kq v11 W=> ∃i m:Nat,v11= .int .i64 i∧Aside0 (i+kq=n+1)∧Aside0 (i≤n)∧Aside0 (∀j,j<i→inR U.length (at1 xs j)=true)∧W=w.drewN m)
  case atStart=>exact⟨0,0,rfl,⟨by omega⟩,⟨by omega⟩,⟨fun j hj=>absurd hj (by omega)⟩,rfl⟩
  case round =>
    obtain⟨i,m,rfl,HK,HK2,HS,rfl⟩:=hrel
    cases gk with
    |zero=>exact absurd HK.out (by have:=HK2.out;omega)
    |succ kn=>
    by_cases hlt:i<n
    · have hlt' : decide (i < n) = true := decide_eq_true hlt
      have HLT:=Aside0.mk hlt
      obtain⟨ad,e,hx⟩:=ints_cell HR.out i (by omega) (by omega)
      subst e
      simp only [Int.toNat_natCast] at hx
      have p1:(i<n)=True:=eq_true hlt
      have h0:=HV.out.f0
      have HUC:=Aside0.mk (HV.out.rowsU HL.out)
      clear hlt
      cases hi:inR U.length (at1 xs i) with
      | true =>
        have HI:=Aside0.mk hi
        have HA:=Aside0.mk (show impl_isAnswer.f U (at1 xs i)=some true by rw [isAnswer_eq,hi])
        clear hi
        go_wp2_with (go_at_call 123;(with_reducible refine(impl_isAnswer.calls _ _ U (at1 xs i) true _ ?s1 ?s2 HA.out).mono ?_);(case s1=> exact zq414);(case s2=>exact HV.out.capU);rintro e w' ⟨rfl,⟨nd,rfl⟩⟩)
        go_roundg kn
        case measure=>omega
        case rel => exact ⟨i + 1, _, by first | go_num | (rw [wrap_small (by omega) (by have := HLT.out; omega)]; go_num), ⟨by have := HK.out; omega⟩, ⟨by have := HLT.out; omega⟩, ⟨fun j hj => by
          rcases Nat.lt_or_ge j i with h|h
          · exact HS.out j h
          · obtain rfl : j = i := by omega
            exact HI.out⟩,rfl⟩
      | false =>
        have HI:=Aside0.mk hi
        have HA:=Aside0.mk (show impl_isAnswer.f U (at1 xs i)=some false by rw [isAnswer_eq,hi])
        clear hi
        have hbf : b = false := by
          rw [← HBB.out,Bool.eq_false_iff]
          intro h
          rw [List.all_eq_true] at h
          have hin:i<xs.length:=by have:=HN.out;have:=HLT.out;omega
          have:=h (xs[i]'hin) (List.getElem_mem _)
          have h2:=HI.out
          rw [show at1 xs i=xs[i]'hin by simp [at1,List.getD_eq_getElem?_getD,List.getElem?_eq_getElem hin],this] at h2
          exact absurd h2 (by simp)
        subst hbf
        go_wp2_with (go_at_call 123;(with_reducible refine(impl_isAnswer.calls _ _ U (at1 xs i) false _ ?s1 ?s2 HA.out).mono ?_);(case s1=> exact zq414);(case s2=>exact HV.out.capU);rintro e w' ⟨rfl,⟨nd,rfl⟩⟩)
        go_ret
        exact⟨rfl,zq336⟩
    · have hlt' : decide (i < n) = false := decide_eq_false hlt
      obtain rfl:i=n:=by have:=HK2.out;omega
      have hbt : b = true := by
        rw [← HBB.out,List.all_eq_true]
        intro x hx
        obtain⟨j,hj,rfl⟩:=List.mem_iff_getElem.1 hx
        have:=HS.out j (by have:=HN.out;omega)
        rwa [show at1 xs j=xs[j]'hj by simp [at1,List.getD_eq_getElem?_getD,List.getElem?_eq_getElem hj]] at this
      subst hbt
      clear hlt
      go_wp2_with fail
      go_ret
      exact⟨rfl,zq336⟩
theorem goesV_ {P : Program} {ops : Array Oper} {Q : Exit → Act → World → Prop} {rest : List Oper} {oi : Oper} {a : Act} {w : World} (N : Option Tmp) (hd : oi.dst = N) (hg : oi.guard = none) {f : FuncId} {fn : Func} {x : Operand} {xo : Array Operand} {ts : Array TypeId} {cs : Array Value}
    (hf : P.funcs[f]? = some fn) (hname : (fn.name == "runtime.NumGoroutine") = false) (hb : fn.body.isSome = true) (args : Array Value)
    (hop : oi.op = .call { callee := .value x, args := xo, argTypes := ts }) (hx : a.eval x = .func (.func f) #[] cs) (hargs : xo.map a.eval = args)
    (h : Calls P f (args ++ cs) w fun e w' => ∃ v, e = .returned v ∧ wpList P ops Q rest (a.put N v) w') : wpList P ops Q (oi :: rest) a w := by
  refine wpList_plain hg fun K hK => ?_
  have he := enters_ hf hname hb (args ++ cs) w
  have hrun : (execOp a.eval oi).run P w = .ok (.enter f (args ++ cs)) w := by
    unfold execOp
    simp [hop, resolve, Deferred.ofValue, invoke, hx, hargs, he]
  unfold Oper.wp
  rw [hrun, Oper.upon_enter]
  refine h.mono fun e w'' hh => ?_
  obtain ⟨v, rfl, hk⟩ := hh
  subst hd
  exact hK _ _ hk
def filI (n : Nat) (p : Nat → Bool) : List Int := ((List.range n).filter p).map fun (a : Nat) => (a : Int)
theorem filI_succ (n : Nat) (p : Nat → Bool) : filI (n + 1) p = if p n = true then filI n p ++ [(n : Int)] else filI n p := by
  unfold filI
  rw [List.range_succ, List.filter_append, List.map_append]
  cases h : p n <;> simp [h]
theorem filI_length (n : Nat) (p : Nat → Bool) : (filI n p).length ≤ n := by
  unfold filI
  rw [List.length_map]
  exact Nat.le_trans (List.length_filter_le _ _) (by simp)
set_option maxHeartbeats 1000000 in
set_option maxRecDepth 100000 in
theorem all_calls (g : Nat) (U : List (List Int)) (N : List Int) (v : Adr) (w : World) (hs : U.length ≤ 12) (hV : View w g U N v) (fv : Nat) (fn : Func) (cs : Array Value) (hf : Try.prog.funcs[fv]? = some fn) (hname : (fn.name == "runtime.NumGoroutine") = false) (hb : fn.body.isSome = true)
    (p : Nat → Bool) (step : ∀ a : Nat, a < U.length → ∀ W, Below w.heap.size w W → Calls Try.prog fv (#[.int .i64 a] ++ cs) W fun e w'' => e = .returned (.bool (p a)) ∧ Below W.heap.size W w'') :
    Calls Try.prog 91 #[.pointer (some ⟨g, 0, none⟩), .func (.func fv) #[] cs] w fun e w' => ∃ v0, e = .returned v0 ∧ Kd.R (Kd.int .i64) 3 w' w.heap.size (fun _ => True) v0 (filI U.length p) ∧ Below w.heap.size w w' := by
  have hu70 := Try.underlying70
  have HF := Aside0.mk hf
  have HNM := Aside0.mk hname
  have HBD := Aside0.mk hb
  have HV := Aside0.mk hV
  have HST := Aside0.mk step
  have HB := Aside0.mk (Below.refl w.heap.size w)
  have hf0 := hV.f0
  clear hf hname hb hV step
  go_enter Try.func91, Try.ntmps91
  go_wp2_with (first | ((with_reducible refine gate_dst (N := 7) rfl ?_); refine Kd.R_lit (Kd.int .i64) _ 3 ?hg (N := 7) ?hd (xs := ([] : List Int)) (inner := []) (ok := fun _ => True) (okp := fun _ => True) ?hr ?hp (fun _ hk => hk) trivial (Below.refl _ _) (Nat.le_refl _) (by simp) ?_; (case hd => rfl); (case hg => rfl); (case hr => first | (go_simp; done) | (go_simp; rfl)); (case hp => exact (Reps.none _ _)); intro v496 w4 ho5 hb hg_ hnew_; clear hg_ hnew_; have HO := Aside0.mk ho5; have HB2 := Aside0.mk (below_step HB.out hb); have hf0' := (HV.out.below hb).f0; clear HB hf0 ho5 hb))
  go_loopg [5, 13] (U.length + 1) (fun kq v5 v13 W => ∃ i : Nat, v13 = .int .i64 i ∧ Aside0 (i + kq = U.length + 1) ∧ Aside0 (i ≤ U.length) ∧ Aside0 (Kd.R (Kd.int .i64) 3 W w.heap.size (fun _ => True) v5 (filI i p)) ∧ Aside0 (Below w.heap.size w W))
  case atStart => exact ⟨0, rfl, ⟨by omega⟩, ⟨by omega⟩, ⟨by (with_reducible repeat (first | apply Kd.R_alloc | apply Kd.R_drewN | apply Kd.R_drew)); exact HO.out⟩, ⟨by repeat (first | exact HB2.out | apply below_alloc | apply pw_below_drewN | apply below_drew1)⟩⟩
  case round =>
    clear hf0'
    obtain ⟨i, rfl, HK, HK2, HO1, HB1⟩ := hrel
    cases gk with
    | zero => exact absurd HK.out (by have := HK2.out; omega)
    | succ kn =>
    by_cases hlt : i < U.length
    · have hlt' : decide (i < U.length) = true := decide_eq_true hlt
      have HLT := Aside0.mk hlt
      clear hlt
      cases hp : p i with
      | true =>
        have HP := Aside0.mk hp
        clear hp
        go_wp2_with (first | (refine goesV_ (some 18) rfl rfl HF.out HNM.out HBD.out #[.int .i64 i] rfl rfl zq340 ?_; refine (HST.out i HLT.out _ ?sJ).mono ?_; (case sJ => exact zq327); rintro e w1 ⟨he, hj⟩; rw [HP.out] at he; subst he; refine ⟨_, rfl, ?_⟩; have HB3 := Aside0.mk (below_step zq327 hj); have HO3 := Aside0.mk (Kd.R_below zq386 hj); clear hj) | ((with_reducible refine gate_builtin (b := .append) (xs := #[.tmp 19, .tmp 21]) rfl ?_); at_builtin; refine Kd.R_append (Kd.int .i64) (w0 := w) w.heap.size rfl (.tmp 19) (.tmp 21) 28 3 (.int .i64 0) 8 rfl Try.underlying28 infoInt rfl (by decide) (by omega) u5 (filI i p) (i : Int) [.int .i64 i] (fun _ => True) (fun _ => False) rfl rfl ?aP (fun _ hk => hk.elim) ?aF ?aO ?aB ?aS ?aL ?_; (case aP => exact rfl); (case aB => exact zq365); (case aF => exact (fun _ _ => trivial)); (case aO => exact (by (with_reducible repeat (first | apply Kd.R_alloc | apply Kd.R_drewN | apply Kd.R_drew)); exact HO3.out)); (case aS => exact (below_size zq365)); (case aL => have := filI_length i p; have := HLT.out; omega); intro v5n w21 ho hb hg hat; have HB4 := Aside0.mk hb; have HO4 := Aside0.mk ho; clear ho hb hg hat))
        go_roundg kn
        case measure => omega
        case rel => exact ⟨i + 1, by first | go_num | (rw [wrap_small (by omega) (by have := HLT.out; omega)]; go_num), ⟨by have := HK.out; omega⟩, ⟨by have := HLT.out; omega⟩, ⟨by rw [filI_succ, if_pos HP.out]; (with_reducible repeat (first | apply Kd.R_alloc | apply Kd.R_drewN | apply Kd.R_drew)); exact HO4.out⟩, ⟨by repeat (first | exact HB4.out | apply below_alloc | apply pw_below_drewN | apply below_drew1)⟩⟩
      | false =>
        have HP := Aside0.mk hp
        clear hp
        go_wp2_with (refine goesV_ (some 18) rfl rfl HF.out HNM.out HBD.out #[.int .i64 i] rfl rfl zq340 ?_; refine (HST.out i HLT.out _ ?sJ).mono ?_; (case sJ => exact zq327); rintro e w1 ⟨he, hj⟩; rw [HP.out] at he; subst he; refine ⟨_, rfl, ?_⟩; have HB3 := Aside0.mk (below_step zq327 hj); have HO3 := Aside0.mk (Kd.R_below zq386 hj); clear hj)
        go_roundg kn
        case measure => omega
        case rel => exact ⟨i + 1, by first | go_num | (rw [wrap_small (by omega) (by have := HLT.out; omega)]; go_num), ⟨by have := HK.out; omega⟩, ⟨by have := HLT.out; omega⟩, ⟨by rw [filI_succ, if_neg (by rw [HP.out]; simp)]; (with_reducible repeat (first | apply Kd.R_alloc | apply Kd.R_drewN | apply Kd.R_drew)); exact HO3.out⟩, ⟨zq365⟩⟩
    · have hlt' : decide (i < U.length) = false := decide_eq_false hlt
      obtain rfl : i = U.length := by have := HK2.out; omega
      clear hlt
      go_wp2_with fail
      go_ret
      exact ⟨_, rfl, by (with_reducible repeat (first | apply Kd.R_alloc | apply Kd.R_drewN | apply Kd.R_drew)); exact HO1.out, by repeat (first | exact HB1.out | apply below_alloc | apply pw_below_drewN | apply below_drew1)⟩
end Go.Proofs.Ytdoomkcgdcfmlaa.Print
end
section
namespace Go.Proofs.Ytdoomkcgdcfmlaa.Print
open Go.RowKit Go.Proofs.YtdoomkcgdcfmlaaW.PrintWords Go.Proofs.YtdoomkcgdcfmlaaW.PrintLast Go.Proofs.YtdoomkcgdcfmlaaW.PrintMore
def spec_l2Both.f (k : Nat) (l0_0 : List (List Int)) (l0_1 : List Int) (a1 : Int) (a2 : Int) : Option (Bool) := (spec_LogicOk.f k l0_0 l0_1).bind fun t601 => (if t601 = true then ((spec_l1In.f a1 0 (wrap64 ((l0_1.length : Int) - 1))).bind fun t602 => (if t602 = true then ((spec_l1In.f a2 0 (wrap64 ((l0_1.length : Int) - 1))).bind fun t603 => (some t603)) else (some false))) else (some false))
set_option maxHeartbeats 8000000 in
set_option maxRecDepth 100000 in
theorem spec_l2Both.calls (k : Nat) (A0_0 : Option Addr) (c0_0 : Nat) (l0_0 : List (List Int)) (A0_1 : Option Addr) (c0_1 : Nat) (l0_1 : List Int) (a1 : Int) (a2 : Int) (r : Bool) (w : World) (hr0_0 : Kd.C (Kd.slice 3 (Kd.int .i64)) w A0_0 l0_0.length l0_0) (hc0_0 : l0_0.length ≤ c0_0) (hr0_1 : Kd.C (Kd.int .i64) w A0_1 l0_1.length l0_1) (hc0_1 : l0_1.length ≤ c0_1) (h : spec_l2Both.f k l0_0 l0_1 a1 a2 = some r) :
  Calls Try.prog 80 #[.agg #[.slice A0_0 l0_0.length c0_0, .slice A0_1 l0_1.length c0_1], .int .i64 a1, .int .i64 a2] w fun e w' => e = .returned (.bool r) ∧ Below w.heap.size w w' := by
 have hu30:=Try.underlying30;have a8:=zqm hr0_0;have a9:=zqm hc0_0;clear hr0_0 hc0_0;have b0:=zqm hr0_1;have b1:=zqm hc0_1;clear hr0_1 hc0_1;have HB:=zqm (Below.refl w.heap.size w);have H:((spec_LogicOk.f k l0_0 l0_1).bind fun b2=>(if b2=true then((spec_l1In.f a1 0 (wrap64 ((l0_1.length:Int) - 1))).bind fun a6=>(if a6=true then((spec_l1In.f a2 0 (wrap64 ((l0_1.length:Int) - 1))).bind fun a4=>(some a4)) else(some false))) else(some false)))=some r:=h;clear h;replace H:=Option.bind_eq_some_iff.mp H;obtain⟨b2,b4,H⟩:=H;replace H:(if b2=true then((spec_l1In.f a1 0 (wrap64 ((l0_1.length:Int) - 1))).bind fun a6=>(if a6=true then((spec_l1In.f a2 0 (wrap64 ((l0_1.length:Int) - 1))).bind fun a4=>(some a4)) else(some false))) else(some false))=some r:=H;have A4:=zqm b4;clear b4
 by_cases c5:b2=true
 ·subst c5;(have H1:((spec_l1In.f a1 0 (wrap64 ((l0_1.length:Int) - 1))).bind fun a6=>(if a6=true then((spec_l1In.f a2 0 (wrap64 ((l0_1.length:Int) - 1))).bind fun a4=>(some a4)) else(some false)))=some r:=by rw [if_pos rfl] at H;exact H);clear H;have H:=H1;clear H1;replace H:=Option.bind_eq_some_iff.mp H;obtain⟨a6,b5,H⟩:=H;replace H:(if a6=true then((spec_l1In.f a2 0 (wrap64 ((l0_1.length:Int) - 1))).bind fun a4=>(some a4)) else(some false))=some r:=H;have A6:=zqm b5;clear b5
  by_cases c7:a6=true
  ·subst c7;(have H1:((spec_l1In.f a2 0 (wrap64 ((l0_1.length:Int) - 1))).bind fun a4=>(some a4))=some r:=by rw [if_pos rfl] at H;exact H);clear H;have H:=H1;clear H1;replace H:=Option.bind_eq_some_iff.mp H;obtain⟨a4,b6,H⟩:=H;replace H:(some a4)=some r:=H;have A8:=zqm b6;clear b6;obtain rfl:=Option.some.inj H
   go_enter Try.func80,Try.ntmps80
   go_wp2_with (first|((with_reducible refine gate_dst (N:=3) rfl ?_);(try(refine gate_guard (by rfl) ?_;dsimp only));refine box_event ?hg (N:=3) ?hd (cs:= #[.slice A0_0 l0_0.length c0_0,.slice A0_1 l0_1.length c0_1]) (t:=30) ?hr ?_;(case hd=>rfl);(case hg=>rfl);(case hr=>first|(go_simp;done)|(go_simp;rfl));intro a3 hg w9 hbox hb;have a7:=zqm (below_step zq0 hb);have a0:=zqm (hbox);have b3:=zqm ((by rw [hg];exact(below_size zq0):w.heap.size≤a3));have a5:=zqm ((by rw [hg];exact(below_size zq0):w.heap.size≤a3));clear HB;have HB:=a7;clear a7 hb hbox hg;have c1:w9.cell? ⟨a3,0,none⟩=some (.slice A0_0 l0_0.length c0_0):=(blk_cell a0.out 0).trans rfl;have c2:w9.cell? ⟨a3,1,none⟩=some (.slice A0_1 l0_1.length c0_1):=(blk_cell a0.out 1).trans rfl;have c3:=blk_frozen a0.out 0;have c4:=blk_frozen a0.out 1)|((with_reducible refine gate_callee (f:=42) rfl ?_);refine goesL_ (some 8) rfl rfl Try.func42 zqk rfl #[.agg #[.slice A0_0 l0_0.length c0_0,.slice A0_1 l0_1.length c0_1]] rfl zq1 ?_;(with_reducible refine(spec_LogicOk.calls k _ _ l0_0 _ _ l0_1 true _ ?side1 ?side2 ?side3 ?side4 A4.out).mono ?_);(case side1=> exact zq26);(case side2=>exact a9.out);(case side3=> exact zq45);(case side4=>exact b1.out);rintro e b7 ⟨rfl,hb⟩;refine⟨_,rfl,?_⟩;replace a0:=zqm (blk_below (g:=a3) (o:= .cells #[.slice A0_0 l0_0.length c0_0,.slice A0_1 l0_1.length c0_1] 30 (0,0)) zq2 hb);replace HB:=zqm (below_step zq18 hb);clear hb;have c6:b7.cell? ⟨a3,0,none⟩=some (.slice A0_0 l0_0.length c0_0):=(blk_cell a0.out 0).trans rfl;have c8:b7.cell? ⟨a3,1,none⟩=some (.slice A0_1 l0_1.length c0_1):=(blk_cell a0.out 1).trans rfl;have c9:=blk_frozen a0.out 0;have d0:=blk_frozen a0.out 1)|(go_at_call 94;(with_reducible refine(spec_l1In.calls a1 0 (wrap64 ((l0_1.length:Int) - 1)) true _ A6.out).mono ?_);rintro e w' ⟨rfl,⟨nd,rfl⟩⟩)|(go_at_call 94;(with_reducible refine(spec_l1In.calls a2 0 (wrap64 ((l0_1.length:Int) - 1)) a4 _ A8.out).mono ?_);rintro e w' ⟨rfl,⟨nd,rfl⟩⟩))
   go_ret
   exact⟨zq11,zq18⟩
  ·replace c7:=Bool.eq_false_iff.mpr c7;subst c7;(have H1:(some false)=some r:=by rw [if_neg (show¬(false=true) by decide)] at H;exact H);clear H;have H:=H1;clear H1;obtain rfl:=Option.some.inj H
   go_enter Try.func80,Try.ntmps80
   go_wp2_with (first|((with_reducible refine gate_dst (N:=3) rfl ?_);(try(refine gate_guard (by rfl) ?_;dsimp only));refine box_event ?hg (N:=3) ?hd (cs:= #[.slice A0_0 l0_0.length c0_0,.slice A0_1 l0_1.length c0_1]) (t:=30) ?hr ?_;(case hd=>rfl);(case hg=>rfl);(case hr=>first|(go_simp;done)|(go_simp;rfl));intro a3 hg b8 hbox hb;have a7:=zqm (below_step zq0 hb);have a0:=zqm (hbox);have b3:=zqm ((by rw [hg];exact(below_size zq0):w.heap.size≤a3));have a5:=zqm ((by rw [hg];exact(below_size zq0):w.heap.size≤a3));clear HB;have HB:=a7;clear a7 hb hbox hg;have d1:b8.cell? ⟨a3,0,none⟩=some (.slice A0_0 l0_0.length c0_0):=(blk_cell a0.out 0).trans rfl;have d2:b8.cell? ⟨a3,1,none⟩=some (.slice A0_1 l0_1.length c0_1):=(blk_cell a0.out 1).trans rfl;have d3:=blk_frozen a0.out 0;have d4:=blk_frozen a0.out 1)|((with_reducible refine gate_callee (f:=42) rfl ?_);refine goesL_ (some 8) rfl rfl Try.func42 zqk rfl #[.agg #[.slice A0_0 l0_0.length c0_0,.slice A0_1 l0_1.length c0_1]] rfl zq1 ?_;(with_reducible refine(spec_LogicOk.calls k _ _ l0_0 _ _ l0_1 true _ ?side1 ?side2 ?side3 ?side4 A4.out).mono ?_);(case side1=> exact zq26);(case side2=>exact a9.out);(case side3=> exact zq45);(case side4=>exact b1.out);rintro e b9 ⟨rfl,hb⟩;refine⟨_,rfl,?_⟩;replace a0:=zqm (blk_below (g:=a3) (o:= .cells #[.slice A0_0 l0_0.length c0_0,.slice A0_1 l0_1.length c0_1] 30 (0,0)) zq2 hb);replace HB:=zqm (below_step zq18 hb);clear hb;have d5:b9.cell? ⟨a3,0,none⟩=some (.slice A0_0 l0_0.length c0_0):=(blk_cell a0.out 0).trans rfl;have d6:b9.cell? ⟨a3,1,none⟩=some (.slice A0_1 l0_1.length c0_1):=(blk_cell a0.out 1).trans rfl;have d7:=blk_frozen a0.out 0;have d8:=blk_frozen a0.out 1)|(go_at_call 94;(with_reducible refine(spec_l1In.calls a1 0 (wrap64 ((l0_1.length:Int) - 1)) false _ A6.out).mono ?_);rintro e w' ⟨rfl,⟨nd,rfl⟩⟩))
   go_ret
   exact⟨zq11,zq18⟩
 ·replace c5:=Bool.eq_false_iff.mpr c5;subst c5;(have H1:(some false)=some r:=by rw [if_neg (show¬(false=true) by decide)] at H;exact H);clear H;have H:=H1;clear H1;obtain rfl:=Option.some.inj H
  go_enter Try.func80,Try.ntmps80
  go_wp2_with (first|((with_reducible refine gate_dst (N:=3) rfl ?_);(try(refine gate_guard (by rfl) ?_;dsimp only));refine box_event ?hg (N:=3) ?hd (cs:= #[.slice A0_0 l0_0.length c0_0,.slice A0_1 l0_1.length c0_1]) (t:=30) ?hr ?_;(case hd=>rfl);(case hg=>rfl);(case hr=>first|(go_simp;done)|(go_simp;rfl));intro a3 hg c0 hbox hb;have a7:=zqm (below_step zq0 hb);have a0:=zqm (hbox);have b3:=zqm ((by rw [hg];exact(below_size zq0):w.heap.size≤a3));have a5:=zqm ((by rw [hg];exact(below_size zq0):w.heap.size≤a3));clear HB;have HB:=a7;clear a7 hb hbox hg;have d9:c0.cell? ⟨a3,0,none⟩=some (.slice A0_0 l0_0.length c0_0):=(blk_cell a0.out 0).trans rfl;have e0:c0.cell? ⟨a3,1,none⟩=some (.slice A0_1 l0_1.length c0_1):=(blk_cell a0.out 1).trans rfl;have e1:=blk_frozen a0.out 0;have e2:=blk_frozen a0.out 1)|((with_reducible refine gate_callee (f:=42) rfl ?_);refine goesL_ (some 8) rfl rfl Try.func42 zqk rfl #[.agg #[.slice A0_0 l0_0.length c0_0,.slice A0_1 l0_1.length c0_1]] rfl zq1 ?_;(with_reducible refine(spec_LogicOk.calls k _ _ l0_0 _ _ l0_1 false _ ?side1 ?side2 ?side3 ?side4 A4.out).mono ?_);(case side1=> exact zq26);(case side2=>exact a9.out);(case side3=> exact zq45);(case side4=>exact b1.out);rintro e e3 ⟨rfl,hb⟩;refine⟨_,rfl,?_⟩;replace a0:=zqm (blk_below (g:=a3) (o:= .cells #[.slice A0_0 l0_0.length c0_0,.slice A0_1 l0_1.length c0_1] 30 (0,0)) zq2 hb);replace HB:=zqm (below_step zq18 hb);clear hb))
  go_ret
  exact⟨zq11,zq18⟩
end Go.Proofs.Ytdoomkcgdcfmlaa.Print
end
section
namespace Go.Proofs.Ytdoomkcgdcfmlaa.Print
open Go.RowKit Go.Proofs.YtdoomkcgdcfmlaaW.PrintWords Go.Proofs.YtdoomkcgdcfmlaaW.PrintLast Go.Proofs.YtdoomkcgdcfmlaaW.PrintMore
open Oml
theorem spec_l2Both.ev (U : List (List Int)) (N : List Int) (a b : Int) : Ev (fun k => spec_l2Both.f k U N a b) (logicB U N && (inR U.length a && inR U.length b)) := by
  unfold spec_l2Both.f
  refine Ev.bind (spec_LogicOk.ev U N) ?_
  cases hl:logicB U N with
  | false => repeat (first | ((with_reducible refine Ev.ite_pos ?_ ?_); (first | assumption | (focus omega) | (focus (simp; done)))) | ((with_reducible refine Ev.ite_neg ?_ ?_); (first | assumption | (focus omega) | (focus (simp; done)))))
             exact Ev.now _
  | true =>
    have L:=logicB_iff.1 hl
    have hs:=L.small
    have hp:=L.pos
    have hln:=L.len
    have e : ∀ c : Int, (decide (0 ≤ c) && decide (c ≤ wrap64 ((N.length : Int) - 1))) = inR U.length c := by
      intro c
      unfold inR
      rw [wrap_small (by omega) (by omega)]
      congr 1
      rw [decide_eq_decide];omega
    repeat(first|((with_reducible refine Ev.ite_pos ?_ ?_);(first|assumption|(focus omega)|(focus (simp;done))))|((with_reducible refine Ev.ite_neg ?_ ?_);(first|assumption|(focus omega)|(focus (simp;done)))))
    simp only [l1In_eq,e]
    refine Ev.pbind rfl ?_
    cases ha:inR U.length a with
    | false => repeat (first | ((with_reducible refine Ev.ite_pos ?_ ?_); (first | assumption | (focus omega) | (focus (simp; done)))) | ((with_reducible refine Ev.ite_neg ?_ ?_); (first | assumption | (focus omega) | (focus (simp; done)))))
               exact Ev.eq (Ev.now _) (by simp)
    | true => repeat (first | ((with_reducible refine Ev.ite_pos ?_ ?_); (first | assumption | (focus omega) | (focus (simp; done)))) | ((with_reducible refine Ev.ite_neg ?_ ?_); (first | assumption | (focus omega) | (focus (simp; done)))))
              exact Ev.eq (Ev.now _) (by simp)
end Go.Proofs.Ytdoomkcgdcfmlaa.Print
end
section
namespace Go.Proofs.Ytdoomkcgdcfmlaa.Print
open Go.RowKit Go.Proofs.YtdoomkcgdcfmlaaW.PrintWords Go.Proofs.YtdoomkcgdcfmlaaW.PrintLast Go.Proofs.YtdoomkcgdcfmlaaW.PrintMore
def spec_NotOf.f (k : Nat) (l0_0 : List (List Int)) (l0_1 : List Int) (a1 : Int) : Option (Int) := (spec_l2Both.f k l0_0 l0_1 a1 a1).bind fun t849 => (if t849 = true then (if 0 ≤ a1 then (if a1 < (l0_1.length : Int) then (some (rd l0_1 a1)) else (none)) else (none)) else (some (-1)))
set_option maxHeartbeats 8000000 in
set_option maxRecDepth 100000 in
theorem spec_NotOf.calls (k : Nat) (A0_0 : Option Addr) (c0_0 : Nat) (l0_0 : List (List Int)) (A0_1 : Option Addr) (c0_1 : Nat) (l0_1 : List Int) (a1 : Int) (r : Int) (w : World) (hr0_0 : Kd.C (Kd.slice 3 (Kd.int .i64)) w A0_0 l0_0.length l0_0) (hc0_0 : l0_0.length ≤ c0_0) (hr0_1 : Kd.C (Kd.int .i64) w A0_1 l0_1.length l0_1) (hc0_1 : l0_1.length ≤ c0_1) (h : spec_NotOf.f k l0_0 l0_1 a1 = some r) :
  Calls Try.prog 96 #[.agg #[.slice A0_0 l0_0.length c0_0, .slice A0_1 l0_1.length c0_1], .int .i64 a1] w fun e w' => e = .returned (.int .i64 r) ∧ Below w.heap.size w w' := by
 have hu30:=Try.underlying30;have b0:=zqm hr0_0;have b1:=zqm hc0_0;clear hr0_0 hc0_0;have a5:=zqm hr0_1;have b2:=zqm hc0_1;clear hr0_1 hc0_1;have HB:=zqm (Below.refl w.heap.size w);have H:((spec_l2Both.f k l0_0 l0_1 a1 a1).bind fun a6=>(if a6=true then(if 0≤a1 then(if a1<(l0_1.length:Int) then(some (rd l0_1 a1)) else(none)) else(none)) else(some (-1))))=some r:=h;clear h;replace H:=Option.bind_eq_some_iff.mp H;obtain⟨a6,b4,H⟩:=H;replace H:(if a6=true then(if 0≤a1 then(if a1<(l0_1.length:Int) then(some (rd l0_1 a1)) else(none)) else(none)) else(some (-1)))=some r:=H;have A3:=zqm b4;clear b4
 by_cases c4:a6=true
 ·subst c4;(have H1:(if 0≤a1 then(if a1<(l0_1.length:Int) then(some (rd l0_1 a1)) else(none)) else(none))=some r:=by rw [if_pos rfl] at H;exact H);clear H;have H:=H1;clear H1
  by_cases c5:0≤a1
  ·rw [if_pos c5] at H;have d3:decide (0≤a1)=true:=decide_eq_true c5;clear c5
   by_cases c6:a1<(l0_1.length:Int)
   ·rw [if_pos c6] at H;have d4:decide (a1<(l0_1.length:Int))=true:=decide_eq_true c6;clear c6;obtain rfl:=Option.some.inj H
    go_enter Try.func96,Try.ntmps96
    go_wp2_with (first|((with_reducible refine gate_dst (N:=2) rfl ?_);refine box_event ?hg (N:=2) ?hd (cs:= #[.slice A0_0 l0_0.length c0_0,.slice A0_1 l0_1.length c0_1]) (t:=30) ?hr ?_;(case hd=>rfl);(case hg=>rfl);(case hr=>first|(go_simp;done)|(go_simp;rfl));intro a2 hg w7 hbox hb;have a7:=zqm (below_step zq0 hb);have a0:=zqm (hbox);have b3:=zqm ((by rw [hg];exact(below_size zq0):w.heap.size≤a2));have a3:=zqm ((by rw [hg];exact(below_size zq0):w.heap.size≤a2));clear HB;have HB:=a7;clear a7 hb hbox hg;have c8:w7.cell? ⟨a2,0,none⟩=some (.slice A0_0 l0_0.length c0_0):=(blk_cell a0.out 0).trans rfl;have c9:w7.cell? ⟨a2,1,none⟩=some (.slice A0_1 l0_1.length c0_1):=(blk_cell a0.out 1).trans rfl;have d0:=blk_frozen a0.out 0;have d1:=blk_frozen a0.out 1)|((with_reducible refine gate_callee (f:=80) rfl ?_);refine goesL_ (some 8) rfl rfl Try.func80 zqk rfl #[.agg #[.slice A0_0 l0_0.length c0_0,.slice A0_1 l0_1.length c0_1],.int .i64 a1,.int .i64 a1] rfl zq1 ?_;(with_reducible refine(spec_l2Both.calls k _ _ l0_0 _ _ l0_1 a1 a1 true _ ?side1 ?side2 ?side3 ?side4 A3.out).mono ?_);(case side1=> exact zq45);(case side2=>exact b1.out);(case side3=> exact zq38);(case side4=>exact b2.out);rintro e w9 ⟨rfl,hb⟩;refine⟨_,rfl,?_⟩;replace a0:=zqm (blk_below (g:=a2) (o:= .cells #[.slice A0_0 l0_0.length c0_0,.slice A0_1 l0_1.length c0_1] 30 (0,0)) zq2 hb);replace HB:=zqm (below_step zq21 hb);clear hb;have b7:w9.cell? ⟨a2,0,none⟩=some (.slice A0_0 l0_0.length c0_0):=(blk_cell a0.out 0).trans rfl;have b8:w9.cell? ⟨a2,1,none⟩=some (.slice A0_1 l0_1.length c0_1):=(blk_cell a0.out 1).trans rfl;have b9:=blk_frozen a0.out 0;have c0:=blk_frozen a0.out 1;have a8:0≤(a1:Int):=zqo;have a9:a1<(l0_1.length:Int):=zqo;obtain⟨d2,b6,a4⟩:=Kd.at_int a5.out a1 a8 a9;cases b6;replace a4:=(HB.out.cell (World.block_lt_of_cell? w _ a4)).trans a4;replace a8:=eq_true a8;replace a9:=eq_true a9))
    go_ret
    exact⟨zq11,zq21⟩
   ·rw [if_neg c6] at H;exact absurd H (by simp)
  ·rw [if_neg c5] at H;exact absurd H (by simp)
 ·replace c4:=Bool.eq_false_iff.mpr c4;subst c4;(have H1:(some (-1))=some r:=by rw [if_neg (show¬(false=true) by decide)] at H;exact H);clear H;have H:=H1;clear H1;obtain rfl:=Option.some.inj H
  go_enter Try.func96,Try.ntmps96
  go_wp2_with (first|((with_reducible refine gate_dst (N:=2) rfl ?_);refine box_event ?hg (N:=2) ?hd (cs:= #[.slice A0_0 l0_0.length c0_0,.slice A0_1 l0_1.length c0_1]) (t:=30) ?hr ?_;(case hd=>rfl);(case hg=>rfl);(case hr=>first|(go_simp;done)|(go_simp;rfl));intro a2 hg b5 hbox hb;have a7:=zqm (below_step zq0 hb);have a0:=zqm (hbox);have b3:=zqm ((by rw [hg];exact(below_size zq0):w.heap.size≤a2));have a3:=zqm ((by rw [hg];exact(below_size zq0):w.heap.size≤a2));clear HB;have HB:=a7;clear a7 hb hbox hg;have c1:b5.cell? ⟨a2,0,none⟩=some (.slice A0_0 l0_0.length c0_0):=(blk_cell a0.out 0).trans rfl;have c2:b5.cell? ⟨a2,1,none⟩=some (.slice A0_1 l0_1.length c0_1):=(blk_cell a0.out 1).trans rfl;have c3:=blk_frozen a0.out 0;have c7:=blk_frozen a0.out 1)|((with_reducible refine gate_callee (f:=80) rfl ?_);refine goesL_ (some 8) rfl rfl Try.func80 zqk rfl #[.agg #[.slice A0_0 l0_0.length c0_0,.slice A0_1 l0_1.length c0_1],.int .i64 a1,.int .i64 a1] rfl zq1 ?_;(with_reducible refine(spec_l2Both.calls k _ _ l0_0 _ _ l0_1 a1 a1 false _ ?side1 ?side2 ?side3 ?side4 A3.out).mono ?_);(case side1=> exact zq45);(case side2=>exact b1.out);(case side3=> exact zq38);(case side4=>exact b2.out);rintro e d5 ⟨rfl,hb⟩;refine⟨_,rfl,?_⟩;replace a0:=zqm (blk_below (g:=a2) (o:= .cells #[.slice A0_0 l0_0.length c0_0,.slice A0_1 l0_1.length c0_1] 30 (0,0)) zq2 hb);replace HB:=zqm (below_step zq21 hb);clear hb))
  go_ret
  exact⟨zq11,zq21⟩
end Go.Proofs.Ytdoomkcgdcfmlaa.Print
end
section
namespace Go.Proofs.Ytdoomkcgdcfmlaa.Print
open Go.RowKit Go.Proofs.YtdoomkcgdcfmlaaW.PrintWords Go.Proofs.YtdoomkcgdcfmlaaW.PrintLast Go.Proofs.YtdoomkcgdcfmlaaW.PrintMore
open Oml
theorem spec_NotOf.ev (U : List (List Int)) (N : List Int) (a : Int) : Ev (fun k => spec_NotOf.f k U N a) (if logicB U N = true then (if inR U.length a = true then notI N a else -1) else -1) := by
  unfold spec_NotOf.f
  refine Ev.bind (spec_l2Both.ev U N a a) ?_
  cases hl:logicB U N with
  | false => repeat (first | ((with_reducible refine Ev.ite_pos ?_ ?_); (first | assumption | (focus omega) | (focus (simp; done)))) | ((with_reducible refine Ev.ite_neg ?_ ?_); (first | assumption | (focus omega) | (focus (simp; done)))))
             exact Ev.now _
  | true =>
    have L:=logicB_iff.1 hl
    cases ha:inR U.length a with
    | false => repeat (first | ((with_reducible refine Ev.ite_pos ?_ ?_); (first | assumption | (focus omega) | (focus (simp; done)))) | ((with_reducible refine Ev.ite_neg ?_ ?_); (first | assumption | (focus omega) | (focus (simp; done)))))
               exact Ev.now _
    | true =>
      have ia:=inR_iff.1 ha
      have h0:=ia.1
      have h1:=ia.2
      have hl2:=L.len
      obtain⟨x,rfl⟩: ∃x:Nat,a=x:=⟨a.toNat,by omega⟩
      repeat(first|((with_reducible refine Ev.ite_pos ?_ ?_);(first|assumption|(focus omega)|(focus (simp;done))))|((with_reducible refine Ev.ite_neg ?_ ?_);(first|assumption|(focus omega)|(focus (simp;done)))))
      exact Ev.eq (Ev.now _) (by rw [rd_nat];rfl)
theorem alg_project.reads (g : Nat) (U : List (List Int)) (N : List Int) (v : Adr) (a : Int) (b : Int) (w : World) (L : Logic U N) (hV : View w g U N v) (ia : In U a) (ib : In U b) :
    Calls Try.prog 79 #[.pointer (some ⟨g,0,none⟩),.int .i64 a,.int .i64 b] w fun e w'=>e= .returned (.int .i64 (andI U a (orI U (notI N a) b)))∧Drawn0 w w':=by
  have hu70:=Try.underlying70
  have HV:=Aside0.mk hV
  have HLg:=Aside0.mk L
  have Ia:=Aside0.mk ia
  have Ib:=Aside0.mk ib
  clear hV L ia ib
  have b0_:=eq_true Ia.out.1;have c0_:=eq_true Ia.out.2
  have hf3_:=HV.out.f3
  have n2_:=HV.out.n a Ia.out
  have IN1_:=Aside0.mk (HLg.out.in_not Ia.out)
  have b3_:=eq_true IN1_.out.1;have c3_:=eq_true IN1_.out.2
  have b4_:=eq_true Ib.out.1;have c4_:=eq_true Ib.out.2
  have hf2_:=HV.out.f2
  have r6_:=HV.out.j (notI N a) IN1_.out
  have s7_:=HV.out.j2 (notI N a) b IN1_.out Ib.out
  have IN2_:=Aside0.mk (HLg.out.in_or IN1_.out Ib.out)
  have b8_:=eq_true IN2_.out.1;have c8_:=eq_true IN2_.out.2
  have hf1_:=HV.out.f1
  have r10_:=HV.out.m a Ia.out
  have s11_:=HV.out.m2 a (orI U (notI N a) b) Ia.out IN2_.out
  go_enter Try.func79,Try.ntmps79
  go_wp2_with fail
  go_quiet (fail)
  go_wp2
  go_ret
  exact⟨rfl,⟨⟨_,rfl⟩⟩⟩
end Go.Proofs.Ytdoomkcgdcfmlaa.Print
end
section
namespace Go.Proofs.Ytdoomkcgdcfmlaa.Print
open Go.RowKit Go.Proofs.YtdoomkcgdcfmlaaW.PrintWords Go.Proofs.YtdoomkcgdcfmlaaW.PrintLast Go.Proofs.YtdoomkcgdcfmlaaW.PrintMore
open Oml
theorem rd_in {U : List (List Int)} {N : List Int} (_L : Logic U N) {a : Int} (ha : In U a) : rd N a = notI N a := by
  obtain ⟨x, rfl⟩ : ∃ x : Nat, a = x := ⟨a.toNat, by have := ha.1; omega⟩
  rw [rd_nat]; rfl
section
variable {U : List (List Int)} {N : List Int} (L : Logic U N)
include L
theorem meet_in {a b : Int} (ha : In U a) (hb : In U b) : Ev (fun k => spec_l1Meet.f k U a b) (andI U a b) := by
  obtain⟨x,rfl⟩: ∃x:Nat,a=x:=⟨a.toNat,by have:=ha.1;omega⟩
  obtain⟨y,rfl⟩: ∃y:Nat,b=y:=⟨b.toNat,by have:=hb.1;omega⟩
  exact spec_l1Meet.ev L.toOrder (by have:=ha.2;omega) (by have:=hb.2;omega)
theorem join_in {a b : Int} (ha : In U a) (hb : In U b) : Ev (fun k => spec_l1Join.f k U a b) (orI U a b) := by
  obtain⟨x,rfl⟩: ∃x:Nat,a=x:=⟨a.toNat,by have:=ha.1;omega⟩
  obtain⟨y,rfl⟩: ∃y:Nat,b=y:=⟨b.toNat,by have:=hb.1;omega⟩
  exact spec_l1Join.ev L.toOrder (by have:=ha.2;omega) (by have:=hb.2;omega)
end
end Go.Proofs.Ytdoomkcgdcfmlaa.Print
end
section
namespace Go.Proofs.Ytdoomkcgdcfmlaa.Print
open Go.RowKit Go.Proofs.YtdoomkcgdcfmlaaW.PrintWords Go.Proofs.YtdoomkcgdcfmlaaW.PrintLast Go.Proofs.YtdoomkcgdcfmlaaW.PrintMore
def spec_ProjectOf.f (k : Nat) (l0_0 : List (List Int)) (l0_1 : List Int) (a1 : Int) (a2 : Int) : Option (Int) := (spec_l2Both.f k l0_0 l0_1 a1 a2).bind fun t605 => (if t605 = true then (if 0 ≤ a1 then (if a1 < (l0_1.length : Int) then ((spec_l1Join.f k l0_0 (rd l0_1 a1) a2).bind fun t607 => ((spec_l1Meet.f k l0_0 a1 t607).bind fun t608 => (some t608))) else (none)) else (none)) else (some (-1)))
set_option maxHeartbeats 8000000 in
set_option maxRecDepth 100000 in
theorem spec_ProjectOf.calls (k : Nat) (A0_0 : Option Addr) (c0_0 : Nat) (l0_0 : List (List Int)) (A0_1 : Option Addr) (c0_1 : Nat) (l0_1 : List Int) (a1 : Int) (a2 : Int) (r : Int) (w : World) (hr0_0 : Kd.C (Kd.slice 3 (Kd.int .i64)) w A0_0 l0_0.length l0_0) (hc0_0 : l0_0.length ≤ c0_0) (hr0_1 : Kd.C (Kd.int .i64) w A0_1 l0_1.length l0_1) (hc0_1 : l0_1.length ≤ c0_1) (h : spec_ProjectOf.f k l0_0 l0_1 a1 a2 = some r) :
  Calls Try.prog 21 #[.agg #[.slice A0_0 l0_0.length c0_0, .slice A0_1 l0_1.length c0_1], .int .i64 a1, .int .i64 a2] w fun e w' => e = .returned (.int .i64 r) ∧ Below w.heap.size w w' := by
 have hu30:=Try.underlying30;have a6:=zqm hr0_0;have a7:=zqm hc0_0;clear hr0_0 hc0_0;have b1:=zqm hr0_1;have b4:=zqm hc0_1;clear hr0_1 hc0_1;have HB:=zqm (Below.refl w.heap.size w);have H:((spec_l2Both.f k l0_0 l0_1 a1 a2).bind fun d5=>(if d5=true then(if 0≤a1 then(if a1<(l0_1.length:Int) then((spec_l1Join.f k l0_0 (rd l0_1 a1) a2).bind fun a8=>((spec_l1Meet.f k l0_0 a1 a8).bind fun b0=>(some b0))) else(none)) else(none)) else(some (-1))))=some r:=h;clear h;replace H:=Option.bind_eq_some_iff.mp H;obtain⟨d5,d7,H⟩:=H;replace H:(if d5=true then(if 0≤a1 then(if a1<(l0_1.length:Int) then((spec_l1Join.f k l0_0 (rd l0_1 a1) a2).bind fun a8=>((spec_l1Meet.f k l0_0 a1 a8).bind fun b0=>(some b0))) else(none)) else(none)) else(some (-1)))=some r:=H;have A4:=zqm d7;clear d7
 by_cases c5:d5=true
 ·subst c5;(have H1:(if 0≤a1 then(if a1<(l0_1.length:Int) then((spec_l1Join.f k l0_0 (rd l0_1 a1) a2).bind fun a8=>((spec_l1Meet.f k l0_0 a1 a8).bind fun b0=>(some b0))) else(none)) else(none))=some r:=by rw [if_pos rfl] at H;exact H);clear H;have H:=H1;clear H1
  by_cases c6:0≤a1
  ·rw [if_pos c6] at H;have e1:decide (0≤a1)=true:=decide_eq_true c6;clear c6
   by_cases c7:a1<(l0_1.length:Int)
   ·rw [if_pos c7] at H;have e2:decide (a1<(l0_1.length:Int))=true:=decide_eq_true c7;clear c7;replace H:=Option.bind_eq_some_iff.mp H;obtain⟨a8,d8,H⟩:=H;replace H:((spec_l1Meet.f k l0_0 a1 a8).bind fun b0=>(some b0))=some r:=H;have A8:=zqm d8;clear d8;replace H:=Option.bind_eq_some_iff.mp H;obtain⟨b0,d9,H⟩:=H;replace H:(some b0)=some r:=H;have A9:=zqm d9;clear d9;obtain rfl:=Option.some.inj H
    go_enter Try.func21,Try.ntmps21
    go_wp2_with (first|((with_reducible refine gate_dst (N:=3) rfl ?_);refine box_event ?hg (N:=3) ?hd (cs:= #[.slice A0_0 l0_0.length c0_0,.slice A0_1 l0_1.length c0_1]) (t:=30) ?hr ?_;(case hd=>rfl);(case hg=>rfl);(case hr=>first|(go_simp;done)|(go_simp;rfl));intro a3 hg b6 hbox hb;have a9:=zqm (below_step zq0 hb);have a0:=zqm (hbox);have b5:=zqm ((by rw [hg];exact(below_size zq0):w.heap.size≤a3));have a4:=zqm ((by rw [hg];exact(below_size zq0):w.heap.size≤a3));clear HB;have HB:=a9;clear a9 hb hbox hg;have c0:b6.cell? ⟨a3,0,none⟩=some (.slice A0_0 l0_0.length c0_0):=(blk_cell a0.out 0).trans rfl;have c1:b6.cell? ⟨a3,1,none⟩=some (.slice A0_1 l0_1.length c0_1):=(blk_cell a0.out 1).trans rfl;have c2:=blk_frozen a0.out 0;have c3:=blk_frozen a0.out 1)|(go_at_call 80;(with_reducible refine(spec_l2Both.calls k _ _ l0_0 _ _ l0_1 a1 a2 true _ ?side1 ?side2 ?side3 ?side4 A4.out).mono ?_);(case side1=> exact zq24);(case side2=>exact a7.out);(case side3=> exact zq42);(case side4=>exact b4.out);rintro e b7 ⟨rfl,hb⟩;replace a0:=zqm (blk_below (g:=a3) (o:= .cells #[.slice A0_0 l0_0.length c0_0,.slice A0_1 l0_1.length c0_1] 30 (0,0)) zq2 hb);replace HB:=zqm (below_step zq8 hb);clear hb;have c4:b7.cell? ⟨a3,0,none⟩=some (.slice A0_0 l0_0.length c0_0):=(blk_cell a0.out 0).trans rfl;have c8:b7.cell? ⟨a3,1,none⟩=some (.slice A0_1 l0_1.length c0_1):=(blk_cell a0.out 1).trans rfl;have c9:=blk_frozen a0.out 0;have d0:=blk_frozen a0.out 1;have b2:0≤(a1:Int):=zqo;have b3:a1<(l0_1.length:Int):=zqo;obtain⟨d6,b9,a5⟩:=Kd.at_int b1.out a1 b2 b3;cases b9;replace a5:=(HB.out.cell (World.block_lt_of_cell? w _ a5)).trans a5;replace b2:=eq_true b2;replace b3:=eq_true b3)|(go_at_call 82;(with_reducible refine(spec_l1Join.calls k _ _ l0_0 (rd l0_1 a1) a2 a8 _ ?side1 ?side2 A8.out).mono ?_);(case side1=> exact zq24);(case side2=>exact a7.out);rintro e w' ⟨rfl,⟨nd,rfl⟩⟩;(try first|exact⟨rfl,_,World.drewN_drewN _ _ _⟩|exact⟨rfl,_,Eq.trans (World.drewN_drewN _ _ _) (congrArg (World.drewN _) (Nat.add_assoc _ _ _))⟩))|(go_at_call 81;(with_reducible refine(spec_l1Meet.calls k _ _ l0_0 a1 a8 b0 _ ?side1 ?side2 A9.out).mono ?_);(case side1=> exact zq60);(case side2=>exact a7.out);rintro e w' ⟨rfl,⟨nd,rfl⟩⟩;(try first|exact⟨rfl,_,World.drewN_drewN _ _ _⟩|exact⟨rfl,_,Eq.trans (World.drewN_drewN _ _ _) (congrArg (World.drewN _) (Nat.add_assoc _ _ _))⟩)))
    repeat(go_quiet (first|((with_reducible refine gate_dst (N:=3) rfl ?_);refine box_event ?hg (N:=3) ?hd (cs:= #[.slice A0_0 l0_0.length c0_0,.slice A0_1 l0_1.length c0_1]) (t:=30) ?hr ?_;(case hd=>rfl);(case hg=>rfl);(case hr=>first|(go_simp;done)|(go_simp;rfl));intro a3 hg b6 hbox hb;have a9:=zqm (below_step zq0 hb);have a0:=zqm (hbox);have b5:=zqm ((by rw [hg];exact(below_size zq0):w.heap.size≤a3));have a4:=zqm ((by rw [hg];exact(below_size zq0):w.heap.size≤a3));clear HB;have HB:=a9;clear a9 hb hbox hg;have c0:b6.cell? ⟨a3,0,none⟩=some (.slice A0_0 l0_0.length c0_0):=(blk_cell a0.out 0).trans rfl;have c1:b6.cell? ⟨a3,1,none⟩=some (.slice A0_1 l0_1.length c0_1):=(blk_cell a0.out 1).trans rfl;have c2:=blk_frozen a0.out 0;have c3:=blk_frozen a0.out 1)|(go_at_call 80;(with_reducible refine(spec_l2Both.calls k _ _ l0_0 _ _ l0_1 a1 a2 true _ ?side1 ?side2 ?side3 ?side4 A4.out).mono ?_);(case side1=> exact zq24);(case side2=>exact a7.out);(case side3=> exact zq42);(case side4=>exact b4.out);rintro e b7 ⟨rfl,hb⟩;replace a0:=zqm (blk_below (g:=a3) (o:= .cells #[.slice A0_0 l0_0.length c0_0,.slice A0_1 l0_1.length c0_1] 30 (0,0)) zq2 hb);replace HB:=zqm (below_step zq8 hb);clear hb;have c4:b7.cell? ⟨a3,0,none⟩=some (.slice A0_0 l0_0.length c0_0):=(blk_cell a0.out 0).trans rfl;have c8:b7.cell? ⟨a3,1,none⟩=some (.slice A0_1 l0_1.length c0_1):=(blk_cell a0.out 1).trans rfl;have c9:=blk_frozen a0.out 0;have d0:=blk_frozen a0.out 1;have b2:0≤(a1:Int):=zqo;have b3:a1<(l0_1.length:Int):=zqo;obtain⟨d6,b9,a5⟩:=Kd.at_int b1.out a1 b2 b3;cases b9;replace a5:=(HB.out.cell (World.block_lt_of_cell? w _ a5)).trans a5;replace b2:=eq_true b2;replace b3:=eq_true b3)|(go_at_call 82;(with_reducible refine(spec_l1Join.calls k _ _ l0_0 (rd l0_1 a1) a2 a8 _ ?side1 ?side2 A8.out).mono ?_);(case side1=> exact zq24);(case side2=>exact a7.out);rintro e w' ⟨rfl,⟨nd,rfl⟩⟩;(try first|exact⟨rfl,_,World.drewN_drewN _ _ _⟩|exact⟨rfl,_,Eq.trans (World.drewN_drewN _ _ _) (congrArg (World.drewN _) (Nat.add_assoc _ _ _))⟩))|(go_at_call 81;(with_reducible refine(spec_l1Meet.calls k _ _ l0_0 a1 a8 b0 _ ?side1 ?side2 A9.out).mono ?_);(case side1=> exact zq60);(case side2=>exact a7.out);rintro e w' ⟨rfl,⟨nd,rfl⟩⟩;(try first|exact⟨rfl,_,World.drewN_drewN _ _ _⟩|exact⟨rfl,_,Eq.trans (World.drewN_drewN _ _ _) (congrArg (World.drewN _) (Nat.add_assoc _ _ _))⟩)));try go_wp2_with (first|((with_reducible refine gate_dst (N:=3) rfl ?_);refine box_event ?hg (N:=3) ?hd (cs:= #[.slice A0_0 l0_0.length c0_0,.slice A0_1 l0_1.length c0_1]) (t:=30) ?hr ?_;(case hd=>rfl);(case hg=>rfl);(case hr=>first|(go_simp;done)|(go_simp;rfl));intro a3 hg b6 hbox hb;have a9:=zqm (below_step zq0 hb);have a0:=zqm (hbox);have b5:=zqm ((by rw [hg];exact(below_size zq0):w.heap.size≤a3));have a4:=zqm ((by rw [hg];exact(below_size zq0):w.heap.size≤a3));clear HB;have HB:=a9;clear a9 hb hbox hg;have c0:b6.cell? ⟨a3,0,none⟩=some (.slice A0_0 l0_0.length c0_0):=(blk_cell a0.out 0).trans rfl;have c1:b6.cell? ⟨a3,1,none⟩=some (.slice A0_1 l0_1.length c0_1):=(blk_cell a0.out 1).trans rfl;have c2:=blk_frozen a0.out 0;have c3:=blk_frozen a0.out 1)|(go_at_call 80;(with_reducible refine(spec_l2Both.calls k _ _ l0_0 _ _ l0_1 a1 a2 true _ ?side1 ?side2 ?side3 ?side4 A4.out).mono ?_);(case side1=> exact zq24);(case side2=>exact a7.out);(case side3=> exact zq42);(case side4=>exact b4.out);rintro e b7 ⟨rfl,hb⟩;replace a0:=zqm (blk_below (g:=a3) (o:= .cells #[.slice A0_0 l0_0.length c0_0,.slice A0_1 l0_1.length c0_1] 30 (0,0)) zq2 hb);replace HB:=zqm (below_step zq8 hb);clear hb;have c4:b7.cell? ⟨a3,0,none⟩=some (.slice A0_0 l0_0.length c0_0):=(blk_cell a0.out 0).trans rfl;have c8:b7.cell? ⟨a3,1,none⟩=some (.slice A0_1 l0_1.length c0_1):=(blk_cell a0.out 1).trans rfl;have c9:=blk_frozen a0.out 0;have d0:=blk_frozen a0.out 1;have b2:0≤(a1:Int):=zqo;have b3:a1<(l0_1.length:Int):=zqo;obtain⟨d6,b9,a5⟩:=Kd.at_int b1.out a1 b2 b3;cases b9;replace a5:=(HB.out.cell (World.block_lt_of_cell? w _ a5)).trans a5;replace b2:=eq_true b2;replace b3:=eq_true b3)|(go_at_call 82;(with_reducible refine(spec_l1Join.calls k _ _ l0_0 (rd l0_1 a1) a2 a8 _ ?side1 ?side2 A8.out).mono ?_);(case side1=> exact zq24);(case side2=>exact a7.out);rintro e w' ⟨rfl,⟨nd,rfl⟩⟩;(try first|exact⟨rfl,_,World.drewN_drewN _ _ _⟩|exact⟨rfl,_,Eq.trans (World.drewN_drewN _ _ _) (congrArg (World.drewN _) (Nat.add_assoc _ _ _))⟩))|(go_at_call 81;(with_reducible refine(spec_l1Meet.calls k _ _ l0_0 a1 a8 b0 _ ?side1 ?side2 A9.out).mono ?_);(case side1=> exact zq60);(case side2=>exact a7.out);rintro e w' ⟨rfl,⟨nd,rfl⟩⟩;(try first|exact⟨rfl,_,World.drewN_drewN _ _ _⟩|exact⟨rfl,_,Eq.trans (World.drewN_drewN _ _ _) (congrArg (World.drewN _) (Nat.add_assoc _ _ _))⟩))))
    go_ret
    exact⟨zq11,zq8⟩
   ·rw [if_neg c7] at H;exact absurd H (by simp)
  ·rw [if_neg c6] at H;exact absurd H (by simp)
 ·replace c5:=Bool.eq_false_iff.mpr c5;subst c5;(have H1:(some (-1))=some r:=by rw [if_neg (show¬(false=true) by decide)] at H;exact H);clear H;have H:=H1;clear H1;obtain rfl:=Option.some.inj H
  go_enter Try.func21,Try.ntmps21
  go_wp2_with (first|((with_reducible refine gate_dst (N:=3) rfl ?_);refine box_event ?hg (N:=3) ?hd (cs:= #[.slice A0_0 l0_0.length c0_0,.slice A0_1 l0_1.length c0_1]) (t:=30) ?hr ?_;(case hd=>rfl);(case hg=>rfl);(case hr=>first|(go_simp;done)|(go_simp;rfl));intro a3 hg b8 hbox hb;have a9:=zqm (below_step zq0 hb);have a0:=zqm (hbox);have b5:=zqm ((by rw [hg];exact(below_size zq0):w.heap.size≤a3));have a4:=zqm ((by rw [hg];exact(below_size zq0):w.heap.size≤a3));clear HB;have HB:=a9;clear a9 hb hbox hg;have d1:b8.cell? ⟨a3,0,none⟩=some (.slice A0_0 l0_0.length c0_0):=(blk_cell a0.out 0).trans rfl;have d2:b8.cell? ⟨a3,1,none⟩=some (.slice A0_1 l0_1.length c0_1):=(blk_cell a0.out 1).trans rfl;have d3:=blk_frozen a0.out 0;have d4:=blk_frozen a0.out 1)|(go_at_call 80;(with_reducible refine(spec_l2Both.calls k _ _ l0_0 _ _ l0_1 a1 a2 false _ ?side1 ?side2 ?side3 ?side4 A4.out).mono ?_);(case side1=> exact zq24);(case side2=>exact a7.out);(case side3=> exact zq42);(case side4=>exact b4.out);rintro e e0 ⟨rfl,hb⟩;replace a0:=zqm (blk_below (g:=a3) (o:= .cells #[.slice A0_0 l0_0.length c0_0,.slice A0_1 l0_1.length c0_1] 30 (0,0)) zq2 hb);replace HB:=zqm (below_step zq8 hb);clear hb))
  repeat(go_quiet (first|((with_reducible refine gate_dst (N:=3) rfl ?_);refine box_event ?hg (N:=3) ?hd (cs:= #[.slice A0_0 l0_0.length c0_0,.slice A0_1 l0_1.length c0_1]) (t:=30) ?hr ?_;(case hd=>rfl);(case hg=>rfl);(case hr=>first|(go_simp;done)|(go_simp;rfl));intro a3 hg b8 hbox hb;have a9:=zqm (below_step zq0 hb);have a0:=zqm (hbox);have b5:=zqm ((by rw [hg];exact(below_size zq0):w.heap.size≤a3));have a4:=zqm ((by rw [hg];exact(below_size zq0):w.heap.size≤a3));clear HB;have HB:=a9;clear a9 hb hbox hg;have d1:b8.cell? ⟨a3,0,none⟩=some (.slice A0_0 l0_0.length c0_0):=(blk_cell a0.out 0).trans rfl;have d2:b8.cell? ⟨a3,1,none⟩=some (.slice A0_1 l0_1.length c0_1):=(blk_cell a0.out 1).trans rfl;have d3:=blk_frozen a0.out 0;have d4:=blk_frozen a0.out 1)|(go_at_call 80;(with_reducible refine(spec_l2Both.calls k _ _ l0_0 _ _ l0_1 a1 a2 false _ ?side1 ?side2 ?side3 ?side4 A4.out).mono ?_);(case side1=> exact zq24);(case side2=>exact a7.out);(case side3=> exact zq42);(case side4=>exact b4.out);rintro e e0 ⟨rfl,hb⟩;replace a0:=zqm (blk_below (g:=a3) (o:= .cells #[.slice A0_0 l0_0.length c0_0,.slice A0_1 l0_1.length c0_1] 30 (0,0)) zq2 hb);replace HB:=zqm (below_step zq8 hb);clear hb));try go_wp2_with (first|((with_reducible refine gate_dst (N:=3) rfl ?_);refine box_event ?hg (N:=3) ?hd (cs:= #[.slice A0_0 l0_0.length c0_0,.slice A0_1 l0_1.length c0_1]) (t:=30) ?hr ?_;(case hd=>rfl);(case hg=>rfl);(case hr=>first|(go_simp;done)|(go_simp;rfl));intro a3 hg b8 hbox hb;have a9:=zqm (below_step zq0 hb);have a0:=zqm (hbox);have b5:=zqm ((by rw [hg];exact(below_size zq0):w.heap.size≤a3));have a4:=zqm ((by rw [hg];exact(below_size zq0):w.heap.size≤a3));clear HB;have HB:=a9;clear a9 hb hbox hg;have d1:b8.cell? ⟨a3,0,none⟩=some (.slice A0_0 l0_0.length c0_0):=(blk_cell a0.out 0).trans rfl;have d2:b8.cell? ⟨a3,1,none⟩=some (.slice A0_1 l0_1.length c0_1):=(blk_cell a0.out 1).trans rfl;have d3:=blk_frozen a0.out 0;have d4:=blk_frozen a0.out 1)|(go_at_call 80;(with_reducible refine(spec_l2Both.calls k _ _ l0_0 _ _ l0_1 a1 a2 false _ ?side1 ?side2 ?side3 ?side4 A4.out).mono ?_);(case side1=> exact zq24);(case side2=>exact a7.out);(case side3=> exact zq42);(case side4=>exact b4.out);rintro e e0 ⟨rfl,hb⟩;replace a0:=zqm (blk_below (g:=a3) (o:= .cells #[.slice A0_0 l0_0.length c0_0,.slice A0_1 l0_1.length c0_1] 30 (0,0)) zq2 hb);replace HB:=zqm (below_step zq8 hb);clear hb)))
  go_ret
  exact⟨zq11,zq8⟩
end Go.Proofs.Ytdoomkcgdcfmlaa.Print
end
section
namespace Go.Proofs.Ytdoomkcgdcfmlaa.Print
open Go.RowKit Go.Proofs.YtdoomkcgdcfmlaaW.PrintWords Go.Proofs.YtdoomkcgdcfmlaaW.PrintLast Go.Proofs.YtdoomkcgdcfmlaaW.PrintMore
open Oml
theorem spec_ProjectOf.ev (U : List (List Int)) (N : List Int) (a b : Int) : Ev (fun k => spec_ProjectOf.f k U N a b) (if logicB U N = true then (if [a, b].all (inR U.length) = true then (andI U a (orI U (notI N a) b)) else (-1)) else (-1)) := by
  unfold spec_ProjectOf.f
  refine Ev.bind (spec_l2Both.ev U N a b) ?_
  cases hl:logicB U N with
  | false => repeat (first | ((with_reducible refine Ev.ite_pos ?_ ?_); (first | assumption | (focus omega) | (focus (simp; done)))) | ((with_reducible refine Ev.ite_neg ?_ ?_); (first | assumption | (focus omega) | (focus (simp; done)))))
             exact Ev.now _
  | true =>
    have L:=logicB_iff.1 hl
    cases hin: [a,b].all (inR U.length) with
    | false =>
      rw [show (inR U.length a && inR U.length b)=false by simpa using hin]
      repeat(first|((with_reducible refine Ev.ite_pos ?_ ?_);(first|assumption|(focus omega)|(focus (simp;done))))|((with_reducible refine Ev.ite_neg ?_ ?_);(first|assumption|(focus omega)|(focus (simp;done)))))
      exact Ev.now _
    | true =>
      have hin2:=hin
      simp only [List.all_cons,List.all_nil,Bool.and_true,Bool.and_eq_true,inR_iff] at hin2
      rw [show (inR U.length a && inR U.length b)=true by simpa using hin]
      have ia:=hin2.1
      have ib:=hin2.2
      have a0:=ia.1
      have a1:=ia.2
      have hl:=L.len
      repeat(first|((with_reducible refine Ev.ite_pos ?_ ?_);(first|assumption|(focus omega)|(focus (simp;done))))|((with_reducible refine Ev.ite_neg ?_ ?_);(first|assumption|(focus omega)|(focus (simp;done)))))
      rw [rd_in L ia]
      refine Ev.bind (join_in L (L.in_not ia) ib) ?_
      refine Ev.bind (meet_in L ia (L.in_or (L.in_not ia) ib)) ?_
      exact Ev.now _
end Go.Proofs.Ytdoomkcgdcfmlaa.Print
end
section
namespace Go.Proofs.Ytdoomkcgdcfmlaa.Print
open Go.RowKit Go.Proofs.YtdoomkcgdcfmlaaW.PrintWords Go.Proofs.YtdoomkcgdcfmlaaW.PrintLast Go.Proofs.YtdoomkcgdcfmlaaW.PrintMore
open Oml
section
variable {U : List (List Int)} {N : List Int} (L : Logic U N)
theorem fin_of {a : Int} (ia : In U a) : ∃ x : Fin U.length, a = ((x.1 : Nat) : Int) := ⟨⟨a.toNat, by have := ia.1; have := ia.2; omega⟩, by have := ia.1; show a = ((a.toNat : Nat) : Int); omega⟩
theorem fin_of_nat {i : Nat} (h : i < U.length) : ∃ x : Fin U.length, i = x.1 := ⟨⟨i, h⟩, rfl⟩
theorem in_fin (x : Fin U.length) : In U ((x.1 : Nat) : Int) := ⟨by omega, by have := x.2; omega⟩
theorem fin_inj {x y : Fin U.length} : (((x.1 : Nat) : Int) = ((y.1 : Nat) : Int)) ↔ x = y := by
  constructor
  · intro h; exact Fin.ext (by omega)
  · intro h; rw [h]
theorem fin_beq (x y : Fin U.length) : (((x.1 : Nat) : Int) == ((y.1 : Nat) : Int)) = decide (x = y) := by
  rw [Bool.eq_iff_iff, beq_iff_eq, decide_eq_true_eq]; exact fin_inj
theorem and_fin (x y : Fin U.length) : andI U x.1 y.1 = (((L.ol.meet x y).1 : Nat) : Int) := by
  show mI U ((x.1 : Nat) : Int).toNat ((y.1 : Nat) : Int).toNat = _
  unfold mI; rw [Int.toNat_natCast, Int.toNat_natCast, L.mt_eq]; rfl
theorem or_fin (x y : Fin U.length) : orI U x.1 y.1 = (((L.ol.join x y).1 : Nat) : Int) := by
  show jI U ((x.1 : Nat) : Int).toNat ((y.1 : Nat) : Int).toNat = _
  unfold jI; rw [Int.toNat_natCast, Int.toNat_natCast, L.jn_eq]; rfl
theorem not_fin (x : Fin U.length) : notI N x.1 = (((L.ol.neg x).1 : Nat) : Int) := by
  show at1 N ((x.1 : Nat) : Int).toNat = _
  rw [Int.toNat_natCast, L.ng_eq]; rfl
theorem no_fin : noI U = (((L.ol.bot).1 : Nat) : Int) := by
  unfold noI; rw [L.no_eq]; rfl
theorem leB_fin (x y : Fin U.length) : leB U x.1 y.1 = true ↔ L.ol.le x y := Iff.rfl
theorem allN_fin {n : Nat} {p : Nat → Bool} : allN n p = true ↔ ∀ x : Fin n, p x.1 = true := by
  rw [allN_iff]
  exact ⟨fun h x => h x.1 x.2, fun h i hi => h ⟨i, hi⟩⟩
end
end Go.Proofs.Ytdoomkcgdcfmlaa.Print
end
section
namespace Go.Proofs.Ytdoomkcgdcfmlaa.Print
open Go.RowKit Go.Proofs.YtdoomkcgdcfmlaaW.PrintWords Go.Proofs.YtdoomkcgdcfmlaaW.PrintLast Go.Proofs.YtdoomkcgdcfmlaaW.PrintMore
def spec_l20Two.f (k : Nat) (s0_0 : List Int) (s0_1 : Int) (a1 : Int) : Option ((List (List Int)) × List Int × Int × Int × Int) := (spec_l20Logic.f k s0_0 s0_1 a1).bind fun bt468 => ((spec_l20Rd_pick.f k s0_0 bt468.2.2 (mx (bt468.2.1.length : Int) 1)).bind fun bt476 => ((spec_l20Rd_pick.f k s0_0 bt476.2 40).bind fun bt478 => ((spec_l20Rd_pick.f k s0_0 bt478.2 (mx (bt468.2.1.length : Int) 1)).bind fun bt480 => ((spec_l20Rd_pick.f k s0_0 bt480.2 40).bind fun bt482 => (some (bt468.1, bt468.2.1, wrap64 (bt476.1 + (wrap64 ((wrap64 (Int.tdiv bt478.1 39)) * 12))), wrap64 (bt480.1 - (wrap64 ((wrap64 (Int.tdiv bt482.1 39)) * 12))), bt482.2))))))
def spec_l20Two.T3 : Bool × List (List Nat × List Nat) := (true, [([], []), ([], []), ([], []), ([1, 2], [1, 2]), ([], []), ([4, 3], [4]), ([5], [5]), ([6], [6]), ([3, 7], [3, 7]), ([], []), ([], []), ([9, 10, 5], [9, 10]), ([], []), ([12, 11], [12]), ([13], [13]), ([14], [14]), ([11, 15], [11, 15]), ([0, 13, 0], [0]), ([8, 17, 0, 1, 2, 3, 4, 5, 6, 7, 8, 17], [8]), ([16, 18, 0, 1, 2, 3, 4, 5, 6, 7, 8, 9, 10, 11, 12, 13, 14, 15, 16, 17, 18], [16])])
def spec_l20Two.B3 : List Nat := [0, 0, 0, 6, 0, 30, 62, 126, 254, 0, 0, 1598, 0, 7742, 15934, 32318, 65086, 15935, 147455, 524287]
theorem spec_l20Two.tab3 : rtab .any (opsOf Try.f76 3) = spec_l20Two.T3 := by kernel_rfl
theorem spec_l20Two.bits3 : waitsOk spec_l20Two.T3.2 spec_l20Two.B3 = true := by kernel_rfl
set_option maxHeartbeats 8000000 in
set_option maxRecDepth 100000 in
theorem spec_l20Two.calls (k : Nat) (g : Nat) (s0_0 : List Int) (s0_1 : Int) (a1 : Int) (r1 : List (List Int)) (r2 : List Int) (r3 : Int) (r4 : Int) (r5 : Int) (w0 w : World) (hI : IsS87 w0 w g s0_0 s0_1) (hB : Below w0.heap.size w0 w) (h : spec_l20Two.f k s0_0 s0_1 a1 = some (r1, r2, r3, r4, r5)) :
  Calls Try.prog 76 #[.pointer (some ⟨g, 0, none⟩), .int .i64 a1] w fun e w' => ∃ v0_ v1_ : Value, e = .returned (.tuple #[.agg #[v0_, v1_], .int .i64 r3, .int .i64 r4]) ∧ Kd.S (Kd.slice 3 (Kd.int .i64)) 28 w' w.heap.size (fun k_ => some k_ ≠ (v1_ : Value).ownBlock) v0_ r1 ∧ Kd.Q (Kd.int .i64) 3 w' w.heap.size (fun _ => True) v1_ r2 ∧ IsS87 w0 w' g s0_0 r5 ∧ Below w0.heap.size w0 w' ∧ KeepBut w w' g none := by
 have hu30:=Try.underlying30;have a0:=zqm hI;have HK:=zqm (KeepBut.refl w g none);have HL:=zqm hB.size;clear hI;have e8:=zqm hB.size;have HB:=zqm hB;clear hB;have H:((spec_l20Logic.f k s0_0 s0_1 a1).bind fun d2=>((spec_l20Rd_pick.f k s0_0 d2.2.2 (mx (d2.2.1.length:Int) 1)).bind fun c2=>((spec_l20Rd_pick.f k s0_0 c2.2 40).bind fun c0=>((spec_l20Rd_pick.f k s0_0 c0.2 (mx (d2.2.1.length:Int) 1)).bind fun b7=>((spec_l20Rd_pick.f k s0_0 b7.2 40).bind fun b2=>(some (d2.1,d2.2.1,wrap64 (c2.1+(wrap64 ((wrap64 (Int.tdiv c0.1 39))*12))),wrap64 (b7.1 - (wrap64 ((wrap64 (Int.tdiv b2.1 39))*12))),b2.2)))))))=some (r1,r2,r3,r4,r5):=h;clear h;replace H:=Option.bind_eq_some_iff.mp H;obtain⟨⟨a8,a4,c6⟩,e9,H⟩:=H;replace H:((spec_l20Rd_pick.f k s0_0 c6 (mx (a4.length:Int) 1)).bind fun c2=>((spec_l20Rd_pick.f k s0_0 c2.2 40).bind fun c0=>((spec_l20Rd_pick.f k s0_0 c0.2 (mx (a4.length:Int) 1)).bind fun b7=>((spec_l20Rd_pick.f k s0_0 b7.2 40).bind fun b2=>(some (a8,a4,wrap64 (c2.1+(wrap64 ((wrap64 (Int.tdiv c0.1 39))*12))),wrap64 (b7.1 - (wrap64 ((wrap64 (Int.tdiv b2.1 39))*12))),b2.2))))))=some (r1,r2,r3,r4,r5):=H;have A3:=zqm e9;clear e9;obtain⟨c7,c8⟩: ∃j_:Int,(mx (a4.length:Int) 1)=j_:=⟨_,rfl⟩;(replace H:((spec_l20Rd_pick.f k s0_0 c6 (c7)).bind fun c2=>((spec_l20Rd_pick.f k s0_0 c2.2 40).bind fun c0=>((spec_l20Rd_pick.f k s0_0 c0.2 (c7)).bind fun b7=>((spec_l20Rd_pick.f k s0_0 b7.2 40).bind fun b2=>(some (a8,a4,wrap64 (c2.1+(wrap64 ((wrap64 (Int.tdiv c0.1 39))*12))),wrap64 (b7.1 - (wrap64 ((wrap64 (Int.tdiv b2.1 39))*12))),b2.2))))))=some (r1,r2,r3,r4,r5):=by first|(rw [c8] at H;exact H)|(simp only [c8] at H ⊢;exact H));(try rw [c8] at A3);(try(have hji4l:1≤c7:=by(rw [← c8];unfold mx;(repeat' split) <;> omega)));(try(have hji4m:0≤c7:=by omega));have g4:(if(a4.length:Int)<1 then 1 else(a4.length:Int))=c7:=c8;replace H:=Option.bind_eq_some_iff.mp H;obtain⟨⟨d3,d4⟩,f0,H⟩:=H;replace H:((spec_l20Rd_pick.f k s0_0 d4 40).bind fun c0=>((spec_l20Rd_pick.f k s0_0 c0.2 (c7)).bind fun b7=>((spec_l20Rd_pick.f k s0_0 b7.2 40).bind fun b2=>(some (a8,a4,wrap64 (d3+(wrap64 ((wrap64 (Int.tdiv c0.1 39))*12))),wrap64 (b7.1 - (wrap64 ((wrap64 (Int.tdiv b2.1 39))*12))),b2.2)))))=some (r1,r2,r3,r4,r5):=H;have A5:=zqm f0;clear f0;replace H:=Option.bind_eq_some_iff.mp H;obtain⟨⟨e2,d5⟩,f1,H⟩:=H;replace H:((spec_l20Rd_pick.f k s0_0 d5 (c7)).bind fun b7=>((spec_l20Rd_pick.f k s0_0 b7.2 40).bind fun b2=>(some (a8,a4,wrap64 (d3+(wrap64 ((wrap64 (Int.tdiv e2 39))*12))),wrap64 (b7.1 - (wrap64 ((wrap64 (Int.tdiv b2.1 39))*12))),b2.2))))=some (r1,r2,r3,r4,r5):=H;have A6:=zqm f1;clear f1;replace H:=Option.bind_eq_some_iff.mp H;obtain⟨⟨e3,d6⟩,f2,H⟩:=H;replace H:((spec_l20Rd_pick.f k s0_0 d6 40).bind fun b2=>(some (a8,a4,wrap64 (d3+(wrap64 ((wrap64 (Int.tdiv e2 39))*12))),wrap64 (e3 - (wrap64 ((wrap64 (Int.tdiv b2.1 39))*12))),b2.2)))=some (r1,r2,r3,r4,r5):=H;have A7:=zqm f2;clear f2;replace H:=Option.bind_eq_some_iff.mp H;obtain⟨⟨e4,e5⟩,f3,H⟩:=H;replace H:(some (a8,a4,wrap64 (d3+(wrap64 ((wrap64 (Int.tdiv e2 39))*12))),wrap64 (e3 - (wrap64 ((wrap64 (Int.tdiv e4 39))*12))),e5))=some (r1,r2,r3,r4,r5):=H;have A8:=zqm f3;clear f3;simp only [Option.some.injEq,Prod.mk.injEq] at H;obtain⟨rfl,rfl,rfl,rfl,rfl⟩:=H
 go_enter Try.func76,Try.ntmps76
 (try go_wp2_with (first|((with_reducible refine gate_dst (N:=4) rfl ?_);refine box_event ?hg (N:=4) ?hd (cs:= #[.slice none 0 0,.slice none 0 0]) (t:=30) ?hr ?_;(case hd=>rfl);(case hg=>rfl);(case hr=>first|(go_simp;done)|(go_simp;rfl));intro a5 hg w9 hbox hb;have d7:=zqm (IsS87.below zq159 hb);have d8:=zqm (KeepBut.trans zq50 (KeepBut.of_below hb g none) (.inl rfl));replace HB:=zqm (below_step zq134 hb);have a6:=zqm (hbox);have b9:=zqm ((by rw [hg];exact(keep_size (w:=w) (g:=g) (row:=none) zq50):w.heap.size≤a5));have c3:=zqm ((Nat.le_trans e8.out (by rw [hg];exact(keep_size (w:=w) (g:=g) (row:=none) zq50):w.heap.size≤a5):w0.heap.size≤a5));have a7:=zqm ((by rw [hg];exact Nat.ne_of_lt (IsS87.lt (show IsS87 w0 _ g s0_0 s0_1 from by repeat(first|(with_reducible first|exact a0.out|apply IsS87.alloc|apply IsS87.drewN|apply IsS87.drew|apply IsS87.set_1)|exact a0.out))):g≠a5));have c4:=zqm ((by rw [hg];exact Nat.ne_of_gt (IsS87.lt (show IsS87 w0 _ g s0_0 s0_1 from by repeat(first|(with_reducible first|exact a0.out|apply IsS87.alloc|apply IsS87.drewN|apply IsS87.drew|apply IsS87.set_1)|exact a0.out))):a5≠g));clear a0 HK;have a0:=d7;have HK:=d8;clear d7 d8 hb hbox hg)|((with_reducible refine gate_callee (f:=85) rfl ?_);refine goesL_ (some 11) rfl rfl Try.func85 zqk rfl #[.pointer (some ⟨g,0,none⟩),.int .i64 a1] rfl zq1 ?_;(with_reducible refine(spec_l20Logic.calls k g s0_0 s0_1 a1 a8 a4 c6 w0 _ ?side1 ?side2 A3.out).mono ?_);(case side1=> exact zq346);(case side2=> exact zq333);rintro e h1 ⟨g9,h0,rfl,f4,f5,hi,hb,hk⟩;refine⟨_,rfl,?_⟩;replace a6:=zqm (KeepBut.blk hk (g':=a5) (o:= .cells #[.slice none 0 0,.slice none 0 0] 30 (0,0)) zq153 c4.out (by simp));have b3:=zqm (Kd.S_lower f4 (keep_size (w:=w) (g:=g) (row:=none) zq132));have b4:=zqm (Kd.Q_lower f5 (keep_size (w:=w) (g:=g) (row:=none) zq132));replace HK:=zqm (KeepBut.trans zq132 hk (.inl rfl));replace HB:=zqm (hb);replace a0:=zqm (hi);clear hb hk hi f4 f5)|((with_reducible refine gate_dst (N:=7) rfl ?_);refine box_event ?hg (N:=7) ?hd (cs:= #[.slice none 0 0,.slice none 0 0]) (t:=30) ?hr ?_;(case hd=>rfl);(case hg=>rfl);(case hr=>first|(go_simp;done)|(go_simp;rfl));intro a2 hg d1 hbox hb;replace b3:=zqm (Kd.S_below zq171 hb);replace b4:=zqm (Kd.Q_below zq275 hb);have d9:=zqm (IsS87.below zq346 hb);have e0:=zqm (blk_below (g:=a5) (o:= .cells #[.slice none 0 0,.slice none 0 0] 30 (0,0)) zq153 hb);have e1:=zqm (KeepBut.trans zq132 (KeepBut.of_below hb g none) (.inl rfl));replace HB:=zqm (below_step zq333 hb);have a3:=zqm (hbox);have c9:=zqm ((by rw [hg];exact(keep_size (w:=w) (g:=g) (row:=none) zq132):w.heap.size≤a2));have d0:=zqm ((Nat.le_trans e8.out (by rw [hg];exact(keep_size (w:=w) (g:=g) (row:=none) zq132):w.heap.size≤a2):w0.heap.size≤a2));have c1:=zqm ((by rw [hg];exact Nat.ne_of_lt (blk_lt (g:=a5) (o:= .cells #[.slice none 0 0,.slice none 0 0] 30 (0,0)) zq153):a5≠a2));have b8:=zqm ((by rw [hg];exact Nat.ne_of_gt (blk_lt (g:=a5) (o:= .cells #[.slice none 0 0,.slice none 0 0] 30 (0,0)) zq153):a2≠a5));have a9:=zqm ((by rw [hg];exact Nat.ne_of_lt (IsS87.lt (show IsS87 w0 _ g s0_0 c6 from by repeat(first|(with_reducible first|exact a0.out|apply IsS87.alloc|apply IsS87.drewN|apply IsS87.drew|apply IsS87.set_1|refine IsS87.far ?_ a7.out _)|exact a0.out))):g≠a2));have c5:=zqm ((by rw [hg];exact Nat.ne_of_gt (IsS87.lt (show IsS87 w0 _ g s0_0 c6 from by repeat(first|(with_reducible first|exact a0.out|apply IsS87.alloc|apply IsS87.drewN|apply IsS87.drew|apply IsS87.set_1|refine IsS87.far ?_ a7.out _)|exact a0.out))):a2≠g));clear a0 a6 HK;have a0:=d9;have a6:=e0;have HK:=e1;clear d9 e0 e1 hb hbox hg;obtain⟨b0,b1,f7⟩:=Kd.S_slice b3.out;subst f7;have g5:=b8.out;have g6:=c1.out;have g7:=c5.out;have g8:=a9.out;have f9:d1.cell? ⟨a2,0,none⟩=some (.slice none 0 0):=(blk_cell a3.out 0).trans rfl;have g0:d1.cell? ⟨a2,1,none⟩=some (.slice none 0 0):=(blk_cell a3.out 1).trans rfl;have g1:=blk_frozen a3.out 0;have g2:=blk_frozen a3.out 1;obtain⟨b5,b6,f8,_⟩:=Kd.Q_slice b4.out;subst f8)))
 have d7:Aside0 (Kd.S (Kd.slice 3 (Kd.int .i64)) 28 ((d1.setCell ⟨a2,0,none⟩ (.slice b0 a8.length b1)).setCell ⟨a2,1,none⟩ (.slice b5 a4.length b6)) w.heap.size (fun k_=>some k_≠(.slice b5 a4.length b6:Value).ownBlock) (.slice b0 a8.length b1) a8):=⟨by(with_reducible repeat(first|apply Kd.S_alloc|apply Kd.S_drewN|apply Kd.S_drew));exact Kd.S_mono (Kd.S_far (p:=⟨a2,1,none⟩) (Kd.S_far (p:=⟨a2,0,none⟩) (Kd.S_types b3.out a3.out (by decide)) (fun _ hk=>hk.2) (.slice b0 a8.length b1)) (fun _ hk=>hk.2) (.slice b5 a4.length b6)) (fun _ hk=>hk.1)⟩;have d8:Aside0 (Kd.Q (Kd.int .i64) 3 ((d1.setCell ⟨a2,0,none⟩ (.slice b0 a8.length b1)).setCell ⟨a2,1,none⟩ (.slice b5 a4.length b6)) w.heap.size (fun _=>True) (.slice b5 a4.length b6) a4):=⟨by(with_reducible repeat(first|apply Kd.Q_alloc|apply Kd.Q_drewN|apply Kd.Q_drew));exact Kd.Q_mono (Kd.Q_far (p:=⟨a2,1,none⟩) (Kd.Q_far (p:=⟨a2,0,none⟩) (Kd.Q_types b4.out a3.out (by decide)) (fun _ hk=>hk.2) (.slice b0 a8.length b1)) (fun _ hk=>hk.2) (.slice b5 a4.length b6)) (fun _ hk=>trivial)⟩;have d9:Aside0 (((d1.setCell ⟨a2,0,none⟩ (.slice b0 a8.length b1)).setCell ⟨a2,1,none⟩ (.slice b5 a4.length b6)).heap[a5]? =some (.cells #[.slice none 0 0,.slice none 0 0] 30 (0,0))):=⟨by(with_reducible repeat(first|refine blk_drewN ?_ _|refine blk_drew ?_|refine blk_alloc ?_ _));refine blk_far ?_ c1.out _;(with_reducible repeat(first|refine blk_drewN ?_ _|refine blk_drew ?_|refine blk_alloc ?_ _));refine blk_far ?_ c1.out _;(with_reducible repeat(first|refine blk_drewN ?_ _|refine blk_drew ?_|refine blk_alloc ?_ _));exact a6.out⟩;have e0:Aside0 (((d1.setCell ⟨a2,0,none⟩ (.slice b0 a8.length b1)).setCell ⟨a2,1,none⟩ (.slice b5 a4.length b6)).heap[a2]? =some (.cells #[.slice b0 a8.length b1,.slice b5 a4.length b6] 30 (0,0))):=⟨by(with_reducible repeat(first|refine blk_drewN ?_ _|refine blk_drew ?_|refine blk_alloc ?_ _));refine blk_put (cs:= #[.slice b0 a8.length b1,.slice none 0 0]) ?_ 1 _ rfl;(with_reducible repeat(first|refine blk_drewN ?_ _|refine blk_drew ?_|refine blk_alloc ?_ _));refine blk_put (cs:= #[.slice none 0 0,.slice none 0 0]) ?_ 0 _ rfl;(with_reducible repeat(first|refine blk_drewN ?_ _|refine blk_drew ?_|refine blk_alloc ?_ _));exact a3.out⟩;have e1:Aside0 (IsS87 w0 ((d1.setCell ⟨a2,0,none⟩ (.slice b0 a8.length b1)).setCell ⟨a2,1,none⟩ (.slice b5 a4.length b6)) g s0_0 c6):=⟨zq117⟩;have e6:Aside0 (KeepBut w ((d1.setCell ⟨a2,0,none⟩ (.slice b0 a8.length b1)).setCell ⟨a2,1,none⟩ (.slice b5 a4.length b6)) g none):=⟨zq118⟩;have e7:Aside0 (Below w0.heap.size w0 ((d1.setCell ⟨a2,0,none⟩ (.slice b0 a8.length b1)).setCell ⟨a2,1,none⟩ (.slice b5 a4.length b6))):=⟨zq102⟩;generalize ((d1.setCell ⟨a2,0,none⟩ (.slice b0 a8.length b1)).setCell ⟨a2,1,none⟩ (.slice b5 a4.length b6))=g3 at d7 d8 d9 e0 e1 e6 e7 ⊢;have b3:=d7;have b4:=d8;have a6:=d9;have a3:=e0;have a0:=e1;have HK:=e6;have HB:=e7;clear d7 d8 d9 e0 e1 e6 e7;replace b3:=zqm (Kd.S_drew b3.out);replace b4:=zqm (Kd.Q_drew b4.out);replace a6:=zqm (blk_drew a6.out);replace a3:=zqm (blk_drew a3.out);replace a0:=zqm (IsS87.drew a0.out);replace HK:=zqm (keep_drew HK.out);replace HB:=zqm (below_drew1 HB.out);refine start_ (n:=20) (S:=fun w'=>w'.cell? ⟨a2,0,none⟩=some (.slice b0 a8.length b1)∧w'.cell? ⟨a2,1,none⟩=some (.slice b5 a4.length b6)) (ds:= []) (zqb 20 0) zqk rfl rfl ⟨(blk_cell a3.out 0).trans rfl,(blk_cell a3.out 1).trans rfl⟩ (fun hHeld=>?_);refine with_tabW spec_l20Two.tab3 spec_l20Two.bits3 (fun HT_ HW_=>?_);generalize g3.drew=h2 at b3 b4 a6 a3 a0 HK HB hHeld ⊢;refine pure_ (i:=1) (N:=some 17) (v:=?_) (a':=?_) (zqb 20 2) rfl rfl (any_of HT_.out zqk) (fun _ _ _ h=>h) (Or.inl ⟨by rfl,?_⟩) ?_ ?_;rotate_left
 ·exact zqt
 rotate_left
 ·exact zqs
 refine pure_ (i:=2) (N:=some 18) (v:=?_) (a':=?_) (zqb 20 6) rfl rfl (any_of HT_.out zqk) (fun _ _ _ h=>h) (Or.inl ⟨by rfl,?_⟩) ?_ ?_;rotate_left
 ·exact zqt
 rotate_left
 ·exact zqs
 refine pure_ (i:=4) (N:=some 20) (v:=?_) (a':=?_) (zqb 20 22) rfl rfl (any_of HT_.out zqk) (fun _ _ _ h=>h) (Or.inl ⟨by rfl,?_⟩) ?_ ?_;rotate_left
 ·exact zqt
 rotate_left
 ·exact zqs
 refine pure_ (i:=9) (N:=some 25) (v:=?_) (a':=?_) (zqb 20 534) rfl rfl (any_of HT_.out zqk) (fun _ _ _ h=>h) (Or.inl ⟨by rfl,?_⟩) ?_ ?_;rotate_left
 ·exact zqt
 rotate_left
 ·exact zqs
 refine pure_ (i:=10) (N:=some 26) (v:=?_) (a':=?_) (zqb 20 1558) rfl rfl (any_of HT_.out zqk) (fun _ _ _ h=>h) (Or.inl ⟨by rfl,?_⟩) ?_ ?_;rotate_left
 ·exact zqt
 rotate_left
 ·exact zqs
 refine pure_ (i:=12) (N:=some 28) (v:=?_) (a':=?_) (zqb 20 5654) rfl rfl (any_of HT_.out zqk) (fun _ _ _ h=>h) (Or.inl ⟨by rfl,?_⟩) ?_ ?_;rotate_left
 ·exact zqt
 rotate_left
 ·exact zqs
 refine take_ (i:=0) (N:=some 16) (v:=?_) (a':=?_) (zqb 20 5655) rfl rfl (take_ofW HT_.out HW_.out zqk) (fun _ _ _ h=>h) (Or.inl ⟨by rfl,?_⟩) hHeld ?_ ?_;rotate_left
 ·rintro w' ⟨s0,s1⟩;go_simp;with_reducible rfl
 rotate_left
 ·exact zqs
 refine one_ (i:=3) (N:=some 19) (zqb 20 5663) rfl rfl (one_of HT_.out zqk) (by decide) (fun K hK=>?_);refine goes_ Try.func103 zqk rfl #[.pointer (some ⟨g,0,none⟩),.int .i64 c7] (by rfl) rfl rfl zq354 ?_;(with_reducible refine(spec_l20Rd_pick.calls k g s0_0 c6 c7 d3 d4 w0 _ ?side1 ?side2 A5.out).mono ?_);(case side1=> exact zq117);(case side2=> exact zq102);rintro e h3 ⟨rfl,hi,hb,hk⟩;refine⟨_,rfl,?_⟩;replace a6:=zqm (KeepBut.blk hk (g':=a5) (o:= .cells #[.slice none 0 0,.slice none 0 0] 30 (0,0)) zq153 c4.out (by simp));replace b3:=zqm (Kd.S_mono (Kd.S_keep (IsS87.apartS (show IsS87 w0 _ g s0_0 c6 from by repeat(first|(with_reducible first|exact a0.out|apply IsS87.alloc|apply IsS87.drewN|apply IsS87.drew|apply IsS87.set_1|refine IsS87.far ?_ a7.out _|refine IsS87.far ?_ a9.out _)|exact a0.out)) zq171 (by decide)) hk (fun _ h=>h.2)) (fun _ h=>h.1));replace b4:=zqm (Kd.Q_mono (Kd.Q_keep (IsS87.apartQ (show IsS87 w0 _ g s0_0 c6 from by repeat(first|(with_reducible first|exact a0.out|apply IsS87.alloc|apply IsS87.drewN|apply IsS87.drew|apply IsS87.set_1|refine IsS87.far ?_ a7.out _|refine IsS87.far ?_ a9.out _)|exact a0.out)) zq275 (by decide)) hk (fun _ h=>h.2)) (fun _ h=>h.1));replace a3:=zqm (KeepBut.blk hk (g':=a2) (o:= .cells #[.slice b0 a8.length b1,.slice b5 a4.length b6] 30 (0,0)) zq311 c5.out (by simp));replace HK:=zqm (KeepBut.trans zq118 hk (.inl rfl));replace HB:=zqm (hb);replace a0:=zqm (hi);clear hb hk hi;refine hK.out _ _ ⟨(blk_cell a3.out 0).trans rfl,(blk_cell a3.out 1).trans rfl⟩ (fun hHeld=>?_);clear hK K;refine norm_ (a':=?_) ?_ ?_;rotate_left
 ·show Act.put _ (some 19) _=_;exact zqs
 refine one_ (i:=5) (N:=some 21) (zqb 20 5695) rfl rfl (one_of HT_.out zqk) (by decide) (fun K hK=>?_);refine goes_ Try.func103 zqk rfl #[.pointer (some ⟨g,0,none⟩),.int .i64 40] (by rfl) rfl rfl zq1 ?_;(with_reducible refine(spec_l20Rd_pick.calls k g s0_0 d4 40 e2 d5 w0 _ ?side1 ?side2 A6.out).mono ?_);(case side1=> exact zq117);(case side2=> exact zq102);rintro e h4 ⟨rfl,hi,hb,hk⟩;refine⟨_,rfl,?_⟩;replace a6:=zqm (KeepBut.blk hk (g':=a5) (o:= .cells #[.slice none 0 0,.slice none 0 0] 30 (0,0)) zq153 c4.out (by simp));replace b3:=zqm (Kd.S_mono (Kd.S_keep (IsS87.apartS (show IsS87 w0 _ g s0_0 d4 from by repeat(first|(with_reducible first|exact a0.out|apply IsS87.alloc|apply IsS87.drewN|apply IsS87.drew|apply IsS87.set_1|refine IsS87.far ?_ a7.out _|refine IsS87.far ?_ a9.out _)|exact a0.out)) zq171 (by decide)) hk (fun _ h=>h.2)) (fun _ h=>h.1));replace b4:=zqm (Kd.Q_mono (Kd.Q_keep (IsS87.apartQ (show IsS87 w0 _ g s0_0 d4 from by repeat(first|(with_reducible first|exact a0.out|apply IsS87.alloc|apply IsS87.drewN|apply IsS87.drew|apply IsS87.set_1|refine IsS87.far ?_ a7.out _|refine IsS87.far ?_ a9.out _)|exact a0.out)) zq275 (by decide)) hk (fun _ h=>h.2)) (fun _ h=>h.1));replace a3:=zqm (KeepBut.blk hk (g':=a2) (o:= .cells #[.slice b0 a8.length b1,.slice b5 a4.length b6] 30 (0,0)) zq311 c5.out (by simp));replace HK:=zqm (KeepBut.trans zq118 hk (.inl rfl));replace HB:=zqm (hb);replace a0:=zqm (hi);clear hb hk hi;refine hK.out _ _ ⟨(blk_cell a3.out 0).trans rfl,(blk_cell a3.out 1).trans rfl⟩ (fun hHeld=>?_);clear hK K;refine norm_ (a':=?_) ?_ ?_;rotate_left
 ·show Act.put _ (some 21) _=_;exact zqs
 refine pure_ (i:=6) (N:=some 22) (v:=?_) (a':=?_) (zqb 20 5759) rfl rfl (any_of HT_.out zqk) (fun _ _ _ h=>h) (Or.inl ⟨by rfl,?_⟩) ?_ ?_;rotate_left
 ·exact zqt
 rotate_left
 ·exact zqs
 refine pure_ (i:=7) (N:=some 23) (v:=?_) (a':=?_) (zqb 20 5887) rfl rfl (any_of HT_.out zqk) (fun _ _ _ h=>h) (Or.inl ⟨by rfl,?_⟩) ?_ ?_;rotate_left
 ·exact zqt
 rotate_left
 ·exact zqs
 refine pure_ (i:=8) (N:=some 24) (v:=?_) (a':=?_) (zqb 20 6143) rfl rfl (any_of HT_.out zqk) (fun _ _ _ h=>h) (Or.inl ⟨by rfl,?_⟩) ?_ ?_;rotate_left
 ·exact zqt
 rotate_left
 ·exact zqs
 refine one_ (i:=11) (N:=some 27) (zqb 20 8191) rfl rfl (one_of HT_.out zqk) (by decide) (fun K hK=>?_);refine goes_ Try.func103 zqk rfl #[.pointer (some ⟨g,0,none⟩),.int .i64 c7] (by rfl) rfl rfl zq354 ?_;(with_reducible refine(spec_l20Rd_pick.calls k g s0_0 d5 c7 e3 d6 w0 _ ?side1 ?side2 A7.out).mono ?_);(case side1=> exact zq117);(case side2=> exact zq102);rintro e h5 ⟨rfl,hi,hb,hk⟩;refine⟨_,rfl,?_⟩;replace a6:=zqm (KeepBut.blk hk (g':=a5) (o:= .cells #[.slice none 0 0,.slice none 0 0] 30 (0,0)) zq153 c4.out (by simp));replace b3:=zqm (Kd.S_mono (Kd.S_keep (IsS87.apartS (show IsS87 w0 _ g s0_0 d5 from by repeat(first|(with_reducible first|exact a0.out|apply IsS87.alloc|apply IsS87.drewN|apply IsS87.drew|apply IsS87.set_1|refine IsS87.far ?_ a7.out _|refine IsS87.far ?_ a9.out _)|exact a0.out)) zq171 (by decide)) hk (fun _ h=>h.2)) (fun _ h=>h.1));replace b4:=zqm (Kd.Q_mono (Kd.Q_keep (IsS87.apartQ (show IsS87 w0 _ g s0_0 d5 from by repeat(first|(with_reducible first|exact a0.out|apply IsS87.alloc|apply IsS87.drewN|apply IsS87.drew|apply IsS87.set_1|refine IsS87.far ?_ a7.out _|refine IsS87.far ?_ a9.out _)|exact a0.out)) zq275 (by decide)) hk (fun _ h=>h.2)) (fun _ h=>h.1));replace a3:=zqm (KeepBut.blk hk (g':=a2) (o:= .cells #[.slice b0 a8.length b1,.slice b5 a4.length b6] 30 (0,0)) zq311 c5.out (by simp));replace HK:=zqm (KeepBut.trans zq118 hk (.inl rfl));replace HB:=zqm (hb);replace a0:=zqm (hi);clear hb hk hi;refine hK.out _ _ ⟨(blk_cell a3.out 0).trans rfl,(blk_cell a3.out 1).trans rfl⟩ (fun hHeld=>?_);clear hK K;refine norm_ (a':=?_) ?_ ?_;rotate_left
 ·show Act.put _ (some 27) _=_;exact zqs
 refine one_ (i:=13) (N:=some 29) (zqb 20 16383) rfl rfl (one_of HT_.out zqk) (by decide) (fun K hK=>?_);refine goes_ Try.func103 zqk rfl #[.pointer (some ⟨g,0,none⟩),.int .i64 40] (by rfl) rfl rfl zq1 ?_;(with_reducible refine(spec_l20Rd_pick.calls k g s0_0 d6 40 e4 e5 w0 _ ?side1 ?side2 A8.out).mono ?_);(case side1=> exact zq117);(case side2=> exact zq102);rintro e f6 ⟨rfl,hi,hb,hk⟩;refine⟨_,rfl,?_⟩;replace a6:=zqm (KeepBut.blk hk (g':=a5) (o:= .cells #[.slice none 0 0,.slice none 0 0] 30 (0,0)) zq153 c4.out (by simp));replace b3:=zqm (Kd.S_mono (Kd.S_keep (IsS87.apartS (show IsS87 w0 _ g s0_0 d6 from by repeat(first|(with_reducible first|exact a0.out|apply IsS87.alloc|apply IsS87.drewN|apply IsS87.drew|apply IsS87.set_1|refine IsS87.far ?_ a7.out _|refine IsS87.far ?_ a9.out _)|exact a0.out)) zq171 (by decide)) hk (fun _ h=>h.2)) (fun _ h=>h.1));replace b4:=zqm (Kd.Q_mono (Kd.Q_keep (IsS87.apartQ (show IsS87 w0 _ g s0_0 d6 from by repeat(first|(with_reducible first|exact a0.out|apply IsS87.alloc|apply IsS87.drewN|apply IsS87.drew|apply IsS87.set_1|refine IsS87.far ?_ a7.out _|refine IsS87.far ?_ a9.out _)|exact a0.out)) zq275 (by decide)) hk (fun _ h=>h.2)) (fun _ h=>h.1));replace a3:=zqm (KeepBut.blk hk (g':=a2) (o:= .cells #[.slice b0 a8.length b1,.slice b5 a4.length b6] 30 (0,0)) zq311 c5.out (by simp));replace HK:=zqm (KeepBut.trans zq118 hk (.inl rfl));replace HB:=zqm (hb);replace a0:=zqm (hi);clear hb hk hi;refine hK.out _ _ ⟨(blk_cell a3.out 0).trans rfl,(blk_cell a3.out 1).trans rfl⟩ (fun hHeld=>?_);clear hK K;refine norm_ (a':=?_) ?_ ?_;rotate_left
 ·show Act.put _ (some 29) _=_;exact zqs
 refine pure_ (i:=14) (N:=some 30) (v:=?_) (a':=?_) (zqb 20 32767) rfl rfl (any_of HT_.out zqk) (fun _ _ _ h=>h) (Or.inl ⟨by rfl,?_⟩) ?_ ?_;rotate_left
 ·exact zqt
 rotate_left
 ·exact zqs
 refine pure_ (i:=15) (N:=some 31) (v:=?_) (a':=?_) (zqb 20 65535) rfl rfl (any_of HT_.out zqk) (fun _ _ _ h=>h) (Or.inl ⟨by rfl,?_⟩) ?_ ?_;rotate_left
 ·exact zqt
 rotate_left
 ·exact zqs
 refine pure_ (i:=16) (N:=some 32) (v:=?_) (a':=?_) (zqb 20 131071) rfl rfl (any_of HT_.out zqk) (fun _ _ _ h=>h) (Or.inl ⟨by rfl,?_⟩) ?_ ?_;rotate_left
 ·exact zqt
 rotate_left
 ·exact zqs
 refine one_ (i:=17) (N:=none) (zqb 20 262143) rfl rfl (one_of HT_.out zqk) (by decide) (fun K hK=>?_);have hs23:f6.cell? ⟨a5,0,none⟩=some (.slice none 0 0):=(blk_cell a6.out 0).trans rfl;have hfs23:=blk_frozen a6.out 0;have hns23_1:=b8.out;have hms23_1:=c1.out;have hs24:f6.cell? ⟨a5,1,none⟩=some (.slice none 0 0):=(blk_cell a6.out 1).trans rfl;have hfs24:=blk_frozen a6.out 1;have hns24_1:=b8.out;have hms24_1:=c1.out;refine skip_ (w1:=?_) (by rfl) rfl ?_ ?_;rotate_left
 ·go_simp;rfl
 refine hK.out _ _ ⟨((cell_far (p:=⟨a5,_,none⟩) b8.out _).trans (((cell_far (p:=⟨a5,_,none⟩) b8.out _).trans (hHeld.1)))),((cell_far (p:=⟨a5,_,none⟩) b8.out _).trans (((cell_far (p:=⟨a5,_,none⟩) b8.out _).trans (hHeld.2))))⟩ (fun hHeld=>?_);clear hK K;refine pure_ (i:=18) (N:=some 5) (v:=?_) (a':=?_) (zqb 20 524287) rfl rfl (any_of HT_.out zqk) (fun _ _ _ h=>h) (Or.inl ⟨by rfl,?_⟩) ?_ ?_;rotate_left
 ·exact zqt
 rotate_left
 ·exact zqs
 refine pure_ (i:=19) (N:=some 6) (v:=?_) (a':=?_) (zqb 20 1048575) rfl rfl (any_of HT_.out zqk) (fun _ _ _ h=>h) (Or.inl ⟨by rfl,?_⟩) ?_ ?_;rotate_left
 ·exact zqt
 rotate_left
 ·exact zqs
 refine done_ (done_of HT_.out zqk) ?_;(try go_wp2);refine bodyPost_ret (results_ctt rfl _ _ a5 30 #[.slice b0 a8.length b1,.slice b5 a4.length b6] (0,0) _ rfl (by(with_reducible repeat(first|refine blk_drewN ?_ _|refine blk_drew ?_|refine blk_alloc ?_ _));refine blk_put (cs:= #[.slice b0 a8.length b1,.slice none 0 0]) ?_ 1 _ rfl;(with_reducible repeat(first|refine blk_drewN ?_ _|refine blk_drew ?_|refine blk_alloc ?_ _));refine blk_put (cs:= #[.slice none 0 0,.slice none 0 0]) ?_ 0 _ rfl;(with_reducible repeat(first|refine blk_drewN ?_ _|refine blk_drew ?_|refine blk_alloc ?_ _));exact a6.out) Try.underlying30 rfl zqk) rfl ?_;exact⟨_,_,by first|rfl|(simp [errW_none,errW_some] <;> rfl)|(simp only [← c8];first|rfl|(simp [errW_none,errW_some] <;> rfl))|(simp [*,errW_none,errW_some] <;> rfl),by(with_reducible repeat(first|apply Kd.S_alloc|apply Kd.S_drewN|apply Kd.S_drew));exact Kd.S_mono (Kd.S_far (p:=⟨a5,1,none⟩) (Kd.S_far (p:=⟨a5,0,none⟩) (Kd.S_types b3.out a6.out (by decide)) (fun _ hk=>hk.2) (.slice b0 a8.length b1)) (fun _ hk=>hk.2) (.slice b5 a4.length b6)) (fun _ hk=>hk.1),by(with_reducible repeat(first|apply Kd.Q_alloc|apply Kd.Q_drewN|apply Kd.Q_drew));exact Kd.Q_mono (Kd.Q_far (p:=⟨a5,1,none⟩) (Kd.Q_far (p:=⟨a5,0,none⟩) (Kd.Q_types b4.out a6.out (by decide)) (fun _ hk=>hk.2) (.slice b0 a8.length b1)) (fun _ hk=>hk.2) (.slice b5 a4.length b6)) (fun _ hk=>trivial),zq117,zq102,zq118⟩
end Go.Proofs.Ytdoomkcgdcfmlaa.Print
end
section
namespace Go.Proofs.Ytdoomkcgdcfmlaa.Print
open Go.RowKit Go.Proofs.YtdoomkcgdcfmlaaW.PrintWords Go.Proofs.YtdoomkcgdcfmlaaW.PrintLast Go.Proofs.YtdoomkcgdcfmlaaW.PrintMore
open Oml
section
variable {b : List Int} (hb : Bytes b) (hl : b.length ≤ 2000)
include hb hl
theorem two_ev {p : Int} (h0 : 0 ≤ p) (h1 : p ≤ 999999000) (n : Int) : ∃ V M x y q, Ev (fun k => spec_l20Two.f k b p n) (V, M, x, y, q) ∧ p ≤ q ∧ q ≤ p + 124 := by
  obtain⟨V,M,q,h,k1,k2⟩:=logic_ev hb hl h0 (by omega) n
  obtain⟨v1,e1,_,_⟩:=pick_ev hb hl (p:=q) (by omega) (by omega) (mx (M.length:Int) 1)
  obtain⟨v2,e2,_,_⟩:=pick_ev hb hl (p:=q+1) (by omega) (by omega) 40
  obtain⟨v3,e3,_,_⟩:=pick_ev hb hl (p:=q+1+1) (by omega) (by omega) (mx (M.length:Int) 1)
  obtain⟨v4,e4,_,_⟩:=pick_ev hb hl (p:=q+1+1+1) (by omega) (by omega) 40
  exact⟨_,_,_,_,q+1+1+1+1,Ev.bind h (Ev.bind e1 (Ev.bind e2 (Ev.bind e3 (Ev.bind e4 (Ev.now _))))),by omega,by omega⟩
end
end Go.Proofs.Ytdoomkcgdcfmlaa.Print
end
section
namespace Go.Proofs.Ytdoomkcgdcfmlaa.Print
open Go.RowKit Go.Proofs.YtdoomkcgdcfmlaaW.PrintWords Go.Proofs.YtdoomkcgdcfmlaaW.PrintLast Go.Proofs.YtdoomkcgdcfmlaaW.PrintMore
open Oml
def impl_ApartOk.T2 : Bool × List (List Nat × List Nat) := (true, [([], []), ([], []), ([], []), ([1, 2], [1, 2]), ([0, 3], [0, 3]), ([4, 4], [4]), ([5], [5]), ([6, 5], [5, 6]), ([7, 5], [5, 7]), ([8, 5], [5, 8]), ([5], [5]), ([9, 10, 5], [5, 9, 10]), ([11, 5], [5, 11]), ([5], [5]), ([13, 5], [5, 13]), ([14, 5], [5, 14]), ([15, 5], [5, 15]), ([5], [5]), ([16, 17, 5], [5, 16, 17]), ([18, 5], [5, 18]), ([12, 19, 5], [5, 12, 19]), ([20, 5], [5, 20]), ([21, 5], [5, 21]), ([5, 22], [5, 22]), ([23, 5, 0, 1, 2, 3, 4, 5, 6, 7, 8, 9, 10, 11, 12, 13, 14, 15, 16, 17, 18, 19, 20, 21, 22, 23], [23])])
def impl_ApartOk.B2 : List Nat := [0, 0, 0, 6, 15, 31, 63, 127, 255, 511, 63, 2047, 4095, 63, 8255, 24639, 57407, 63, 254015, 516159, 1048575, 2097151, 4194303, 8388607, 16777215]
theorem impl_ApartOk.tab2 : rtab .any (opsOf Try.f28 2) = impl_ApartOk.T2 := by kernel_rfl
theorem impl_ApartOk.bits2 : waitsOk impl_ApartOk.T2.2 impl_ApartOk.B2 = true := by kernel_rfl
def impl_ApartOk.f (l0_0 : List (List Int)) (l0_1 : List Int) (a1 : Int) (a2 : Int) : Option (Bool) := some (if logicB l0_0 l0_1 = true then (if [a1, a2].all (inR l0_0.length) = true then (at2 l0_0 a1.toNat (notI l0_1 a2).toNat == 1) else false) else false)
set_option maxHeartbeats 4000000 in
set_option maxRecDepth 100000 in
theorem impl_ApartOk.calls (A0_0 : Option Addr) (c0_0 : Nat) (l0_0 : List (List Int)) (A0_1 : Option Addr) (c0_1 : Nat) (l0_1 : List Int) (a1 : Int) (a2 : Int) (r : Bool) (w : World) (hr0_0 : Kd.C (Kd.slice 3 (Kd.int .i64)) w A0_0 l0_0.length l0_0) (hc0_0 : l0_0.length ≤ c0_0) (hr0_1 : Kd.C (Kd.int .i64) w A0_1 l0_1.length l0_1) (hc0_1 : l0_1.length ≤ c0_1) (h : impl_ApartOk.f l0_0 l0_1 a1 a2 = some r) :
    Calls Try.prog 28 #[.agg #[.slice A0_0 l0_0.length c0_0,.slice A0_1 l0_1.length c0_1],.int .i64 a1,.int .i64 a2] w fun e w'=>e= .returned (.bool r)∧Below w.heap.size w w':=by
  obtain⟨k,hF⟩:=told_facts l0_0
  have hu30:=Try.underlying30
  have hu70:=Try.underlying70
  have HF:=Aside0.mk hF
  have HR0:=Aside0.mk hr0_0
  have HC0:=Aside0.mk hc0_0
  have HR1:=Aside0.mk hr0_1
  have HC1:=Aside0.mk hc0_1
  simp only [impl_ApartOk.f,Option.some.injEq] at h
  clear hr0_0 hc0_0 hr0_1 hc0_1 hF
  cases hL:logicB l0_0 l0_1 with
  | false =>
    rw [hL] at h
    have hr_:false=r:=by simpa using h
    subst hr_
    have HLB:=Aside0.mk hL
    clear h hL
    go_enter Try.func28,Try.ntmps28
    go_wp2_with (first|((with_reducible refine gate_dst (N:=3) rfl ?_);refine box_event ?hg (N:=3) ?hd (cs:= #[.slice A0_0 l0_0.length c0_0,.slice A0_1 l0_1.length c0_1]) (t:=30) ?hr ?_;(case hd=>rfl);(case hg=>rfl);(case hr=>first|(go_simp;done)|(go_simp;rfl));intro gb hg_ w1 hbox hb;have HB:=Aside0.mk hb;have hx0:w1.cell? ⟨gb,0,none⟩=some (.slice A0_0 l0_0.length c0_0):=(blk_cell hbox 0).trans rfl;have hx1:w1.cell? ⟨gb,1,none⟩=some (.slice A0_1 l0_1.length c0_1):=(blk_cell hbox 1).trans rfl;have HX:=Aside0.mk hbox;clear hbox hb hg_)|(go_at_call 77;(with_reducible refine(told_n k _ _ l0_0 _ _ l0_1 _ ?s1 ?s2 ?s3 ?s4 HF.out HLB.out).mono ?_);(case s1=>exact Kd.C_below HR0.out HB.out);(case s2=>exact HC0.out);(case s3=>exact Kd.C_below HR1.out HB.out);(case s4=>exact HC1.out);rintro e w2 ⟨rfl,hb⟩;have HB2:=Aside0.mk (below_step HB.out hb);clear hb hx0 hx1 HX HB))
    have HB3:=Aside0.mk (below_drew1 HB2.out)
    refine start_ (n:=25) (S:=(fun _=>True)) (ds:= []) (zqb 25 0) (by kernel_rfl) rfl rfl True.intro (fun hHeld=>?_)
    refine with_tabW impl_ApartOk.tab2 impl_ApartOk.bits2 (fun HT_ HW_=>?_)
    generalize w2.drew=w3 at hHeld HB3 ⊢
    refine pure_ (i:=0) (N:=some 10) (v:=?_) (a':=?_) (zqb 25 1) rfl rfl (any_of HT_.out (by kernel_rfl)) (fun _ _ _ h=>h) (Or.inl ⟨by rfl,?_⟩) ?_ ?_
    rotate_left
    · intro w';go_simp;with_reducible rfl
    rotate_left
    · simp only [Act.put,List.setIfInBounds_toArray,List.set_cons_zero,List.set_cons_succ,i64_w,i32_w];rfl
    refine pure_ (i:=1) (N:=some 11) (v:=?_) (a':=?_) (zqb 25 3) rfl rfl (any_of HT_.out (by kernel_rfl)) (fun _ _ _ h=>h) (Or.inl ⟨by rfl,?_⟩) ?_ ?_
    rotate_left
    · intro w';go_simp;with_reducible rfl
    rotate_left
    · simp only [Act.put,List.setIfInBounds_toArray,List.set_cons_zero,List.set_cons_succ,i64_w,i32_w];rfl
    refine pure_ (i:=2) (N:=some 12) (v:=?_) (a':=?_) (zqb 25 7) rfl rfl (any_of HT_.out (by kernel_rfl)) (fun _ _ _ h=>h) (Or.inl ⟨by rfl,?_⟩) ?_ ?_
    rotate_left
    · intro w';go_simp;with_reducible rfl
    rotate_left
    · simp only [Act.put,List.setIfInBounds_toArray,List.set_cons_zero,List.set_cons_succ,i64_w,i32_w];rfl
    refine one_ (i:=3) (N:=some 13) (zqb 25 15) rfl rfl (one_of HT_.out (by kernel_rfl)) (by decide) (fun K hK=>?_)
    refine event_step (w1:=World.alloc w3 (.cells #[.int .i64 a1,.int .i64 a2] 3)) (v:= .slice (some ⟨w3.heap.size,0,none⟩) 2 2) (by rfl) ?hr1 ?_
    case hr1=>first|(go_simp;done)|(go_simp;rfl)
    refine hK.out _ _ True.intro (fun hHeld4=>?_)
    clear hK K
    refine norm_ (a':=?_) ?_ ?_
    rotate_left
    · show Act.put _ (some 13) _ = _
      simp only [Act.put,List.setIfInBounds_toArray,List.set_cons_zero,List.set_cons_succ,i64_w,i32_w]
      rfl
    refine one_ (i:=4) (N:=some 14) (zqb 25 31) rfl rfl (one_of HT_.out (by kernel_rfl)) (by decide) (fun K hK=>?_)
    refine goes_ Try.func78 (by kernel_rfl) rfl #[.pointer none,.slice (some ⟨w3.heap.size,0,none⟩) 2 2] (by rfl) rfl rfl zq324 ?_
    refine(knows_nil _ _ _ _).mono ?_
    rintro e w4 ⟨rfl,hb⟩
    refine⟨_,rfl,?_⟩
    have HB4:=Aside0.mk (below_step (below_alloc HB3.out _) hb)
    refine hK.out _ _ True.intro (fun hHeld5=>?_)
    clear hK K hb
    refine norm_ (a':=?_) ?_ ?_
    rotate_left
    · show Act.put _ (some 14) _ = _
      simp only [Act.put,List.setIfInBounds_toArray,List.set_cons_zero,List.set_cons_succ,i64_w,i32_w]
      rfl
    refine pure_ (i:=5) (N:=some 15) (v:=?_) (a':=?_) (zqb 25 63) rfl rfl (any_of HT_.out (by kernel_rfl)) (fun _ _ _ h=>h) (Or.inl ⟨by rfl,?_⟩) ?_ ?_
    rotate_left
    · intro w';go_simp;with_reducible rfl
    rotate_left
    · simp only [Act.put,List.setIfInBounds_toArray,List.set_cons_zero,List.set_cons_succ,i64_w,i32_w];rfl
    refine pure_ (i:=6) (N:=some 16) (v:=undef) (a':=?_) (zqb 25 127) rfl rfl (any_of HT_.out (by kernel_rfl)) (fun _ _ _ h=>h) (Or.inr ⟨by rfl,rfl⟩) ?_ ?_
    rotate_left
    · simp only [Act.put,List.setIfInBounds_toArray,List.set_cons_zero,List.set_cons_succ,i64_w,i32_w];rfl
    refine pure_ (i:=7) (N:=some 17) (v:=undef) (a':=?_) (zqb 25 255) rfl rfl (any_of HT_.out (by kernel_rfl)) (fun _ _ _ h=>h) (Or.inr ⟨by rfl,rfl⟩) ?_ ?_
    rotate_left
    · simp only [Act.put,List.setIfInBounds_toArray,List.set_cons_zero,List.set_cons_succ,i64_w,i32_w];rfl
    refine pure_ (i:=8) (N:=some 18) (v:=undef) (a':=?_) (zqb 25 511) rfl rfl (any_of HT_.out (by kernel_rfl)) (fun _ _ _ h=>h) (Or.inr ⟨by rfl,rfl⟩) ?_ ?_
    rotate_left
    · simp only [Act.put,List.setIfInBounds_toArray,List.set_cons_zero,List.set_cons_succ,i64_w,i32_w];rfl
    refine pure_ (i:=9) (N:=some 19) (v:=undef) (a':=?_) (zqb 25 1023) rfl rfl (any_of HT_.out (by kernel_rfl)) (fun _ _ _ h=>h) (Or.inr ⟨by rfl,rfl⟩) ?_ ?_
    rotate_left
    · simp only [Act.put,List.setIfInBounds_toArray,List.set_cons_zero,List.set_cons_succ,i64_w,i32_w];rfl
    refine pure_ (i:=10) (N:=some 20) (v:=undef) (a':=?_) (zqb 25 2047) rfl rfl (any_of HT_.out (by kernel_rfl)) (fun _ _ _ h=>h) (Or.inr ⟨by rfl,rfl⟩) ?_ ?_
    rotate_left
    · simp only [Act.put,List.setIfInBounds_toArray,List.set_cons_zero,List.set_cons_succ,i64_w,i32_w];rfl
    refine pure_ (i:=11) (N:=some 21) (v:=undef) (a':=?_) (zqb 25 4095) rfl rfl (any_of HT_.out (by kernel_rfl)) (fun _ _ _ h=>h) (Or.inr ⟨by rfl,rfl⟩) ?_ ?_
    rotate_left
    · simp only [Act.put,List.setIfInBounds_toArray,List.set_cons_zero,List.set_cons_succ,i64_w,i32_w];rfl
    refine pure_ (i:=12) (N:=some 22) (v:=undef) (a':=?_) (zqb 25 8191) rfl rfl (any_of HT_.out (by kernel_rfl)) (fun _ _ _ h=>h) (Or.inr ⟨by rfl,rfl⟩) ?_ ?_
    rotate_left
    · simp only [Act.put,List.setIfInBounds_toArray,List.set_cons_zero,List.set_cons_succ,i64_w,i32_w];rfl
    refine pure_ (i:=13) (N:=some 23) (v:=undef) (a':=?_) (zqb 25 16383) rfl rfl (any_of HT_.out (by kernel_rfl)) (fun _ _ _ h=>h) (Or.inr ⟨by rfl,rfl⟩) ?_ ?_
    rotate_left
    · simp only [Act.put,List.setIfInBounds_toArray,List.set_cons_zero,List.set_cons_succ,i64_w,i32_w];rfl
    refine pure_ (i:=14) (N:=some 24) (v:=undef) (a':=?_) (zqb 25 32767) rfl rfl (any_of HT_.out (by kernel_rfl)) (fun _ _ _ h=>h) (Or.inr ⟨by rfl,rfl⟩) ?_ ?_
    rotate_left
    · simp only [Act.put,List.setIfInBounds_toArray,List.set_cons_zero,List.set_cons_succ,i64_w,i32_w];rfl
    refine pure_ (i:=15) (N:=some 25) (v:=undef) (a':=?_) (zqb 25 65535) rfl rfl (any_of HT_.out (by kernel_rfl)) (fun _ _ _ h=>h) (Or.inr ⟨by rfl,rfl⟩) ?_ ?_
    rotate_left
    · simp only [Act.put,List.setIfInBounds_toArray,List.set_cons_zero,List.set_cons_succ,i64_w,i32_w];rfl
    refine pure_ (i:=16) (N:=some 26) (v:=undef) (a':=?_) (zqb 25 131071) rfl rfl (any_of HT_.out (by kernel_rfl)) (fun _ _ _ h=>h) (Or.inr ⟨by rfl,rfl⟩) ?_ ?_
    rotate_left
    · simp only [Act.put,List.setIfInBounds_toArray,List.set_cons_zero,List.set_cons_succ,i64_w,i32_w];rfl
    refine pure_ (i:=17) (N:=some 27) (v:=undef) (a':=?_) (zqb 25 262143) rfl rfl (any_of HT_.out (by kernel_rfl)) (fun _ _ _ h=>h) (Or.inr ⟨by rfl,rfl⟩) ?_ ?_
    rotate_left
    · simp only [Act.put,List.setIfInBounds_toArray,List.set_cons_zero,List.set_cons_succ,i64_w,i32_w];rfl
    refine pure_ (i:=18) (N:=some 28) (v:=undef) (a':=?_) (zqb 25 524287) rfl rfl (any_of HT_.out (by kernel_rfl)) (fun _ _ _ h=>h) (Or.inr ⟨by rfl,rfl⟩) ?_ ?_
    rotate_left
    · simp only [Act.put,List.setIfInBounds_toArray,List.set_cons_zero,List.set_cons_succ,i64_w,i32_w];rfl
    refine pure_ (i:=19) (N:=some 29) (v:=undef) (a':=?_) (zqb 25 1048575) rfl rfl (any_of HT_.out (by kernel_rfl)) (fun _ _ _ h=>h) (Or.inr ⟨by rfl,rfl⟩) ?_ ?_
    rotate_left
    · simp only [Act.put,List.setIfInBounds_toArray,List.set_cons_zero,List.set_cons_succ,i64_w,i32_w];rfl
    refine pure_ (i:=20) (N:=some 30) (v:=undef) (a':=?_) (zqb 25 2097151) rfl rfl (any_of HT_.out (by kernel_rfl)) (fun _ _ _ h=>h) (Or.inr ⟨by rfl,rfl⟩) ?_ ?_
    rotate_left
    · simp only [Act.put,List.setIfInBounds_toArray,List.set_cons_zero,List.set_cons_succ,i64_w,i32_w];rfl
    refine pure_ (i:=21) (N:=some 31) (v:=undef) (a':=?_) (zqb 25 4194303) rfl rfl (any_of HT_.out (by kernel_rfl)) (fun _ _ _ h=>h) (Or.inr ⟨by rfl,rfl⟩) ?_ ?_
    rotate_left
    · simp only [Act.put,List.setIfInBounds_toArray,List.set_cons_zero,List.set_cons_succ,i64_w,i32_w];rfl
    refine pure_ (i:=22) (N:=some 32) (v:=undef) (a':=?_) (zqb 25 8388607) rfl rfl (any_of HT_.out (by kernel_rfl)) (fun _ _ _ h=>h) (Or.inr ⟨by rfl,rfl⟩) ?_ ?_
    rotate_left
    · simp only [Act.put,List.setIfInBounds_toArray,List.set_cons_zero,List.set_cons_succ,i64_w,i32_w];rfl
    refine pure_ (i:=23) (N:=some 33) (v:=?_) (a':=?_) (zqb 25 16777215) rfl rfl (any_of HT_.out (by kernel_rfl)) (fun _ _ _ h=>h) (Or.inl ⟨by rfl,?_⟩) ?_ ?_
    rotate_left
    · intro w';go_simp;with_reducible rfl
    rotate_left
    · simp only [Act.put,List.setIfInBounds_toArray,List.set_cons_zero,List.set_cons_succ,i64_w,i32_w];rfl
    refine pure_ (i:=24) (N:=some 6) (v:=?_) (a':=?_) (zqb 25 33554431) rfl rfl (any_of HT_.out (by kernel_rfl)) (fun _ _ _ h=>h) (Or.inl ⟨by rfl,?_⟩) ?_ ?_
    rotate_left
    · intro w';go_simp;with_reducible rfl
    rotate_left
    · simp only [Act.put,List.setIfInBounds_toArray,List.set_cons_zero,List.set_cons_succ,i64_w,i32_w];rfl
    refine done_ (done_of HT_.out (by kernel_rfl)) ?_
    go_wp2
    go_ret
    exact⟨rfl,HB4.out⟩
  | true =>
    have HLB:=Aside0.mk hL
    have HLg:=Aside0.mk (logicB_iff.1 hL)
    cases hin: [a1,a2].all (inR l0_0.length) with
    | false =>
      rw [hL,hin] at h
      have hr_:false=r:=by simpa using h
      subst hr_
      have HIN:=Aside0.mk hin
      clear h hL hin
      go_enter Try.func28,Try.ntmps28
      go_wp2_with (first|((with_reducible refine gate_dst (N:=3) rfl ?_);refine box_event ?hg (N:=3) ?hd (cs:= #[.slice A0_0 l0_0.length c0_0,.slice A0_1 l0_1.length c0_1]) (t:=30) ?hr ?_;(case hd=>rfl);(case hg=>rfl);(case hr=>first|(go_simp;done)|(go_simp;rfl));intro gb hg_ w1 hbox hb;have HB:=Aside0.mk hb;have hx0:w1.cell? ⟨gb,0,none⟩=some (.slice A0_0 l0_0.length c0_0):=(blk_cell hbox 0).trans rfl;have hx1:w1.cell? ⟨gb,1,none⟩=some (.slice A0_1 l0_1.length c0_1):=(blk_cell hbox 1).trans rfl;have HX:=Aside0.mk hbox;clear hbox hb hg_)|(go_at_call 77;(with_reducible refine(told_y k _ _ l0_0 _ _ l0_1 _ ?s1 ?s2 ?s3 ?s4 HF.out HLB.out).mono ?_);(case s1=>exact Kd.C_below HR0.out HB.out);(case s2=>exact HC0.out);(case s3=>exact Kd.C_below HR1.out HB.out);(case s4=>exact HC1.out);rintro e w2 ⟨g,v,rfl,hv,hge,hb⟩;have HB2:=Aside0.mk (below_step HB.out hb);have HV:=Aside0.mk hv;clear hv hge hb hx0 hx1 HX HB))
      have HB3:=Aside0.mk (below_drew1 HB2.out)
      have HV3:=Aside0.mk (View.below HV.out (below_drew1 (Below.refl _ _)))
      refine start_ (n:=25) (S:=(fun _=>True)) (ds:= []) (zqb 25 0) (by kernel_rfl) rfl rfl True.intro (fun hHeld=>?_)
      refine with_tabW impl_ApartOk.tab2 impl_ApartOk.bits2 (fun HT_ HW_=>?_)
      generalize w2.drew=w3 at hHeld HB3 HV3 ⊢
      refine pure_ (i:=0) (N:=some 10) (v:=?_) (a':=?_) (zqb 25 1) rfl rfl (any_of HT_.out (by kernel_rfl)) (fun _ _ _ h=>h) (Or.inl ⟨by rfl,?_⟩) ?_ ?_
      rotate_left
      · intro w';go_simp;with_reducible rfl
      rotate_left
      · simp only [Act.put,List.setIfInBounds_toArray,List.set_cons_zero,List.set_cons_succ,i64_w,i32_w];rfl
      refine pure_ (i:=1) (N:=some 11) (v:=?_) (a':=?_) (zqb 25 3) rfl rfl (any_of HT_.out (by kernel_rfl)) (fun _ _ _ h=>h) (Or.inl ⟨by rfl,?_⟩) ?_ ?_
      rotate_left
      · intro w';go_simp;with_reducible rfl
      rotate_left
      · simp only [Act.put,List.setIfInBounds_toArray,List.set_cons_zero,List.set_cons_succ,i64_w,i32_w];rfl
      refine pure_ (i:=2) (N:=some 12) (v:=?_) (a':=?_) (zqb 25 7) rfl rfl (any_of HT_.out (by kernel_rfl)) (fun _ _ _ h=>h) (Or.inl ⟨by rfl,?_⟩) ?_ ?_
      rotate_left
      · intro w';go_simp;with_reducible rfl
      rotate_left
      · simp only [Act.put,List.setIfInBounds_toArray,List.set_cons_zero,List.set_cons_succ,i64_w,i32_w];rfl
      refine one_ (i:=3) (N:=some 13) (zqb 25 15) rfl rfl (one_of HT_.out (by kernel_rfl)) (by decide) (fun K hK=>?_)
      refine event_step (w1:=World.alloc w3 (.cells #[.int .i64 a1,.int .i64 a2] 3)) (v:= .slice (some ⟨w3.heap.size,0,none⟩) 2 2) (by rfl) ?hr1 ?_
      case hr1=>first|(go_simp;done)|(go_simp;rfl)
      refine hK.out _ _ True.intro (fun hHeld4=>?_)
      clear hK K
      refine norm_ (a':=?_) ?_ ?_
      rotate_left
      · show Act.put _ (some 13) _ = _
        simp only [Act.put,List.setIfInBounds_toArray,List.set_cons_zero,List.set_cons_succ,i64_w,i32_w]
        rfl
      refine one_ (i:=4) (N:=some 14) (zqb 25 31) rfl rfl (one_of HT_.out (by kernel_rfl)) (by decide) (fun K hK=>?_)
      refine goes_ Try.func78 (by kernel_rfl) rfl #[.pointer (some ⟨g,0,none⟩),.slice (some ⟨w3.heap.size,0,none⟩) 2 2] (by rfl) rfl rfl zq324 ?_
      refine(knows_calls g l0_0 l0_1 v _ HLg.out (View.alloc HV3.out _) _ _ [a1,a2] 2 rfl (lit_C _ _ [a1,a2] (by simp)) (by omega) false HIN.out).mono ?_
      rintro e w4 ⟨rfl,hb⟩
      refine⟨_,rfl,?_⟩
      have HB4:=Aside0.mk (below_step (below_alloc HB3.out _) hb)
      have HV4:=Aside0.mk (View.below (View.alloc HV3.out _) hb)
      refine hK.out _ _ True.intro (fun hHeld5=>?_)
      clear hK K hb
      refine norm_ (a':=?_) ?_ ?_
      rotate_left
      · show Act.put _ (some 14) _ = _
        simp only [Act.put,List.setIfInBounds_toArray,List.set_cons_zero,List.set_cons_succ,i64_w,i32_w]
        rfl
      refine pure_ (i:=5) (N:=some 15) (v:=?_) (a':=?_) (zqb 25 63) rfl rfl (any_of HT_.out (by kernel_rfl)) (fun _ _ _ h=>h) (Or.inl ⟨by rfl,?_⟩) ?_ ?_
      rotate_left
      · intro w';go_simp;with_reducible rfl
      rotate_left
      · simp only [Act.put,List.setIfInBounds_toArray,List.set_cons_zero,List.set_cons_succ,i64_w,i32_w];rfl
      refine pure_ (i:=6) (N:=some 16) (v:=undef) (a':=?_) (zqb 25 127) rfl rfl (any_of HT_.out (by kernel_rfl)) (fun _ _ _ h=>h) (Or.inr ⟨by rfl,rfl⟩) ?_ ?_
      rotate_left
      · simp only [Act.put,List.setIfInBounds_toArray,List.set_cons_zero,List.set_cons_succ,i64_w,i32_w];rfl
      refine pure_ (i:=7) (N:=some 17) (v:=undef) (a':=?_) (zqb 25 255) rfl rfl (any_of HT_.out (by kernel_rfl)) (fun _ _ _ h=>h) (Or.inr ⟨by rfl,rfl⟩) ?_ ?_
      rotate_left
      · simp only [Act.put,List.setIfInBounds_toArray,List.set_cons_zero,List.set_cons_succ,i64_w,i32_w];rfl
      refine pure_ (i:=8) (N:=some 18) (v:=undef) (a':=?_) (zqb 25 511) rfl rfl (any_of HT_.out (by kernel_rfl)) (fun _ _ _ h=>h) (Or.inr ⟨by rfl,rfl⟩) ?_ ?_
      rotate_left
      · simp only [Act.put,List.setIfInBounds_toArray,List.set_cons_zero,List.set_cons_succ,i64_w,i32_w];rfl
      refine pure_ (i:=9) (N:=some 19) (v:=undef) (a':=?_) (zqb 25 1023) rfl rfl (any_of HT_.out (by kernel_rfl)) (fun _ _ _ h=>h) (Or.inr ⟨by rfl,rfl⟩) ?_ ?_
      rotate_left
      · simp only [Act.put,List.setIfInBounds_toArray,List.set_cons_zero,List.set_cons_succ,i64_w,i32_w];rfl
      refine pure_ (i:=10) (N:=some 20) (v:=undef) (a':=?_) (zqb 25 2047) rfl rfl (any_of HT_.out (by kernel_rfl)) (fun _ _ _ h=>h) (Or.inr ⟨by rfl,rfl⟩) ?_ ?_
      rotate_left
      · simp only [Act.put,List.setIfInBounds_toArray,List.set_cons_zero,List.set_cons_succ,i64_w,i32_w];rfl
      refine pure_ (i:=11) (N:=some 21) (v:=undef) (a':=?_) (zqb 25 4095) rfl rfl (any_of HT_.out (by kernel_rfl)) (fun _ _ _ h=>h) (Or.inr ⟨by rfl,rfl⟩) ?_ ?_
      rotate_left
      · simp only [Act.put,List.setIfInBounds_toArray,List.set_cons_zero,List.set_cons_succ,i64_w,i32_w];rfl
      refine pure_ (i:=12) (N:=some 22) (v:=undef) (a':=?_) (zqb 25 8191) rfl rfl (any_of HT_.out (by kernel_rfl)) (fun _ _ _ h=>h) (Or.inr ⟨by rfl,rfl⟩) ?_ ?_
      rotate_left
      · simp only [Act.put,List.setIfInBounds_toArray,List.set_cons_zero,List.set_cons_succ,i64_w,i32_w];rfl
      refine pure_ (i:=13) (N:=some 23) (v:=undef) (a':=?_) (zqb 25 16383) rfl rfl (any_of HT_.out (by kernel_rfl)) (fun _ _ _ h=>h) (Or.inr ⟨by rfl,rfl⟩) ?_ ?_
      rotate_left
      · simp only [Act.put,List.setIfInBounds_toArray,List.set_cons_zero,List.set_cons_succ,i64_w,i32_w];rfl
      refine pure_ (i:=14) (N:=some 24) (v:=undef) (a':=?_) (zqb 25 32767) rfl rfl (any_of HT_.out (by kernel_rfl)) (fun _ _ _ h=>h) (Or.inr ⟨by rfl,rfl⟩) ?_ ?_
      rotate_left
      · simp only [Act.put,List.setIfInBounds_toArray,List.set_cons_zero,List.set_cons_succ,i64_w,i32_w];rfl
      refine pure_ (i:=15) (N:=some 25) (v:=undef) (a':=?_) (zqb 25 65535) rfl rfl (any_of HT_.out (by kernel_rfl)) (fun _ _ _ h=>h) (Or.inr ⟨by rfl,rfl⟩) ?_ ?_
      rotate_left
      · simp only [Act.put,List.setIfInBounds_toArray,List.set_cons_zero,List.set_cons_succ,i64_w,i32_w];rfl
      refine pure_ (i:=16) (N:=some 26) (v:=undef) (a':=?_) (zqb 25 131071) rfl rfl (any_of HT_.out (by kernel_rfl)) (fun _ _ _ h=>h) (Or.inr ⟨by rfl,rfl⟩) ?_ ?_
      rotate_left
      · simp only [Act.put,List.setIfInBounds_toArray,List.set_cons_zero,List.set_cons_succ,i64_w,i32_w];rfl
      refine pure_ (i:=17) (N:=some 27) (v:=undef) (a':=?_) (zqb 25 262143) rfl rfl (any_of HT_.out (by kernel_rfl)) (fun _ _ _ h=>h) (Or.inr ⟨by rfl,rfl⟩) ?_ ?_
      rotate_left
      · simp only [Act.put,List.setIfInBounds_toArray,List.set_cons_zero,List.set_cons_succ,i64_w,i32_w];rfl
      refine pure_ (i:=18) (N:=some 28) (v:=undef) (a':=?_) (zqb 25 524287) rfl rfl (any_of HT_.out (by kernel_rfl)) (fun _ _ _ h=>h) (Or.inr ⟨by rfl,rfl⟩) ?_ ?_
      rotate_left
      · simp only [Act.put,List.setIfInBounds_toArray,List.set_cons_zero,List.set_cons_succ,i64_w,i32_w];rfl
      refine pure_ (i:=19) (N:=some 29) (v:=undef) (a':=?_) (zqb 25 1048575) rfl rfl (any_of HT_.out (by kernel_rfl)) (fun _ _ _ h=>h) (Or.inr ⟨by rfl,rfl⟩) ?_ ?_
      rotate_left
      · simp only [Act.put,List.setIfInBounds_toArray,List.set_cons_zero,List.set_cons_succ,i64_w,i32_w];rfl
      refine pure_ (i:=20) (N:=some 30) (v:=undef) (a':=?_) (zqb 25 2097151) rfl rfl (any_of HT_.out (by kernel_rfl)) (fun _ _ _ h=>h) (Or.inr ⟨by rfl,rfl⟩) ?_ ?_
      rotate_left
      · simp only [Act.put,List.setIfInBounds_toArray,List.set_cons_zero,List.set_cons_succ,i64_w,i32_w];rfl
      refine pure_ (i:=21) (N:=some 31) (v:=undef) (a':=?_) (zqb 25 4194303) rfl rfl (any_of HT_.out (by kernel_rfl)) (fun _ _ _ h=>h) (Or.inr ⟨by rfl,rfl⟩) ?_ ?_
      rotate_left
      · simp only [Act.put,List.setIfInBounds_toArray,List.set_cons_zero,List.set_cons_succ,i64_w,i32_w];rfl
      refine pure_ (i:=22) (N:=some 32) (v:=undef) (a':=?_) (zqb 25 8388607) rfl rfl (any_of HT_.out (by kernel_rfl)) (fun _ _ _ h=>h) (Or.inr ⟨by rfl,rfl⟩) ?_ ?_
      rotate_left
      · simp only [Act.put,List.setIfInBounds_toArray,List.set_cons_zero,List.set_cons_succ,i64_w,i32_w];rfl
      refine pure_ (i:=23) (N:=some 33) (v:=?_) (a':=?_) (zqb 25 16777215) rfl rfl (any_of HT_.out (by kernel_rfl)) (fun _ _ _ h=>h) (Or.inl ⟨by rfl,?_⟩) ?_ ?_
      rotate_left
      · intro w';go_simp;with_reducible rfl
      rotate_left
      · simp only [Act.put,List.setIfInBounds_toArray,List.set_cons_zero,List.set_cons_succ,i64_w,i32_w];rfl
      refine pure_ (i:=24) (N:=some 6) (v:=?_) (a':=?_) (zqb 25 33554431) rfl rfl (any_of HT_.out (by kernel_rfl)) (fun _ _ _ h=>h) (Or.inl ⟨by rfl,?_⟩) ?_ ?_
      rotate_left
      · intro w';go_simp;with_reducible rfl
      rotate_left
      · simp only [Act.put,List.setIfInBounds_toArray,List.set_cons_zero,List.set_cons_succ,i64_w,i32_w];rfl
      refine done_ (done_of HT_.out (by kernel_rfl)) ?_
      go_wp2
      go_ret
      exact⟨rfl,HB4.out⟩
    | true =>
      rw [hL,hin] at h
      have hr_:(at2 l0_0 a1.toNat (notI l0_1 a2).toNat==1)=r:=by simpa using h
      subst hr_
      have HIN:=Aside0.mk hin
      have hin2:=hin
      simp only [List.all_cons,List.all_nil,Bool.and_true,Bool.and_eq_true,inR_iff] at hin2
      have Ia1:=Aside0.mk hin2.1
      have Ia2:=Aside0.mk hin2.2
      clear h hL hin hin2
      have b0_:=eq_true Ia2.out.1;have c0_:=eq_true Ia2.out.2
      have b3_:=eq_true Ia1.out.1;have c3_:=eq_true Ia1.out.2
      have IN1_:=Aside0.mk (HLg.out.in_not Ia2.out)
      have b4_:=eq_true IN1_.out.1;have c4_:=eq_true IN1_.out.2
      go_enter Try.func28,Try.ntmps28
      go_wp2_with (first|((with_reducible refine gate_dst (N:=3) rfl ?_);refine box_event ?hg (N:=3) ?hd (cs:= #[.slice A0_0 l0_0.length c0_0,.slice A0_1 l0_1.length c0_1]) (t:=30) ?hr ?_;(case hd=>rfl);(case hg=>rfl);(case hr=>first|(go_simp;done)|(go_simp;rfl));intro gb hg_ w1 hbox hb;have HB:=Aside0.mk hb;have hx0:w1.cell? ⟨gb,0,none⟩=some (.slice A0_0 l0_0.length c0_0):=(blk_cell hbox 0).trans rfl;have hx1:w1.cell? ⟨gb,1,none⟩=some (.slice A0_1 l0_1.length c0_1):=(blk_cell hbox 1).trans rfl;have HX:=Aside0.mk hbox;clear hbox hb hg_)|(go_at_call 77;(with_reducible refine(told_y k _ _ l0_0 _ _ l0_1 _ ?s1 ?s2 ?s3 ?s4 HF.out HLB.out).mono ?_);(case s1=>exact Kd.C_below HR0.out HB.out);(case s2=>exact HC0.out);(case s3=>exact Kd.C_below HR1.out HB.out);(case s4=>exact HC1.out);rintro e w2 ⟨g,v,rfl,hv,hge,hb⟩;have HB2:=Aside0.mk (below_step HB.out hb);have HV:=Aside0.mk hv;clear hv hge hb hx0 hx1 HX HB))
      have HB3:=Aside0.mk (below_drew1 HB2.out)
      have HV3:=Aside0.mk (View.below HV.out (below_drew1 (Below.refl _ _)))
      refine start_ (n:=25) (S:=(fun w'=>w'.cell? ⟨g,0,none⟩=some (.slice (some v.aU) l0_0.length v.cU)∧w'.cell? (v.aU.add a1.toNat)=some (.slice (some (v.rU a1.toNat)) l0_0.length (v.qU a1.toNat))∧w'.cell? ⟨g,3,none⟩=some (.slice (some v.aN) l0_0.length v.cN)∧w'.cell? (v.aN.add a2.toNat)=some (.int .i64 (notI l0_1 a2))∧w'.cell? ((v.rU a1.toNat).add (notI l0_1 a2).toNat)=some (.int .i64 (at2 l0_0 a1.toNat (notI l0_1 a2).toNat)))) (ds:= []) (zqb 25 0) (by kernel_rfl) rfl rfl ⟨HV3.out.f0,HV3.out.u a1 Ia1.out,HV3.out.f3,HV3.out.n a2 Ia2.out,HV3.out.u2 a1 (notI l0_1 a2) Ia1.out (HLg.out.in_not Ia2.out)⟩ (fun hHeld=>?_)
      refine with_tabW impl_ApartOk.tab2 impl_ApartOk.bits2 (fun HT_ HW_=>?_)
      generalize w2.drew=w3 at hHeld HB3 HV3 ⊢
      refine pure_ (i:=0) (N:=some 10) (v:=?_) (a':=?_) (zqb 25 1) rfl rfl (any_of HT_.out (by kernel_rfl)) (fun _ _ _ h=>h) (Or.inl ⟨by rfl,?_⟩) ?_ ?_
      rotate_left
      · intro w';go_simp;with_reducible rfl
      rotate_left
      · simp only [Act.put,List.setIfInBounds_toArray,List.set_cons_zero,List.set_cons_succ,i64_w,i32_w];rfl
      refine pure_ (i:=1) (N:=some 11) (v:=?_) (a':=?_) (zqb 25 3) rfl rfl (any_of HT_.out (by kernel_rfl)) (fun _ _ _ h=>h) (Or.inl ⟨by rfl,?_⟩) ?_ ?_
      rotate_left
      · intro w';go_simp;with_reducible rfl
      rotate_left
      · simp only [Act.put,List.setIfInBounds_toArray,List.set_cons_zero,List.set_cons_succ,i64_w,i32_w];rfl
      refine pure_ (i:=2) (N:=some 12) (v:=?_) (a':=?_) (zqb 25 7) rfl rfl (any_of HT_.out (by kernel_rfl)) (fun _ _ _ h=>h) (Or.inl ⟨by rfl,?_⟩) ?_ ?_
      rotate_left
      · intro w';go_simp;with_reducible rfl
      rotate_left
      · simp only [Act.put,List.setIfInBounds_toArray,List.set_cons_zero,List.set_cons_succ,i64_w,i32_w];rfl
      refine one_ (i:=3) (N:=some 13) (zqb 25 15) rfl rfl (one_of HT_.out (by kernel_rfl)) (by decide) (fun K hK=>?_)
      refine event_step (w1:=World.alloc w3 (.cells #[.int .i64 a1,.int .i64 a2] 3)) (v:= .slice (some ⟨w3.heap.size,0,none⟩) 2 2) (by rfl) ?hr1 ?_
      case hr1=>first|(go_simp;done)|(go_simp;rfl)
      refine hK.out _ _ ⟨(View.alloc HV3.out _).f0,(View.alloc HV3.out _).u a1 Ia1.out,(View.alloc HV3.out _).f3,(View.alloc HV3.out _).n a2 Ia2.out,(View.alloc HV3.out _).u2 a1 (notI l0_1 a2) Ia1.out (HLg.out.in_not Ia2.out)⟩ (fun hHeld4=>?_)
      clear hK K
      refine norm_ (a':=?_) ?_ ?_
      rotate_left
      · show Act.put _ (some 13) _ = _
        simp only [Act.put,List.setIfInBounds_toArray,List.set_cons_zero,List.set_cons_succ,i64_w,i32_w]
        rfl
      refine one_ (i:=4) (N:=some 14) (zqb 25 31) rfl rfl (one_of HT_.out (by kernel_rfl)) (by decide) (fun K hK=>?_)
      refine goes_ Try.func78 (by kernel_rfl) rfl #[.pointer (some ⟨g,0,none⟩),.slice (some ⟨w3.heap.size,0,none⟩) 2 2] (by rfl) rfl rfl zq324 ?_
      refine(knows_calls g l0_0 l0_1 v _ HLg.out (View.alloc HV3.out _) _ _ [a1,a2] 2 rfl (lit_C _ _ [a1,a2] (by simp)) (by omega) true HIN.out).mono ?_
      rintro e w4 ⟨rfl,hb⟩
      refine⟨_,rfl,?_⟩
      have HB4:=Aside0.mk (below_step (below_alloc HB3.out _) hb)
      have HV4:=Aside0.mk (View.below (View.alloc HV3.out _) hb)
      refine hK.out _ _ ⟨HV4.out.f0,HV4.out.u a1 Ia1.out,HV4.out.f3,HV4.out.n a2 Ia2.out,HV4.out.u2 a1 (notI l0_1 a2) Ia1.out (HLg.out.in_not Ia2.out)⟩ (fun hHeld5=>?_)
      clear hK K hb
      refine norm_ (a':=?_) ?_ ?_
      rotate_left
      · show Act.put _ (some 14) _ = _
        simp only [Act.put,List.setIfInBounds_toArray,List.set_cons_zero,List.set_cons_succ,i64_w,i32_w]
        rfl
      refine pure_ (i:=5) (N:=some 15) (v:=?_) (a':=?_) (zqb 25 63) rfl rfl (any_of HT_.out (by kernel_rfl)) (fun _ _ _ h=>h) (Or.inl ⟨by rfl,?_⟩) ?_ ?_
      rotate_left
      · intro w';go_simp;with_reducible rfl
      rotate_left
      · simp only [Act.put,List.setIfInBounds_toArray,List.set_cons_zero,List.set_cons_succ,i64_w,i32_w];rfl
      refine pure_ (i:=6) (N:=some 16) (v:=?_) (a':=?_) (zqb 25 127) rfl rfl (any_of HT_.out (by kernel_rfl)) (fun _ _ _ h=>h) (Or.inl ⟨by rfl,?_⟩) ?_ ?_
      rotate_left
      · intro w';go_simp;with_reducible rfl
      rotate_left
      · simp only [Act.put,List.setIfInBounds_toArray,List.set_cons_zero,List.set_cons_succ,i64_w,i32_w];rfl
      refine pure_ (i:=7) (N:=some 17) (v:=?_) (a':=?_) (zqb 25 255) rfl rfl (any_of HT_.out (by kernel_rfl)) (fun _ _ _ h=>h) (Or.inl ⟨by rfl,?_⟩) ?_ ?_
      rotate_left
      · intro w';go_simp;with_reducible rfl
      rotate_left
      · simp only [Act.put,List.setIfInBounds_toArray,List.set_cons_zero,List.set_cons_succ,i64_w,i32_w];rfl
      refine pure_ (i:=8) (N:=some 18) (v:=?_) (a':=?_) (zqb 25 511) rfl rfl (any_of HT_.out (by kernel_rfl)) (fun _ _ _ h=>h) (Or.inl ⟨by rfl,?_⟩) ?_ ?_
      rotate_left
      · intro w';go_simp;with_reducible rfl
      rotate_left
      · simp only [Act.put,List.setIfInBounds_toArray,List.set_cons_zero,List.set_cons_succ,i64_w,i32_w];rfl
      refine take_ (i:=9) (N:=some 19) (v:=?_) (a':=?_) (zqb 25 1023) rfl rfl (take_ofW HT_.out HW_.out (by kernel_rfl)) (fun _ _ _ h=>h) (Or.inl ⟨by rfl,?_⟩) hHeld5 ?_ ?_
      rotate_left
      · rintro w' ⟨t0,t1,t2,t3,t4⟩;go_simp;with_reducible rfl
      rotate_left
      · simp only [Act.put,List.setIfInBounds_toArray,List.set_cons_zero,List.set_cons_succ,i64_w,i32_w];rfl
      refine pure_ (i:=10) (N:=some 20) (v:=?_) (a':=?_) (zqb 25 2047) rfl rfl (any_of HT_.out (by kernel_rfl)) (fun _ _ _ h=>h) (Or.inl ⟨by rfl,?_⟩) ?_ ?_
      rotate_left
      · intro w';go_simp;with_reducible rfl
      rotate_left
      · simp only [Act.put,List.setIfInBounds_toArray,List.set_cons_zero,List.set_cons_succ,i64_w,i32_w];rfl
      refine pure_ (i:=11) (N:=some 21) (v:=?_) (a':=?_) (zqb 25 4095) rfl rfl (any_of HT_.out (by kernel_rfl)) (fun _ _ _ h=>h) (Or.inl ⟨by rfl,?_⟩) ?_ ?_
      rotate_left
      · intro w';go_simp;with_reducible rfl
      rotate_left
      · simp only [Act.put,List.setIfInBounds_toArray,List.set_cons_zero,List.set_cons_succ,i64_w,i32_w];rfl
      refine take_ (i:=12) (N:=some 22) (v:=?_) (a':=?_) (zqb 25 8191) rfl rfl (take_ofW HT_.out HW_.out (by kernel_rfl)) (fun _ _ _ h=>h) (Or.inl ⟨by rfl,?_⟩) hHeld5 ?_ ?_
      rotate_left
      · rintro w' ⟨t0,t1,t2,t3,t4⟩;go_simp;with_reducible rfl
      rotate_left
      · simp only [Act.put,List.setIfInBounds_toArray,List.set_cons_zero,List.set_cons_succ,i64_w,i32_w];rfl
      refine pure_ (i:=13) (N:=some 23) (v:=?_) (a':=?_) (zqb 25 16383) rfl rfl (any_of HT_.out (by kernel_rfl)) (fun _ _ _ h=>h) (Or.inl ⟨by rfl,?_⟩) ?_ ?_
      rotate_left
      · intro w';go_simp;with_reducible rfl
      rotate_left
      · simp only [Act.put,List.setIfInBounds_toArray,List.set_cons_zero,List.set_cons_succ,i64_w,i32_w];rfl
      refine pure_ (i:=14) (N:=some 24) (v:=?_) (a':=?_) (zqb 25 32767) rfl rfl (any_of HT_.out (by kernel_rfl)) (fun _ _ _ h=>h) (Or.inl ⟨by rfl,?_⟩) ?_ ?_
      rotate_left
      · intro w';go_simp;with_reducible rfl
      rotate_left
      · simp only [Act.put,List.setIfInBounds_toArray,List.set_cons_zero,List.set_cons_succ,i64_w,i32_w];rfl
      refine pure_ (i:=15) (N:=some 25) (v:=?_) (a':=?_) (zqb 25 65535) rfl rfl (any_of HT_.out (by kernel_rfl)) (fun _ _ _ h=>h) (Or.inl ⟨by rfl,?_⟩) ?_ ?_
      rotate_left
      · intro w';go_simp;with_reducible rfl
      rotate_left
      · simp only [Act.put,List.setIfInBounds_toArray,List.set_cons_zero,List.set_cons_succ,i64_w,i32_w];rfl
      refine take_ (i:=16) (N:=some 26) (v:=?_) (a':=?_) (zqb 25 131071) rfl rfl (take_ofW HT_.out HW_.out (by kernel_rfl)) (fun _ _ _ h=>h) (Or.inl ⟨by rfl,?_⟩) hHeld5 ?_ ?_
      rotate_left
      · rintro w' ⟨t0,t1,t2,t3,t4⟩;go_simp;with_reducible rfl
      rotate_left
      · simp only [Act.put,List.setIfInBounds_toArray,List.set_cons_zero,List.set_cons_succ,i64_w,i32_w];rfl
      refine pure_ (i:=17) (N:=some 27) (v:=?_) (a':=?_) (zqb 25 262143) rfl rfl (any_of HT_.out (by kernel_rfl)) (fun _ _ _ h=>h) (Or.inl ⟨by rfl,?_⟩) ?_ ?_
      rotate_left
      · intro w';go_simp;with_reducible rfl
      rotate_left
      · simp only [Act.put,List.setIfInBounds_toArray,List.set_cons_zero,List.set_cons_succ,i64_w,i32_w];rfl
      refine pure_ (i:=18) (N:=some 28) (v:=?_) (a':=?_) (zqb 25 524287) rfl rfl (any_of HT_.out (by kernel_rfl)) (fun _ _ _ h=>h) (Or.inl ⟨by rfl,?_⟩) ?_ ?_
      rotate_left
      · intro w';go_simp;with_reducible rfl
      rotate_left
      · simp only [Act.put,List.setIfInBounds_toArray,List.set_cons_zero,List.set_cons_succ,i64_w,i32_w];rfl
      refine take_ (i:=19) (N:=some 29) (v:=?_) (a':=?_) (zqb 25 1048575) rfl rfl (take_ofW HT_.out HW_.out (by kernel_rfl)) (fun _ _ _ h=>h) (Or.inl ⟨by rfl,?_⟩) hHeld5 ?_ ?_
      rotate_left
      · rintro w' ⟨t0,t1,t2,t3,t4⟩;go_simp;with_reducible rfl
      rotate_left
      · simp only [Act.put,List.setIfInBounds_toArray,List.set_cons_zero,List.set_cons_succ,i64_w,i32_w];rfl
      refine pure_ (i:=20) (N:=some 30) (v:=?_) (a':=?_) (zqb 25 2097151) rfl rfl (any_of HT_.out (by kernel_rfl)) (fun _ _ _ h=>h) (Or.inl ⟨by rfl,?_⟩) ?_ ?_
      rotate_left
      · intro w';go_simp;with_reducible rfl
      rotate_left
      · simp only [Act.put,List.setIfInBounds_toArray,List.set_cons_zero,List.set_cons_succ,i64_w,i32_w];rfl
      refine take_ (i:=21) (N:=some 31) (v:=?_) (a':=?_) (zqb 25 4194303) rfl rfl (take_ofW HT_.out HW_.out (by kernel_rfl)) (fun _ _ _ h=>h) (Or.inl ⟨by rfl,?_⟩) hHeld5 ?_ ?_
      rotate_left
      · rintro w' ⟨t0,t1,t2,t3,t4⟩;go_simp;with_reducible rfl
      rotate_left
      · simp only [Act.put,List.setIfInBounds_toArray,List.set_cons_zero,List.set_cons_succ,i64_w,i32_w];rfl
      refine pure_ (i:=22) (N:=some 32) (v:=?_) (a':=?_) (zqb 25 8388607) rfl rfl (any_of HT_.out (by kernel_rfl)) (fun _ _ _ h=>h) (Or.inl ⟨by rfl,?_⟩) ?_ ?_
      rotate_left
      · intro w';go_simp;with_reducible rfl
      rotate_left
      · simp only [Act.put,List.setIfInBounds_toArray,List.set_cons_zero,List.set_cons_succ,i64_w,i32_w];rfl
      refine pure_ (i:=23) (N:=some 33) (v:=?_) (a':=?_) (zqb 25 16777215) rfl rfl (any_of HT_.out (by kernel_rfl)) (fun _ _ _ h=>h) (Or.inl ⟨by rfl,?_⟩) ?_ ?_
      rotate_left
      · intro w';go_simp;with_reducible rfl
      rotate_left
      · simp only [Act.put,List.setIfInBounds_toArray,List.set_cons_zero,List.set_cons_succ,i64_w,i32_w];rfl
      refine pure_ (i:=24) (N:=some 6) (v:=?_) (a':=?_) (zqb 25 33554431) rfl rfl (any_of HT_.out (by kernel_rfl)) (fun _ _ _ h=>h) (Or.inl ⟨by rfl,?_⟩) ?_ ?_
      rotate_left
      · intro w';go_simp;with_reducible rfl
      rotate_left
      · simp only [Act.put,List.setIfInBounds_toArray,List.set_cons_zero,List.set_cons_succ,i64_w,i32_w];rfl
      refine done_ (done_of HT_.out (by kernel_rfl)) ?_
      go_wp2
      go_ret
      exact⟨rfl,HB4.out⟩
def impl_NoOf.f (l0_0 : List (List Int)) (l0_1 : List Int) : Option (Int) := some (if logicB l0_0 l0_1 = true then (noI l0_0) else (-1))
set_option maxHeartbeats 1000000 in
theorem impl_NoOf.calls (A0_0 : Option Addr) (c0_0 : Nat) (l0_0 : List (List Int)) (A0_1 : Option Addr) (c0_1 : Nat) (l0_1 : List Int) (r : Int) (w : World) (hr0_0 : Kd.C (Kd.slice 3 (Kd.int .i64)) w A0_0 l0_0.length l0_0) (hc0_0 : l0_0.length ≤ c0_0) (hr0_1 : Kd.C (Kd.int .i64) w A0_1 l0_1.length l0_1) (hc0_1 : l0_1.length ≤ c0_1) (h : impl_NoOf.f l0_0 l0_1 = some r) :
    Calls Try.prog 47 #[.agg #[.slice A0_0 l0_0.length c0_0,.slice A0_1 l0_1.length c0_1]] w fun e w'=>e= .returned (.int .i64 r)∧Below w.heap.size w w':=by
  obtain⟨k,hF⟩:=told_facts l0_0
  have hu30:=Try.underlying30
  have hu70:=Try.underlying70
  have HF:=Aside0.mk hF
  have HR0:=Aside0.mk hr0_0
  have HC0:=Aside0.mk hc0_0
  have HR1:=Aside0.mk hr0_1
  have HC1:=Aside0.mk hc0_1
  simp only [impl_NoOf.f,Option.some.injEq] at h
  clear hr0_0 hc0_0 hr0_1 hc0_1 hF
  cases hL:logicB l0_0 l0_1 with
  | false =>
    rw [hL] at h
    have hr_:(-1)=r:=by simpa using h
    subst hr_
    have HLB:=Aside0.mk hL
    clear h hL
    go_enter Try.func47,Try.ntmps47
    go_wp2_with (first|((with_reducible refine gate_dst (N:=1) rfl ?_);refine box_event ?hg (N:=1) ?hd (cs:= #[.slice A0_0 l0_0.length c0_0,.slice A0_1 l0_1.length c0_1]) (t:=30) ?hr ?_;(case hd=>rfl);(case hg=>rfl);(case hr=>first|(go_simp;done)|(go_simp;rfl));intro gb hg_ w1 hbox hb;have HB:=Aside0.mk hb;have hx0:w1.cell? ⟨gb,0,none⟩=some (.slice A0_0 l0_0.length c0_0):=(blk_cell hbox 0).trans rfl;have hx1:w1.cell? ⟨gb,1,none⟩=some (.slice A0_1 l0_1.length c0_1):=(blk_cell hbox 1).trans rfl;have HX:=Aside0.mk hbox;clear hbox hb hg_)|(go_at_call 77;(with_reducible refine(told_n k _ _ l0_0 _ _ l0_1 _ ?s1 ?s2 ?s3 ?s4 HF.out HLB.out).mono ?_);(case s1=>exact Kd.C_below HR0.out HB.out);(case s2=>exact HC0.out);(case s3=>exact Kd.C_below HR1.out HB.out);(case s4=>exact HC1.out);rintro e w2 ⟨rfl,hb⟩;have HB2:=Aside0.mk (below_step HB.out hb);clear hb hx0 hx1 HX HB))
    go_ret
    exact⟨rfl,HB2.out⟩
  | true =>
    rw [hL] at h
    have hr_:(noI l0_0)=r:=by simpa using h
    subst hr_
    have HLB:=Aside0.mk hL
    have HLg:=Aside0.mk (logicB_iff.1 hL)
    clear h hL
    go_enter Try.func47,Try.ntmps47
    go_wp2_with (first|((with_reducible refine gate_dst (N:=1) rfl ?_);refine box_event ?hg (N:=1) ?hd (cs:= #[.slice A0_0 l0_0.length c0_0,.slice A0_1 l0_1.length c0_1]) (t:=30) ?hr ?_;(case hd=>rfl);(case hg=>rfl);(case hr=>first|(go_simp;done)|(go_simp;rfl));intro gb hg_ w1 hbox hb;have HB:=Aside0.mk hb;have hx0:w1.cell? ⟨gb,0,none⟩=some (.slice A0_0 l0_0.length c0_0):=(blk_cell hbox 0).trans rfl;have hx1:w1.cell? ⟨gb,1,none⟩=some (.slice A0_1 l0_1.length c0_1):=(blk_cell hbox 1).trans rfl;have HX:=Aside0.mk hbox;clear hbox hb hg_)|(go_at_call 77;(with_reducible refine(told_y k _ _ l0_0 _ _ l0_1 _ ?s1 ?s2 ?s3 ?s4 HF.out HLB.out).mono ?_);(case s1=>exact Kd.C_below HR0.out HB.out);(case s2=>exact HC0.out);(case s3=>exact Kd.C_below HR1.out HB.out);(case s4=>exact HC1.out);rintro e w2 ⟨g,v,rfl,hv,hge,hb⟩;have HB2:=Aside0.mk (below_step HB.out hb);have HV:=Aside0.mk hv;clear hv hge hb hx0 hx1 HX HB;have hf_:=HV.out.f4))
    go_ret
    exact⟨rfl,HB2.out⟩
end Go.Proofs.Ytdoomkcgdcfmlaa.Print
end
section
namespace Go.Proofs.Ytdoomkcgdcfmlaa.Print
open Go.RowKit Go.Proofs.YtdoomkcgdcfmlaaW.PrintWords Go.Proofs.YtdoomkcgdcfmlaaW.PrintLast Go.Proofs.YtdoomkcgdcfmlaaW.PrintMore
mutual
def spec_KeepsOk.l0 : Nat → Int → List (List Int) → List Int → Option (Bool)
 | 0, _, _, _ => none
 | k + 1, x3, x610000, x610001 => if x3 < (x610001.length : Int) then ((spec_LogicOk.f k x610000 x610001).bind fun t610 => (spec_KeepsOk.j1 k x3 t610 x610000 x610001)) else (spec_KeepsOk.j1 k x3 false x610000 x610001)
def spec_KeepsOk.j1 : Nat → Int → Bool → List (List Int) → List Int → Option (Bool)
 | 0, _, _, _, _ => none
 | k + 1, x3, x13, x610000, x610001 => if x13 = true then (spec_KeepsOk.l1 k x3 0 x610000 x610001) else ((spec_LogicOk.f k x610000 x610001).bind fun t611 => (some t611))
def spec_KeepsOk.l1 : Nat → Int → Int → List (List Int) → List Int → Option (Bool)
 | 0, _, _, _, _ => none
 | k + 1, x3, x4, x610000, x610001 => if x4 < (x610001.length : Int) then (if 0 ≤ x3 then (if x3 < (x610000.length : Int) then (if 0 ≤ x4 then (if x4 < ((rd_L3 x610000 x3).length : Int) then (if (rd (rd_L3 x610000 x3) x4) = 1 then (if x3 < (x610001.length : Int) then ((spec_l1Meet.f k x610000 x4 (rd x610001 x3)).bind fun t615 => ((spec_l1Join.f k x610000 x3 t615).bind fun t616 => (if t616 = x4 then (spec_KeepsOk.l1 k x3 (wrap64 (x4 + 1)) x610000 x610001) else (some false)))) else (none)) else (spec_KeepsOk.l1 k x3 (wrap64 (x4 + 1)) x610000 x610001)) else (none)) else (none)) else (none)) else (none)) else (spec_KeepsOk.l0 k (wrap64 (x3 + 1)) x610000 x610001)
end
def spec_KeepsOk.f (k : Nat) (l0_0 : List (List Int)) (l0_1 : List Int) : Option (Bool) := spec_KeepsOk.l0 k 0 l0_0 l0_1
set_option maxHeartbeats 8000000 in
set_option maxRecDepth 100000 in
theorem spec_KeepsOk.calls (k : Nat) (A0_0 : Option Addr) (c0_0 : Nat) (l0_0 : List (List Int)) (A0_1 : Option Addr) (c0_1 : Nat) (l0_1 : List Int) (r : Bool) (w : World) (hr0_0 : Kd.C (Kd.slice 3 (Kd.int .i64)) w A0_0 l0_0.length l0_0) (hc0_0 : l0_0.length ≤ c0_0) (hr0_1 : Kd.C (Kd.int .i64) w A0_1 l0_1.length l0_1) (hc0_1 : l0_1.length ≤ c0_1) (h : spec_KeepsOk.f k l0_0 l0_1 = some r) :
  Calls Try.prog 22 #[.agg #[.slice A0_0 l0_0.length c0_0, .slice A0_1 l0_1.length c0_1]] w fun e w' => e = .returned (.bool r) ∧ Below w.heap.size w w' := by
 have hu30:=Try.underlying30;have a5:=zqm hr0_0;have a6:=zqm hc0_0;clear hr0_0 hc0_0;have b8:=zqm hr0_1;have c0:=zqm hc0_1;clear hr0_1 hc0_1;have HB:=zqm (Below.refl w.heap.size w);have H:(spec_KeepsOk.l0 k 0 l0_0 l0_1)=some r:=h;clear h;have H':=zqm H;clear H
 go_enter Try.func22,Try.ntmps22
 go_wp2_with (first|((with_reducible refine gate_dst (N:=1) rfl ?_);refine box_event ?hg (N:=1) ?hd (cs:= #[.slice A0_0 l0_0.length c0_0,.slice A0_1 l0_1.length c0_1]) (t:=30) ?hr ?_;(case hd=>rfl);(case hg=>rfl);(case hr=>first|(go_simp;done)|(go_simp;rfl));intro a3 hg w2 hbox hb;have c7:=zqm (below_step zq0 hb);have a0:=zqm (hbox);have f4:=zqm ((by rw [hg];exact(below_size zq0):w.heap.size≤a3));have a4:=zqm ((by rw [hg];exact(below_size zq0):w.heap.size≤a3));clear HB;have HB:=c7;clear c7 hb hbox hg))
 repeat(go_quiet (first|((with_reducible refine gate_dst (N:=1) rfl ?_);refine box_event ?hg (N:=1) ?hd (cs:= #[.slice A0_0 l0_0.length c0_0,.slice A0_1 l0_1.length c0_1]) (t:=30) ?hr ?_;(case hd=>rfl);(case hg=>rfl);(case hr=>first|(go_simp;done)|(go_simp;rfl));intro a3 hg w2 hbox hb;have c7:=zqm (below_step zq0 hb);have a0:=zqm (hbox);have f4:=zqm ((by rw [hg];exact(below_size zq0):w.heap.size≤a3));have a4:=zqm ((by rw [hg];exact(below_size zq0):w.heap.size≤a3));clear HB;have HB:=c7;clear c7 hb hbox hg));try go_wp2_with (first|((with_reducible refine gate_dst (N:=1) rfl ?_);refine box_event ?hg (N:=1) ?hd (cs:= #[.slice A0_0 l0_0.length c0_0,.slice A0_1 l0_1.length c0_1]) (t:=30) ?hr ?_;(case hd=>rfl);(case hg=>rfl);(case hr=>first|(go_simp;done)|(go_simp;rfl));intro a3 hg w2 hbox hb;have c7:=zqm (below_step zq0 hb);have a0:=zqm (hbox);have f4:=zqm ((by rw [hg];exact(below_size zq0):w.heap.size≤a3));have a4:=zqm ((by rw [hg];exact(below_size zq0):w.heap.size≤a3));clear HB;have HB:=c7;clear c7 hb hbox hg)))
 go_loopg [3] k (fun kq v3 w'=> ∃(a1:Int),v3= .int .i64 a1∧Aside0 (spec_KeepsOk.l0 kq a1 l0_0 l0_1=some r)∧Aside0 (kq≤k)∧Aside0 (w'.heap[a3]? =some (.cells #[(.slice A0_0 l0_0.length c0_0),(.slice A0_1 l0_1.length c0_1)] 30 (0,0)))∧Aside0 (Below w.heap.size w w'))
 case atStart=>exact⟨(0),(by first|rfl|(simp;done)|(simp [*];done)),H',⟨Nat.le_refl _⟩,⟨zq2⟩,⟨zq8⟩⟩
 case round=>
  clear H';(try clear c2);(try clear p2);obtain⟨a1,rfl,HA,c8,a0,HB⟩:=hrel
  cases gk with
  |zero=>exact absurd HA.out (by simp [spec_KeepsOk.l0])
  |succ k1=>
   have H:=HA.out;clear HA;simp only [spec_KeepsOk.l0] at H;have g2:=zqm H;clear H
   go_upto_region 2 with (fail)
   repeat(go_quiet (fail);go_upto_region 2 with (fail))
   go_cut [13] (fun j6 wc=> ∃(kq:Nat) (d0:Bool),j6= .bool d0∧Aside0 (spec_KeepsOk.j1 kq a1 d0 l0_0 l0_1=some r)∧Aside0 (kq≤k1)∧Aside0 (wc.heap[a3]? =some (.cells #[(.slice A0_0 l0_0.length c0_0),(.slice A0_1 l0_1.length c0_1)] 30 (0,0)))∧Aside0 (Below w.heap.size w wc))
   case first=>
    have H:=g2.out;clear g2
    by_cases c4:a1<(l0_1.length:Int)
    ·rw [if_pos c4] at H;have c1:decide (a1<(l0_1.length:Int))=true:=decide_eq_true c4;clear c4;(first|rw [c1]|(simp only [i64_w,i32_w];rw [c1])|skip);replace H:=Option.bind_eq_some_iff.mp H;obtain⟨d1,h3,H⟩:=H;replace H:(spec_KeepsOk.j1 k1 a1 d1 l0_0 l0_1)=some r:=H;have A5:=zqm h3;clear h3;have H':=zqm H;clear H;have e3:wr.cell? ⟨a3,0,none⟩=some (.slice A0_0 l0_0.length c0_0):=(blk_cell a0.out 0).trans rfl;have e4:wr.cell? ⟨a3,1,none⟩=some (.slice A0_1 l0_1.length c0_1):=(blk_cell a0.out 1).trans rfl;have e5:=blk_frozen a0.out 0;have e6:=blk_frozen a0.out 1
     go_wp2_with (first|(go_at_call 42;(with_reducible refine(spec_LogicOk.calls k1 _ _ l0_0 _ _ l0_1 d1 _ ?side1 ?side2 ?side3 ?side4 A5.out).mono ?_);(case side1=> exact zq38);(case side2=>exact a6.out);(case side3=> exact zq127);(case side4=>exact c0.out);rintro e w7 ⟨rfl,hb⟩;replace a0:=zqm (blk_below (g:=a3) (o:= .cells #[.slice A0_0 l0_0.length c0_0,.slice A0_1 l0_1.length c0_1] 30 (0,0)) zq2 hb);replace HB:=zqm (below_step zq8 hb);clear hb))
     repeat(go_quiet (first|(go_at_call 42;(with_reducible refine(spec_LogicOk.calls k1 _ _ l0_0 _ _ l0_1 d1 _ ?side1 ?side2 ?side3 ?side4 A5.out).mono ?_);(case side1=> exact zq38);(case side2=>exact a6.out);(case side3=> exact zq127);(case side4=>exact c0.out);rintro e w7 ⟨rfl,hb⟩;replace a0:=zqm (blk_below (g:=a3) (o:= .cells #[.slice A0_0 l0_0.length c0_0,.slice A0_1 l0_1.length c0_1] 30 (0,0)) zq2 hb);replace HB:=zqm (below_step zq8 hb);clear hb));try go_wp2_with (first|(go_at_call 42;(with_reducible refine(spec_LogicOk.calls k1 _ _ l0_0 _ _ l0_1 d1 _ ?side1 ?side2 ?side3 ?side4 A5.out).mono ?_);(case side1=> exact zq38);(case side2=>exact a6.out);(case side3=> exact zq127);(case side4=>exact c0.out);rintro e w7 ⟨rfl,hb⟩;replace a0:=zqm (blk_below (g:=a3) (o:= .cells #[.slice A0_0 l0_0.length c0_0,.slice A0_1 l0_1.length c0_1] 30 (0,0)) zq2 hb);replace HB:=zqm (below_step zq8 hb);clear hb)))
     go_meet
     case rel=>exact⟨_,(d1),(by first|rfl|(simp;done)|(simp [*];done)),H',⟨by have:=c8.out;first|omega|exact Nat.le_refl _⟩,⟨zq2⟩,⟨zq8⟩⟩
    ·rw [if_neg c4] at H;have c1:decide (a1<(l0_1.length:Int))=false:=decide_eq_false c4;clear c4;(first|rw [c1]|(simp only [i64_w,i32_w];rw [c1])|skip);have H':=zqm H;clear H;have e7:wr.cell? ⟨a3,0,none⟩=some (.slice A0_0 l0_0.length c0_0):=(blk_cell a0.out 0).trans rfl;have e8:wr.cell? ⟨a3,1,none⟩=some (.slice A0_1 l0_1.length c0_1):=(blk_cell a0.out 1).trans rfl;have e9:=blk_frozen a0.out 0;have f0:=blk_frozen a0.out 1
     go_wp2
     repeat(go_quiet (fail);try go_wp2)
     go_meet
     case rel=>exact⟨_,(false),(by first|rfl|(simp;done)|(simp [*];done)),H',⟨by have:=c8.out;first|omega|exact Nat.le_refl _⟩,⟨zq2⟩,⟨zq8⟩⟩
   case rest=>
    clear g2;(try clear c2);(try clear p2);(try clear c4);(try clear c1);(try clear e3);(try clear e4);(try clear e7);(try clear e8);(try clear e5);(try clear e6);(try clear e9);(try clear f0);(try clear p2);obtain⟨kq,d0,rfl,HA,d7,a0,HB⟩:=hcut
    cases kq with
    |zero=>exact absurd HA.out (by simp [spec_KeepsOk.j1])
    |succ d2=>
     have H:=HA.out;clear HA;simp only [spec_KeepsOk.j1] at H
     by_cases c9:d0=true
     ·subst c9;(have H1:(spec_KeepsOk.l1 d2 a1 0 l0_0 l0_1)=some r:=by rw [if_pos rfl] at H;exact H);clear H;have H:=H1;clear H1;have H':=zqm H;clear H
      go_wp2
      repeat(go_quiet (fail);try go_wp2)
      go_loopg [4] d2 (fun kq v4 w'=> ∃(a2:Int),v4= .int .i64 a2∧Aside0 (spec_KeepsOk.l1 kq a1 a2 l0_0 l0_1=some r)∧Aside0 (kq≤d2)∧Aside0 (w'.heap[a3]? =some (.cells #[(.slice A0_0 l0_0.length c0_0),(.slice A0_1 l0_1.length c0_1)] 30 (0,0)))∧Aside0 (Below w.heap.size w w'))
      case atStart=>exact⟨(0),(by first|rfl|(simp;done)|(simp [*];done)),H',⟨Nat.le_refl _⟩,⟨zq2⟩,⟨zq8⟩⟩
      case round=>
       clear H';(try clear c2);(try clear p2);(try clear c4);(try clear c1);(try clear c9);(try clear e3);(try clear e4);(try clear e7);(try clear e8);(try clear e5);(try clear e6);(try clear e9);(try clear f0);(try clear p2);obtain⟨a2,rfl,HA,d8,a0,HB⟩:=hrel
       cases gk with
       |zero=>exact absurd HA.out (by simp [spec_KeepsOk.l1])
       |succ k3=>
        have H:=HA.out;clear HA;simp only [spec_KeepsOk.l1] at H
        by_cases d9:a2<(l0_1.length:Int)
        ·rw [if_pos d9] at H;have g7:decide (a2<(l0_1.length:Int))=true:=decide_eq_true d9;clear d9
         by_cases f5:0≤a1
         ·rw [if_pos f5] at H;have j7:decide (0≤a1)=true:=decide_eq_true f5;clear f5
          by_cases f6:a1<(l0_0.length:Int)
          ·rw [if_pos f6] at H;have j8:decide (a1<(l0_0.length:Int))=true:=decide_eq_true f6;clear f6
           by_cases f7:0≤a2
           ·rw [if_pos f7] at H;have j9:decide (0≤a2)=true:=decide_eq_true f7;clear f7
            by_cases f8:a2<((rd_L3 l0_0 a1).length:Int)
            ·rw [if_pos f8] at H;have k0:decide (a2<((rd_L3 l0_0 a1).length:Int))=true:=decide_eq_true f8;clear f8
             by_cases d3:(rd (rd_L3 l0_0 a1) a2)=1
             ·rw [if_pos d3] at H;have g8:((rd (rd_L3 l0_0 a1) a2)==1)=true:=beq_iff_eq.mpr d3;have g9:((rd (rd_L3 l0_0 a1) a2) !=1)=false:=bne_eq_false_iff_eq.mpr d3;clear d3
              by_cases f9:a1<(l0_1.length:Int)
              ·rw [if_pos f9] at H;have k2:decide (a1<(l0_1.length:Int))=true:=decide_eq_true f9;clear f9;replace H:=Option.bind_eq_some_iff.mp H;obtain⟨b2,g3,H⟩:=H;replace H:((spec_l1Join.f k3 l0_0 a1 b2).bind fun b1=>(if b1=a2 then(spec_KeepsOk.l1 k3 a1 (wrap64 (a2+1)) l0_0 l0_1) else(some false)))=some r:=H;have e0:=zqm g3;clear g3;replace H:=Option.bind_eq_some_iff.mp H;obtain⟨b1,g4,H⟩:=H;replace H:(if b1=a2 then(spec_KeepsOk.l1 k3 a1 (wrap64 (a2+1)) l0_0 l0_1) else(some false))=some r:=H;have e1:=zqm g4;clear g4
               by_cases d4:b1=a2
               ·rw [if_pos d4] at H;have h0:(b1==a2)=true:=beq_iff_eq.mpr d4;have h1:(b1 !=a2)=false:=bne_eq_false_iff_eq.mpr d4;clear d4;have H':=zqm H;clear H;have h5:wr.cell? ⟨a3,0,none⟩=some (.slice A0_0 l0_0.length c0_0):=(blk_cell a0.out 0).trans rfl;have h6:wr.cell? ⟨a3,1,none⟩=some (.slice A0_1 l0_1.length c0_1):=(blk_cell a0.out 1).trans rfl;have h7:=blk_frozen a0.out 0;have h8:=blk_frozen a0.out 1;have b4:0≤(a1:Int):=zqo;have b5:a1<(l0_0.length:Int):=zqo;obtain⟨g0,f1,f2,d5,a7,a9,b0⟩:=at_L3 a5.out a1 b4 b5
                cases d5
                replace a7:=(HB.out.cell (World.block_lt_of_cell? w _ a7)).trans a7;have b9:=zqm b0;have e2:=zqm a9;clear b0 a9;replace b4:=eq_true b4;replace b5:=eq_true b5;have b6:0≤(a2:Int):=zqo;have b7:a2<((rd_L3 l0_0 a1).length:Int):=zqo;obtain⟨g1,d6,a8⟩:=Kd.at_int b9.out a2 b6 b7
                cases d6
                replace a8:=(HB.out.cell (World.block_lt_of_cell? w _ a8)).trans a8;replace b6:=eq_true b6;replace b7:=eq_true b7;have c3:0≤(a1:Int):=zqo;have c5:a1<(l0_1.length:Int):=zqo;obtain⟨h2,f3,b3⟩:=Kd.at_int b8.out a1 c3 c5
                cases f3
                replace b3:=(HB.out.cell (World.block_lt_of_cell? w _ b3)).trans b3;replace c3:=eq_true c3;replace c5:=eq_true c5
                go_wp2_with (first|(go_at_call 81;(with_reducible refine(spec_l1Meet.calls k3 _ _ l0_0 a2 (rd l0_1 a1) b2 _ ?side1 ?side2 e0.out).mono ?_);(case side1=> exact zq38);(case side2=>exact a6.out);rintro e w' ⟨rfl,⟨nd,rfl⟩⟩;(try first|exact⟨rfl,_,World.drewN_drewN _ _ _⟩|exact⟨rfl,_,Eq.trans (World.drewN_drewN _ _ _) (congrArg (World.drewN _) (Nat.add_assoc _ _ _))⟩))|(go_at_call 82;(with_reducible refine(spec_l1Join.calls k3 _ _ l0_0 a1 b2 b1 _ ?side1 ?side2 e1.out).mono ?_);(case side1=> exact zq62);(case side2=>exact a6.out);rintro e w' ⟨rfl,⟨nd,rfl⟩⟩;(try first|exact⟨rfl,_,World.drewN_drewN _ _ _⟩|exact⟨rfl,_,Eq.trans (World.drewN_drewN _ _ _) (congrArg (World.drewN _) (Nat.add_assoc _ _ _))⟩)))
                repeat(go_quiet (first|(go_at_call 81;(with_reducible refine(spec_l1Meet.calls k3 _ _ l0_0 a2 (rd l0_1 a1) b2 _ ?side1 ?side2 e0.out).mono ?_);(case side1=> exact zq38);(case side2=>exact a6.out);rintro e w' ⟨rfl,⟨nd,rfl⟩⟩;(try first|exact⟨rfl,_,World.drewN_drewN _ _ _⟩|exact⟨rfl,_,Eq.trans (World.drewN_drewN _ _ _) (congrArg (World.drewN _) (Nat.add_assoc _ _ _))⟩))|(go_at_call 82;(with_reducible refine(spec_l1Join.calls k3 _ _ l0_0 a1 b2 b1 _ ?side1 ?side2 e1.out).mono ?_);(case side1=> exact zq62);(case side2=>exact a6.out);rintro e w' ⟨rfl,⟨nd,rfl⟩⟩;(try first|exact⟨rfl,_,World.drewN_drewN _ _ _⟩|exact⟨rfl,_,Eq.trans (World.drewN_drewN _ _ _) (congrArg (World.drewN _) (Nat.add_assoc _ _ _))⟩)));try go_wp2_with (first|(go_at_call 81;(with_reducible refine(spec_l1Meet.calls k3 _ _ l0_0 a2 (rd l0_1 a1) b2 _ ?side1 ?side2 e0.out).mono ?_);(case side1=> exact zq38);(case side2=>exact a6.out);rintro e w' ⟨rfl,⟨nd,rfl⟩⟩;(try first|exact⟨rfl,_,World.drewN_drewN _ _ _⟩|exact⟨rfl,_,Eq.trans (World.drewN_drewN _ _ _) (congrArg (World.drewN _) (Nat.add_assoc _ _ _))⟩))|(go_at_call 82;(with_reducible refine(spec_l1Join.calls k3 _ _ l0_0 a1 b2 b1 _ ?side1 ?side2 e1.out).mono ?_);(case side1=> exact zq62);(case side2=>exact a6.out);rintro e w' ⟨rfl,⟨nd,rfl⟩⟩;(try first|exact⟨rfl,_,World.drewN_drewN _ _ _⟩|exact⟨rfl,_,Eq.trans (World.drewN_drewN _ _ _) (congrArg (World.drewN _) (Nat.add_assoc _ _ _))⟩))))
                go_roundg k3
                (case measure=> exact zq370);case rel=>exact⟨(wrap64 (a2+1)),(by first|rfl|(simp;done)|(simp [*];done)),H',⟨zq370⟩,⟨zq2⟩,⟨zq8⟩⟩
               ·rw [if_neg d4] at H;have h0:(b1==a2)=false:=beq_eq_false_iff_ne.mpr d4;have h1:(b1 !=a2)=true:=bne_iff_ne.mpr d4;obtain rfl:=Option.some.inj H;have h9:wr.cell? ⟨a3,0,none⟩=some (.slice A0_0 l0_0.length c0_0):=(blk_cell a0.out 0).trans rfl;have i0:wr.cell? ⟨a3,1,none⟩=some (.slice A0_1 l0_1.length c0_1):=(blk_cell a0.out 1).trans rfl;have i1:=blk_frozen a0.out 0;have i2:=blk_frozen a0.out 1;have b4:0≤(a1:Int):=zqo;have b5:a1<(l0_0.length:Int):=zqo;obtain⟨g0,f1,f2,d5,a7,a9,b0⟩:=at_L3 a5.out a1 b4 b5
                cases d5
                replace a7:=(HB.out.cell (World.block_lt_of_cell? w _ a7)).trans a7;have b9:=zqm b0;have e2:=zqm a9;clear b0 a9;replace b4:=eq_true b4;replace b5:=eq_true b5;have b6:0≤(a2:Int):=zqo;have b7:a2<((rd_L3 l0_0 a1).length:Int):=zqo;obtain⟨g1,d6,a8⟩:=Kd.at_int b9.out a2 b6 b7
                cases d6
                replace a8:=(HB.out.cell (World.block_lt_of_cell? w _ a8)).trans a8;replace b6:=eq_true b6;replace b7:=eq_true b7;have c3:0≤(a1:Int):=zqo;have c5:a1<(l0_1.length:Int):=zqo;obtain⟨h2,f3,b3⟩:=Kd.at_int b8.out a1 c3 c5
                cases f3
                replace b3:=(HB.out.cell (World.block_lt_of_cell? w _ b3)).trans b3;replace c3:=eq_true c3;replace c5:=eq_true c5
                go_wp2_with (first|(go_at_call 81;(with_reducible refine(spec_l1Meet.calls k3 _ _ l0_0 a2 (rd l0_1 a1) b2 _ ?side1 ?side2 e0.out).mono ?_);(case side1=> exact zq38);(case side2=>exact a6.out);rintro e w' ⟨rfl,⟨nd,rfl⟩⟩;(try first|exact⟨rfl,_,World.drewN_drewN _ _ _⟩|exact⟨rfl,_,Eq.trans (World.drewN_drewN _ _ _) (congrArg (World.drewN _) (Nat.add_assoc _ _ _))⟩))|(go_at_call 82;(with_reducible refine(spec_l1Join.calls k3 _ _ l0_0 a1 b2 b1 _ ?side1 ?side2 e1.out).mono ?_);(case side1=> exact zq62);(case side2=>exact a6.out);rintro e w' ⟨rfl,⟨nd,rfl⟩⟩;(try first|exact⟨rfl,_,World.drewN_drewN _ _ _⟩|exact⟨rfl,_,Eq.trans (World.drewN_drewN _ _ _) (congrArg (World.drewN _) (Nat.add_assoc _ _ _))⟩)))
                repeat(go_quiet (first|(go_at_call 81;(with_reducible refine(spec_l1Meet.calls k3 _ _ l0_0 a2 (rd l0_1 a1) b2 _ ?side1 ?side2 e0.out).mono ?_);(case side1=> exact zq38);(case side2=>exact a6.out);rintro e w' ⟨rfl,⟨nd,rfl⟩⟩;(try first|exact⟨rfl,_,World.drewN_drewN _ _ _⟩|exact⟨rfl,_,Eq.trans (World.drewN_drewN _ _ _) (congrArg (World.drewN _) (Nat.add_assoc _ _ _))⟩))|(go_at_call 82;(with_reducible refine(spec_l1Join.calls k3 _ _ l0_0 a1 b2 b1 _ ?side1 ?side2 e1.out).mono ?_);(case side1=> exact zq62);(case side2=>exact a6.out);rintro e w' ⟨rfl,⟨nd,rfl⟩⟩;(try first|exact⟨rfl,_,World.drewN_drewN _ _ _⟩|exact⟨rfl,_,Eq.trans (World.drewN_drewN _ _ _) (congrArg (World.drewN _) (Nat.add_assoc _ _ _))⟩)));try go_wp2_with (first|(go_at_call 81;(with_reducible refine(spec_l1Meet.calls k3 _ _ l0_0 a2 (rd l0_1 a1) b2 _ ?side1 ?side2 e0.out).mono ?_);(case side1=> exact zq38);(case side2=>exact a6.out);rintro e w' ⟨rfl,⟨nd,rfl⟩⟩;(try first|exact⟨rfl,_,World.drewN_drewN _ _ _⟩|exact⟨rfl,_,Eq.trans (World.drewN_drewN _ _ _) (congrArg (World.drewN _) (Nat.add_assoc _ _ _))⟩))|(go_at_call 82;(with_reducible refine(spec_l1Join.calls k3 _ _ l0_0 a1 b2 b1 _ ?side1 ?side2 e1.out).mono ?_);(case side1=> exact zq62);(case side2=>exact a6.out);rintro e w' ⟨rfl,⟨nd,rfl⟩⟩;(try first|exact⟨rfl,_,World.drewN_drewN _ _ _⟩|exact⟨rfl,_,Eq.trans (World.drewN_drewN _ _ _) (congrArg (World.drewN _) (Nat.add_assoc _ _ _))⟩))))
                go_ret
                exact⟨zq11,zq8⟩
              ·rw [if_neg f9] at H;exact absurd H (by simp)
             ·rw [if_neg d3] at H;have g8:((rd (rd_L3 l0_0 a1) a2)==1)=false:=beq_eq_false_iff_ne.mpr d3;have g9:((rd (rd_L3 l0_0 a1) a2) !=1)=true:=bne_iff_ne.mpr d3;have H':=zqm H;clear H;have i3:wr.cell? ⟨a3,0,none⟩=some (.slice A0_0 l0_0.length c0_0):=(blk_cell a0.out 0).trans rfl;have i4:wr.cell? ⟨a3,1,none⟩=some (.slice A0_1 l0_1.length c0_1):=(blk_cell a0.out 1).trans rfl;have i5:=blk_frozen a0.out 0;have i6:=blk_frozen a0.out 1;have b4:0≤(a1:Int):=zqo;have b5:a1<(l0_0.length:Int):=zqo;obtain⟨g0,f1,f2,d5,a7,a9,b0⟩:=at_L3 a5.out a1 b4 b5
              cases d5
              replace a7:=(HB.out.cell (World.block_lt_of_cell? w _ a7)).trans a7;have b9:=zqm b0;have e2:=zqm a9;clear b0 a9;replace b4:=eq_true b4;replace b5:=eq_true b5;have b6:0≤(a2:Int):=zqo;have b7:a2<((rd_L3 l0_0 a1).length:Int):=zqo;obtain⟨g1,d6,a8⟩:=Kd.at_int b9.out a2 b6 b7
              cases d6
              replace a8:=(HB.out.cell (World.block_lt_of_cell? w _ a8)).trans a8;replace b6:=eq_true b6;replace b7:=eq_true b7
              go_wp2
              repeat(go_quiet (fail);try go_wp2)
              go_roundg k3
              (case measure=> exact zq370);case rel=>exact⟨(wrap64 (a2+1)),(by first|rfl|(simp;done)|(simp [*];done)),H',⟨zq370⟩,⟨zq2⟩,⟨zq8⟩⟩
            ·rw [if_neg f8] at H;exact absurd H (by simp)
           ·rw [if_neg f7] at H;exact absurd H (by simp)
          ·rw [if_neg f6] at H;exact absurd H (by simp)
         ·rw [if_neg f5] at H;exact absurd H (by simp)
        ·rw [if_neg d9] at H;have g7:decide (a2<(l0_1.length:Int))=false:=decide_eq_false d9;clear d9;have H':=zqm H;clear H;have i7:wr.cell? ⟨a3,0,none⟩=some (.slice A0_0 l0_0.length c0_0):=(blk_cell a0.out 0).trans rfl;have i8:wr.cell? ⟨a3,1,none⟩=some (.slice A0_1 l0_1.length c0_1):=(blk_cell a0.out 1).trans rfl;have i9:=blk_frozen a0.out 0;have j0:=blk_frozen a0.out 1
         go_wp2
         repeat(go_quiet (fail);try go_wp2)
         go_roundg k3
         (case measure=> exact zq370);case rel=>exact⟨(wrap64 (a1+1)),(by first|rfl|(simp;done)|(simp [*];done)),H',⟨zq370⟩,⟨zq2⟩,⟨zq8⟩⟩
     ·replace c9:=Bool.eq_false_iff.mpr c9;subst c9;(have H1:((spec_LogicOk.f d2 l0_0 l0_1).bind fun c6=>(some c6))=some r:=by rw [if_neg (show¬(false=true) by decide)] at H;exact H);clear H;have H:=H1;clear H1;replace H:=Option.bind_eq_some_iff.mp H;obtain⟨c6,g5,H⟩:=H;replace H:(some c6)=some r:=H;have g6:=zqm g5;clear g5;obtain rfl:=Option.some.inj H;have j2:wc.cell? ⟨a3,0,none⟩=some (.slice A0_0 l0_0.length c0_0):=(blk_cell a0.out 0).trans rfl;have j3:wc.cell? ⟨a3,1,none⟩=some (.slice A0_1 l0_1.length c0_1):=(blk_cell a0.out 1).trans rfl;have j4:=blk_frozen a0.out 0;have j5:=blk_frozen a0.out 1
      go_wp2_with (first|(go_at_call 42;(with_reducible refine(spec_LogicOk.calls d2 _ _ l0_0 _ _ l0_1 c6 _ ?side1 ?side2 ?side3 ?side4 g6.out).mono ?_);(case side1=> exact zq38);(case side2=>exact a6.out);(case side3=> exact zq127);(case side4=>exact c0.out);rintro e h4 ⟨rfl,hb⟩;replace a0:=zqm (blk_below (g:=a3) (o:= .cells #[.slice A0_0 l0_0.length c0_0,.slice A0_1 l0_1.length c0_1] 30 (0,0)) zq2 hb);replace HB:=zqm (below_step zq8 hb);clear hb))
      repeat(go_quiet (first|(go_at_call 42;(with_reducible refine(spec_LogicOk.calls d2 _ _ l0_0 _ _ l0_1 c6 _ ?side1 ?side2 ?side3 ?side4 g6.out).mono ?_);(case side1=> exact zq38);(case side2=>exact a6.out);(case side3=> exact zq127);(case side4=>exact c0.out);rintro e h4 ⟨rfl,hb⟩;replace a0:=zqm (blk_below (g:=a3) (o:= .cells #[.slice A0_0 l0_0.length c0_0,.slice A0_1 l0_1.length c0_1] 30 (0,0)) zq2 hb);replace HB:=zqm (below_step zq8 hb);clear hb));try go_wp2_with (first|(go_at_call 42;(with_reducible refine(spec_LogicOk.calls d2 _ _ l0_0 _ _ l0_1 c6 _ ?side1 ?side2 ?side3 ?side4 g6.out).mono ?_);(case side1=> exact zq38);(case side2=>exact a6.out);(case side3=> exact zq127);(case side4=>exact c0.out);rintro e h4 ⟨rfl,hb⟩;replace a0:=zqm (blk_below (g:=a3) (o:= .cells #[.slice A0_0 l0_0.length c0_0,.slice A0_1 l0_1.length c0_1] 30 (0,0)) zq2 hb);replace HB:=zqm (below_step zq8 hb);clear hb)))
      go_ret
      exact⟨zq11,zq8⟩
end Go.Proofs.Ytdoomkcgdcfmlaa.Print
end
section
namespace Go.Proofs.Ytdoomkcgdcfmlaa.Print
open Go.RowKit Go.Proofs.YtdoomkcgdcfmlaaW.PrintWords Go.Proofs.YtdoomkcgdcfmlaaW.PrintLast Go.Proofs.YtdoomkcgdcfmlaaW.PrintMore
open Oml
theorem Drawn0.quiet {P : Program} {f : FuncId} {args : Array Value} {w : World} {n : Nat} {v : Value}
    (h:Calls P f args (w.drewN n) fun e w'=>e= .returned v∧Drawn0 (w.drewN n) w'):Calls P f args (w.drewN n) fun e w''=>e= .returned v∧ ∃m,w''=w.drewN m:=
  h.mono fun _ _ ⟨he,⟨⟨m,hm⟩⟩⟩=>⟨he,n+m,by rw [hm,World.drewN_drewN]⟩
theorem lit_C2 (W : World) (o : Obj) (e : TypeId) (xs : List Int) (hm : xs.length ≤ 9223372036854775807) : Kd.C (Kd.int .i64) ((W.alloc o).alloc (.cells (nums .i64 xs).toArray e)) (some ⟨W.heap.size + 1, 0, none⟩) xs.length xs := by
  have h:=lit_C (W.alloc o) e xs hm
  have e:(W.alloc o).heap.size=W.heap.size+1:=by first|(simp;done)|(unfold World.alloc;simp;done)|rfl
  rwa [e] at h
def keepT (U : List (List Int)) (N : List Int) (a b : Int) : Bool := (at2 U a.toNat b.toNat == 0) || (orI U a (andI U b (notI N a)) == b)
def keepB (U : List (List Int)) (N : List Int) : Bool := allN U.length fun a => allN U.length fun b => keepT U N a b
end Go.Proofs.Ytdoomkcgdcfmlaa.Print
end
section
namespace Go.Proofs.Ytdoomkcgdcfmlaa.Print
open Go.RowKit Go.Proofs.YtdoomkcgdcfmlaaW.PrintWords Go.Proofs.YtdoomkcgdcfmlaaW.PrintLast Go.Proofs.YtdoomkcgdcfmlaaW.PrintMore
open Oml
theorem spec_KeepsOk.ev (U : List (List Int)) (N : List Int) : Ev (fun k => spec_KeepsOk.f k U N) (if logicB U N = true then keepB U N else false) := by
  unfold spec_KeepsOk.f
  have hlo:=spec_LogicOk.ev U N
  cases hg:logicB U N with
  | false =>
    rw [hg] at hlo
    rw [if_neg (by simp)]
    refine Ev.succ ?_
    simp only [spec_KeepsOk.l0]
    have hj : Ev (fun k => spec_KeepsOk.j1 k 0 false U N) false := by
      refine Ev.succ ?_
      simp only [spec_KeepsOk.j1]
      exact Ev.ite_neg (by simp) (Ev.bind hlo (Ev.now _))
    by_cases h0:(0:Int)<(N.length:Int)
    · exact Ev.ite_pos h0 (Ev.bind hlo hj)
    · exact Ev.ite_neg h0 hj
  | true =>
    rw [hg] at hlo
    have L:=logicB_iff.1 hg
    have hlen:=L.len
    have hsm:=L.small
    rw [if_pos rfl]
    unfold keepB
    refine Ev.eq (Ev.all (g:=fun k i=>spec_KeepsOk.l0 k i U N) (n:=U.length) (fun a=>allN U.length fun b=>keepT U N a b) (go:=true) (stop:=false) (by omega) (fun _=>?_) (fun i hi _ R hR=>?_)) (by cases allN U.length _ <;> rfl)
    · refine Ev.succ ?_
      simp only [spec_KeepsOk.l0]
      refine Ev.ite_neg (by omega) (Ev.succ ?_)
      simp only [spec_KeepsOk.j1]
      exact Ev.ite_neg (by simp) (Ev.bind hlo (Ev.now _))
    · refine Ev.succ ?_
      simp only [spec_KeepsOk.l0]
      refine Ev.ite_pos (by omega) (Ev.bind hlo (Ev.succ ?_))
      simp only [spec_KeepsOk.j1]
      refine Ev.ite_pos (by simp) ?_
      have hrow:=L.row i hi
      have hran:=L.ran i hi
      refine Ev.all (g:=fun k j=>spec_KeepsOk.l1 k (i:Int) j U N) (n:=U.length) (fun b=>keepT U N i b) (go:=R) (stop:=false) (by omega) (fun hall=>?_) (fun j hj _ R' hR'=>?_)
      · refine Ev.succ ?_
        simp only [spec_KeepsOk.l1]
        exact Ev.ite_neg (by omega) (hR (allN_iff.2 hall))
      · refine Ev.succ ?_
        simp only [spec_KeepsOk.l1,rdL_nat,rd_nat,rd_row,hrow]
        refine Ev.ite_pos (by omega) (Ev.ite_pos (by omega) (Ev.ite_pos (by omega) (Ev.ite_pos (by omega) (Ev.ite_pos (by omega) ?_))))
        have hk : keepT U N i j = ((at2 U i j == 0) || (orI U i (andI U j (notI N i)) == (j : Int))) := by
          unfold keepT;rw [Int.toNat_natCast,Int.toNat_natCast]
        rcases L.bit i j hi hj with e|e
        · rw [hk, e] at hR' ⊢
          exact Ev.ite_neg (by omega) (hR' rfl)
        · have iI : In U ((i : Nat) : Int) := ⟨by omega, by omega⟩
          have iJ:In U ((j:Nat):Int):=⟨by omega,by omega⟩
          have hn:at1 N i=notI N (i:Int):=by unfold notI;rw [Int.toNat_natCast]
          rw [hk,e] at hR' ⊢
          rw [hn]
          refine Ev.ite_pos (by simp) (Ev.ite_pos (by omega) (Ev.bind (meet_in L iJ (L.in_not iI)) (Ev.bind (join_in L iI (L.in_and iJ (L.in_not iI))) ?_)))
          by_cases c:orI U i (andI U j (notI N i))=(j:Int)
          · have c2 : ((1 : Int) == 0 || (orI U i (andI U j (notI N i)) == (j : Int))) = true := by rw [c]; simp
            rw [c2] at hR' ⊢
            exact Ev.ite_pos c (hR' rfl)
          · have c2 : ((1 : Int) == 0 || (orI U i (andI U j (notI N i)) == (j : Int))) = false := by
              rw [Bool.or_eq_false_iff];exact⟨rfl,beq_eq_false_iff_ne.2 c⟩
            rw [c2]
            exact Ev.ite_neg c (Ev.now _)
section
variable {U : List (List Int)} {N : List Int} (L : Logic U N)
include L
theorem at2_fin (x y : Fin U.length) : (at2 U x.1 y.1 = 1 ↔ L.ol.le x y) ∧ (at2 U x.1 y.1 = 0 ↔ ¬ L.ol.le x y) := by
  have h : L.ol.le x y ↔ at2 U x.1 y.1 = 1 := by
    rw [← leB_fin L]; unfold leB; exact beq_iff_eq
  refine ⟨h.symm, ?_⟩
  rw [h]
  rcases L.bit x.1 y.1 x.2 y.2 with e | e <;> omega
theorem keepB_iff : keepB U N = true ↔ L.ol.Keeps := by
  unfold keepB OL.Keeps
  rw [allN_fin]
  have key : ∀ x y : Fin U.length, keepT U N x.1 y.1 = true ↔ (L.ol.le x y → L.ol.join x (L.ol.meet y (L.ol.neg x)) = y) := fun x y => by
    unfold keepT
    rw [Int.toNat_natCast,Int.toNat_natCast,not_fin L,and_fin L,or_fin L,fin_beq,Bool.or_eq_true,beq_iff_eq,decide_eq_true_eq,(at2_fin L x y).2]
    exact⟨fun h k=>h.resolve_left (fun n=>n k),fun h=>(Classical.em (L.ol.le x y)).elim (fun k=> .inr (h k)) .inl⟩
  constructor
  · intro h x y
    exact(key x y).1 (allN_fin.1 (h x) y)
  · intro h x
    exact allN_fin.2 fun y=>(key x y).2 (h x y)
theorem proj_fin (x y : Fin U.length) : andI U x.1 (orI U (notI N x.1) y.1) = (((L.ol.proj x y).1 : Nat) : Int) := by rw [not_fin L, or_fin L, and_fin L]; rfl
end
theorem inR_two {U : List (List Int)} (x y : Fin U.length) : [((x.1 : Nat) : Int), ((y.1 : Nat) : Int)].all (inR U.length) = true := by
  simp only [List.all_cons, List.all_nil, Bool.and_true, Bool.and_eq_true, inR_iff]; exact ⟨in_fin x, in_fin y⟩
end Go.Proofs.Ytdoomkcgdcfmlaa.Print
end
section
namespace Go.Proofs.Ytdoomkcgdcfmlaa.Print
open Go.RowKit Go.Proofs.YtdoomkcgdcfmlaaW.PrintWords Go.Proofs.YtdoomkcgdcfmlaaW.PrintLast Go.Proofs.YtdoomkcgdcfmlaaW.PrintMore
def laws_hasInt.l0 : Nat → List Int → Int → Int → Option (Bool)
 | 0, _, _, _ => none
 | k + 1, x0, x1, x5 => if x5 < (x0.length : Int) then (if 0 ≤ x5 then (if (rd x0 x5) = x1 then (some true) else (laws_hasInt.l0 k x0 x1 (wrap64 (x5 + 1)))) else (none)) else (some false)
def laws_hasInt.f (k : Nat) (l0 : List Int) (a1 : Int) : Option (Bool) := laws_hasInt.l0 k l0 a1 0
set_option maxHeartbeats 8000000 in
set_option maxRecDepth 100000 in
theorem laws_hasInt.calls (k : Nat) (A0 : Option Addr) (c0 : Nat) (l0 : List Int) (a1 : Int) (r : Bool) (w : World) (hr0 : Kd.C (Kd.int .i64) w A0 l0.length l0) (hc0 : l0.length ≤ c0) (h : laws_hasInt.f k l0 a1 = some r) :
  Calls Try.prog 48 #[.slice A0 l0.length c0, .int .i64 a1] w fun e w' => e = .returned (.bool r) ∧ Drawn0 w w' := by
 have HR0:=zqm hr0;have HC0:=zqm hc0;clear hr0 hc0;have H:(laws_hasInt.l0 k l0 a1 0)=some r:=h;clear h;have H':=zqm H;clear H
 go_enter Try.func48,Try.ntmps48
 go_wp2
 go_loopg [5] k (fun kq v5 w'=> ∃(x5_1:Int),v5= .int .i64 x5_1∧Aside0 (laws_hasInt.l0 kq l0 a1 x5_1=some r)∧Aside0 (kq≤k)∧Drawn0 w w')
 case atStart=>exact⟨(0),(by first|rfl|(simp;done)|(simp [*];done)),H',⟨Nat.le_refl _⟩,zq22⟩
 case round=>
  clear H';(try clear p2);obtain⟨x5_1,rfl,HA,HK1,⟨m1,rfl⟩⟩:=hrel
  cases gk with
  |zero=>exact absurd HA.out (by simp [laws_hasInt.l0])
  |succ k1=>
   have H:=HA.out;clear HA;simp only [laws_hasInt.l0] at H
   by_cases c3:x5_1<(l0.length:Int)
   ·rw [if_pos c3] at H;have c3b0:decide (x5_1<(l0.length:Int))=true:=decide_eq_true c3;clear c3
    by_cases c4:0≤x5_1
    ·rw [if_pos c4] at H;have c4b0:decide (0≤x5_1)=true:=decide_eq_true c4;clear c4
     by_cases c5:(rd l0 x5_1)=a1
     ·rw [if_pos c5] at H;have c5b0:((rd l0 x5_1)==a1)=true:=beq_iff_eq.mpr c5;have c5b1:((rd l0 x5_1) !=a1)=false:=bne_eq_false_iff_eq.mpr c5;clear c5;obtain rfl:=Option.some.inj H;have p854:0≤(x5_1:Int):=zqo;have q854:x5_1<(l0.length:Int):=zqo;obtain⟨ad854,e854,hx854_0⟩:=Kd.at_int HR0.out x5_1 p854 q854
      cases e854
      replace p854:=eq_true p854;replace q854:=eq_true q854
      go_wp2
      go_ret
      exact⟨by first|rfl|(simp;done)|(simp [*];done),zq22⟩
     ·rw [if_neg c5] at H;have c5b0:((rd l0 x5_1)==a1)=false:=beq_eq_false_iff_ne.mpr c5;have c5b1:((rd l0 x5_1) !=a1)=true:=bne_iff_ne.mpr c5;have H':=zqm H;clear H;have p854:0≤(x5_1:Int):=zqo;have q854:x5_1<(l0.length:Int):=zqo;obtain⟨ad854,e854,hx854_0⟩:=Kd.at_int HR0.out x5_1 p854 q854
      cases e854
      replace p854:=eq_true p854;replace q854:=eq_true q854
      go_wp2
      go_roundg k1
      (case measure=>have:=HK1.out;omega);case rel=>exact⟨(wrap64 (x5_1+1)),(by first|rfl|(simp;done)|(simp [*];done)),H',⟨by have:=HK1.out;omega⟩,zq22⟩
    ·rw [if_neg c4] at H;exact absurd H (by simp)
   ·rw [if_neg c3] at H;have c3b0:decide (x5_1<(l0.length:Int))=false:=decide_eq_false c3;clear c3;obtain rfl:=Option.some.inj H
    go_wp2
    go_ret
    exact⟨by first|rfl|(simp;done)|(simp [*];done),zq22⟩
end Go.Proofs.Ytdoomkcgdcfmlaa.Print
end
section
namespace Go.Proofs.Ytdoomkcgdcfmlaa.Print
open Go.RowKit Go.Proofs.YtdoomkcgdcfmlaaW.PrintWords Go.Proofs.YtdoomkcgdcfmlaaW.PrintLast Go.Proofs.YtdoomkcgdcfmlaaW.PrintMore
open Oml
def filN (n : Nat) (p : Nat → Bool) : List Nat := (List.range n).filter p
theorem filI_eq (n : Nat) (p : Nat → Bool) : filI n p = (filN n p).map fun (s : Nat) => (s : Int) := rfl
theorem filI_len (n : Nat) (p : Nat → Bool) : (filI n p).length = (filN n p).length := by rw [filI_eq, List.length_map]
theorem filI_at (n : Nat) (p : Nat → Bool) (i : Nat) : at1 (filI n p) i = (((filN n p).getD i 0 : Nat) : Int) := by
  rw [filI_eq]
  simp only [at1, List.getD_eq_getElem?_getD, List.getElem?_map]
  cases (filN n p)[i]? <;> rfl
theorem hasInt_ev (l : List Int) (x : Int) (hl : l.length < 4611686018427387904) : Ev (fun k => laws_hasInt.f k l x) (decide (x ∈ l)) := by
  unfold laws_hasInt.f
  refine Ev.eq (Ev.all (g:=fun k i=>laws_hasInt.l0 k l x i) (n:=l.length) (fun i=>!(at1 l i==x)) (go:=false) (stop:=true) hl (fun _=>?_) (fun i hi _ R hR=>?_)) ?_
  · refine Ev.succ ?_
    simp only [laws_hasInt.l0]
    exact Ev.ite_neg (by omega) (Ev.now _)
  · refine Ev.succ ?_
    simp only [laws_hasInt.l0,rd_nat]
    refine Ev.ite_pos (by omega) (Ev.ite_pos (by omega) ?_)
    by_cases e:at1 l i=x
    · rw [show (!(at1 l i == x)) = false by simp [e]]
      exact Ev.ite_pos e (Ev.now _)
    · have e2 : (!(at1 l i == x)) = true := by simp [e]
      rw [e2] at hR ⊢
      exact Ev.ite_neg e (hR rfl)
  · have hat : ∀ i (hi : i < l.length), at1 l i = l[i] := fun i hi => by
      unfold at1;rw [List.getD_eq_getElem?_getD,List.getElem?_eq_getElem hi];rfl
    by_cases h:x ∈ l
    · obtain ⟨i, hi, e⟩ := List.getElem_of_mem h
      have h2:allN l.length (fun i=>!(at1 l i==x))=false:=allN_false.2 ⟨i,hi,by rw [hat i hi,e];simp⟩
      rw [h2,decide_eq_true h];rfl
    · have h2 : allN l.length (fun i => !(at1 l i == x)) = true := allN_iff.2 fun i hi => by
        rw [hat i hi]
        have:l[i]≠x:=fun e=>h (e ▸ List.getElem_mem hi)
        simp [this]
      rw [h2,decide_eq_false h];rfl
theorem mem_filI {n : Nat} {p : Nat → Bool} {x : Int} : x ∈ filI n p ↔ ∃ i : Nat, x = (i : Int) ∧ i < n ∧ p i = true := by
  rw [filI_eq,List.mem_map]
  constructor
  · rintro ⟨i, hi, rfl⟩
    have:=List.mem_filter.1 hi
    exact⟨i,rfl,by simpa using this.1,this.2⟩
  · rintro ⟨i, rfl, h1, h2⟩
    exact⟨i,List.mem_filter.2 ⟨by simpa using h1,h2⟩,rfl⟩
theorem filI_nat {n : Nat} {p : Nat → Bool} {i : Nat} : decide ((i : Int) ∈ filI n p) = (decide (i < n) && p i) := by
  rw [Bool.eq_iff_iff,decide_eq_true_eq,mem_filI,Bool.and_eq_true,decide_eq_true_eq]
  constructor
  · rintro ⟨j, e, h1, h2⟩
    obtain rfl:i=j:=by omega
    exact⟨h1,h2⟩
  · rintro ⟨h1, h2⟩
    exact⟨i,rfl,h1,h2⟩
end Go.Proofs.Ytdoomkcgdcfmlaa.Print
end
section
namespace Go.Proofs.Ytdoomkcgdcfmlaa.Print
open Go.RowKit Go.Proofs.YtdoomkcgdcfmlaaW.PrintWords Go.Proofs.YtdoomkcgdcfmlaaW.PrintLast Go.Proofs.YtdoomkcgdcfmlaaW.PrintMore
def spec_NoOf.f (k : Nat) (l0_0 : List (List Int)) (l0_1 : List Int) : Option (Int) := (spec_LogicOk.f k l0_0 l0_1).bind fun t959 => (if t959 = true then ((spec_LeastOf.f k l0_0).bind fun bt960 => (some bt960.1)) else (some (-1)))
set_option maxHeartbeats 8000000 in
set_option maxRecDepth 100000 in
theorem spec_NoOf.calls (k : Nat) (A0_0 : Option Addr) (c0_0 : Nat) (l0_0 : List (List Int)) (A0_1 : Option Addr) (c0_1 : Nat) (l0_1 : List Int) (r : Int) (w : World) (hr0_0 : Kd.C (Kd.slice 3 (Kd.int .i64)) w A0_0 l0_0.length l0_0) (hc0_0 : l0_0.length ≤ c0_0) (hr0_1 : Kd.C (Kd.int .i64) w A0_1 l0_1.length l0_1) (hc0_1 : l0_1.length ≤ c0_1) (h : spec_NoOf.f k l0_0 l0_1 = some r) :
  Calls Try.prog 101 #[.agg #[.slice A0_0 l0_0.length c0_0, .slice A0_1 l0_1.length c0_1]] w fun e w' => e = .returned (.int .i64 r) ∧ Below w.heap.size w w' := by
 have hu30:=Try.underlying30;have a4:=zqm hr0_0;have a5:=zqm hc0_0;clear hr0_0 hc0_0;have a8:=zqm hr0_1;have a9:=zqm hc0_1;clear hr0_1 hc0_1;have HB:=zqm (Below.refl w.heap.size w);have H:((spec_LogicOk.f k l0_0 l0_1).bind fun a6=>(if a6=true then((spec_LeastOf.f k l0_0).bind fun a2=>(some a2.1)) else(some (-1))))=some r:=h;clear h;replace H:=Option.bind_eq_some_iff.mp H;obtain⟨a6,b2,H⟩:=H;replace H:(if a6=true then((spec_LeastOf.f k l0_0).bind fun a2=>(some a2.1)) else(some (-1)))=some r:=H;have A2:=zqm b2;clear b2
 by_cases c3:a6=true
 ·subst c3;(have H1:((spec_LeastOf.f k l0_0).bind fun a2=>(some a2.1))=some r:=by rw [if_pos rfl] at H;exact H);clear H;have H:=H1;clear H1;replace H:=Option.bind_eq_some_iff.mp H;obtain⟨⟨b0,b4⟩,b3,H⟩:=H;replace H:(some b0)=some r:=H;have A4:=zqm b3;clear b3;obtain rfl:=Option.some.inj H
  go_enter Try.func101,Try.ntmps101
  go_wp2_with (first|((with_reducible refine gate_dst (N:=1) rfl ?_);refine box_event ?hg (N:=1) ?hd (cs:= #[.slice A0_0 l0_0.length c0_0,.slice A0_1 l0_1.length c0_1]) (t:=30) ?hr ?_;(case hd=>rfl);(case hg=>rfl);(case hr=>first|(go_simp;done)|(go_simp;rfl));intro a1 hg w5 hbox hb;have a7:=zqm (below_step zq0 hb);have a0:=zqm (hbox);have b1:=zqm ((by rw [hg];exact(below_size zq0):w.heap.size≤a1));have a3:=zqm ((by rw [hg];exact(below_size zq0):w.heap.size≤a1));clear HB;have HB:=a7;clear a7 hb hbox hg;have b9:w5.cell? ⟨a1,0,none⟩=some (.slice A0_0 l0_0.length c0_0):=(blk_cell a0.out 0).trans rfl;have c0:w5.cell? ⟨a1,1,none⟩=some (.slice A0_1 l0_1.length c0_1):=(blk_cell a0.out 1).trans rfl;have c1:=blk_frozen a0.out 0;have c2:=blk_frozen a0.out 1)|((with_reducible refine gate_callee (f:=42) rfl ?_);refine goesL_ (some 6) rfl rfl Try.func42 zqk rfl #[.agg #[.slice A0_0 l0_0.length c0_0,.slice A0_1 l0_1.length c0_1]] rfl zq1 ?_;(with_reducible refine(spec_LogicOk.calls k _ _ l0_0 _ _ l0_1 true _ ?side1 ?side2 ?side3 ?side4 A2.out).mono ?_);(case side1=> exact zq292);(case side2=>exact a5.out);(case side3=> exact zq26);(case side4=>exact a9.out);rintro e w7 ⟨rfl,hb⟩;refine⟨_,rfl,?_⟩;replace a0:=zqm (blk_below (g:=a1) (o:= .cells #[.slice A0_0 l0_0.length c0_0,.slice A0_1 l0_1.length c0_1] 30 (0,0)) zq2 hb);replace HB:=zqm (below_step zq21 hb);clear hb;have c4:w7.cell? ⟨a1,0,none⟩=some (.slice A0_0 l0_0.length c0_0):=(blk_cell a0.out 0).trans rfl;have c5:w7.cell? ⟨a1,1,none⟩=some (.slice A0_1 l0_1.length c0_1):=(blk_cell a0.out 1).trans rfl;have c6:=blk_frozen a0.out 0;have c7:=blk_frozen a0.out 1)|((with_reducible refine gate_callee (f:=95) rfl ?_);refine goesL_ (some 11) rfl rfl Try.func95 zqk rfl #[.slice A0_0 l0_0.length c0_0] rfl zq1 ?_;(with_reducible refine(spec_LeastOf.calls k _ _ l0_0 b0 b4 _ ?side1 ?side2 A4.out).mono ?_);(case side1=> exact zq292);(case side2=>exact a5.out);rintro e w' ⟨rfl,⟨nd,rfl⟩⟩;refine⟨_,rfl,?_⟩))
  go_ret
  exact⟨zq11,zq21⟩
 ·replace c3:=Bool.eq_false_iff.mpr c3;subst c3;(have H1:(some (-1))=some r:=by rw [if_neg (show¬(false=true) by decide)] at H;exact H);clear H;have H:=H1;clear H1;obtain rfl:=Option.some.inj H
  go_enter Try.func101,Try.ntmps101
  go_wp2_with (first|((with_reducible refine gate_dst (N:=1) rfl ?_);refine box_event ?hg (N:=1) ?hd (cs:= #[.slice A0_0 l0_0.length c0_0,.slice A0_1 l0_1.length c0_1]) (t:=30) ?hr ?_;(case hd=>rfl);(case hg=>rfl);(case hr=>first|(go_simp;done)|(go_simp;rfl));intro a1 hg w9 hbox hb;have a7:=zqm (below_step zq0 hb);have a0:=zqm (hbox);have b1:=zqm ((by rw [hg];exact(below_size zq0):w.heap.size≤a1));have a3:=zqm ((by rw [hg];exact(below_size zq0):w.heap.size≤a1));clear HB;have HB:=a7;clear a7 hb hbox hg;have b5:w9.cell? ⟨a1,0,none⟩=some (.slice A0_0 l0_0.length c0_0):=(blk_cell a0.out 0).trans rfl;have b6:w9.cell? ⟨a1,1,none⟩=some (.slice A0_1 l0_1.length c0_1):=(blk_cell a0.out 1).trans rfl;have b7:=blk_frozen a0.out 0;have b8:=blk_frozen a0.out 1)|((with_reducible refine gate_callee (f:=42) rfl ?_);refine goesL_ (some 6) rfl rfl Try.func42 zqk rfl #[.agg #[.slice A0_0 l0_0.length c0_0,.slice A0_1 l0_1.length c0_1]] rfl zq1 ?_;(with_reducible refine(spec_LogicOk.calls k _ _ l0_0 _ _ l0_1 false _ ?side1 ?side2 ?side3 ?side4 A2.out).mono ?_);(case side1=> exact zq292);(case side2=>exact a5.out);(case side3=> exact zq26);(case side4=>exact a9.out);rintro e c8 ⟨rfl,hb⟩;refine⟨_,rfl,?_⟩;replace a0:=zqm (blk_below (g:=a1) (o:= .cells #[.slice A0_0 l0_0.length c0_0,.slice A0_1 l0_1.length c0_1] 30 (0,0)) zq2 hb);replace HB:=zqm (below_step zq21 hb);clear hb))
  go_ret
  exact⟨zq11,zq21⟩
end Go.Proofs.Ytdoomkcgdcfmlaa.Print
end
section
namespace Go.Proofs.Ytdoomkcgdcfmlaa.Print
open Go.RowKit Go.Proofs.YtdoomkcgdcfmlaaW.PrintWords Go.Proofs.YtdoomkcgdcfmlaaW.PrintLast Go.Proofs.YtdoomkcgdcfmlaaW.PrintMore
open Oml
theorem spec_NoOf.ev (U : List (List Int)) (N : List Int) : Ev (fun k => spec_NoOf.f k U N) (if logicB U N = true then noI U else -1) := by
  unfold spec_NoOf.f
  refine Ev.bind (spec_LogicOk.ev U N) ?_
  cases hl:logicB U N with
  | false => repeat (first | ((with_reducible refine Ev.ite_pos ?_ ?_); (first | assumption | (focus omega) | (focus (simp; done)))) | ((with_reducible refine Ev.ite_neg ?_ ?_); (first | assumption | (focus omega) | (focus (simp; done)))))
             exact Ev.now _
  | true =>
    have L:=logicB_iff.1 hl
    have ho:orderB U=true:=orderB_iff.2 L.toOrder
    repeat(first|((with_reducible refine Ev.ite_pos ?_ ?_);(first|assumption|(focus omega)|(focus (simp;done))))|((with_reducible refine Ev.ite_neg ?_ ?_);(first|assumption|(focus omega)|(focus (simp;done)))))
    refine Ev.bind (spec_LeastOf.ev U) ?_
    rw [ho]
    exact Ev.now _
end Go.Proofs.Ytdoomkcgdcfmlaa.Print
end
section
namespace Go.Proofs.Ytdoomkcgdcfmlaa.Print
open Go.RowKit Go.Proofs.YtdoomkcgdcfmlaaW.PrintWords Go.Proofs.YtdoomkcgdcfmlaaW.PrintLast Go.Proofs.YtdoomkcgdcfmlaaW.PrintMore
def laws_sameInts.l0 : Nat → List Int → List Int → Int → Option (Bool)
 | 0, _, _, _ => none
 | k + 1, x0, x1, x5 => if x5 < (x0.length : Int) then (if 0 ≤ x5 then (if x5 < (x1.length : Int) then (if (rd x0 x5) = (rd x1 x5) then (laws_sameInts.l0 k x0 x1 (wrap64 (x5 + 1))) else (some false)) else (none)) else (none)) else (some true)
def laws_sameInts.f (k : Nat) (l0 : List Int) (l1 : List Int) : Option (Bool) := if (l0.length : Int) = (l1.length : Int) then (laws_sameInts.l0 k l0 l1 0) else (some false)
set_option maxHeartbeats 8000000 in
set_option maxRecDepth 100000 in
theorem laws_sameInts.calls (k : Nat) (A0 : Option Addr) (c0 : Nat) (l0 : List Int) (A1 : Option Addr) (c1 : Nat) (l1 : List Int) (r : Bool) (w : World) (hr0 : Kd.C (Kd.int .i64) w A0 l0.length l0) (hc0 : l0.length ≤ c0) (hr1 : Kd.C (Kd.int .i64) w A1 l1.length l1) (hc1 : l1.length ≤ c1) (h : laws_sameInts.f k l0 l1 = some r) :
  Calls Try.prog 52 #[.slice A0 l0.length c0, .slice A1 l1.length c1] w fun e w' => e = .returned (.bool r) ∧ Drawn0 w w' := by
 have b4:=zqm hr0;have c9:=zqm hc0;clear hr0 hc0;have b5:=zqm hr1;have d0:=zqm hc1;clear hr1 hc1;have H:(if(l0.length:Int)=(l1.length:Int) then(laws_sameInts.l0 k l0 l1 0) else(some false))=some r:=h;clear h
 by_cases c3:(l0.length:Int)=(l1.length:Int)
 ·rw [if_pos c3] at H;have a9:((l0.length:Int)==(l1.length:Int))=true:=beq_iff_eq.mpr c3;have b0:((l0.length:Int) !=(l1.length:Int))=false:=bne_eq_false_iff_eq.mpr c3;(have b1:(l0.length==l1.length)=true:=by first|simpa using c3|(simp at c3 ⊢;omega));clear c3;have H':=zqm H;clear H
  go_enter Try.func52,Try.ntmps52
  go_wp2
  repeat(go_quiet (fail);try go_wp2)
  go_loopg [5] k (fun kq v5 w'=> ∃(a0:Int),v5= .int .i64 a0∧Aside0 (laws_sameInts.l0 kq l0 l1 a0=some r)∧Aside0 (kq≤k)∧Drawn0 w w')
  case atStart=>exact⟨(0),(by first|rfl|(simp;done)|(simp [*];done)),H',⟨Nat.le_refl _⟩,zq22⟩
  case round=>
   clear H';(try clear c1);(try clear p2);(try clear c3);(try clear a9);(try clear b0);(try clear b1);obtain⟨a0,rfl,HA,b6,⟨m1,rfl⟩⟩:=hrel
   cases gk with
   |zero=>exact absurd HA.out (by simp [laws_sameInts.l0])
   |succ k1=>
    have H:=HA.out;clear HA;simp only [laws_sameInts.l0] at H
    by_cases c4:a0<(l0.length:Int)
    ·rw [if_pos c4] at H;have b7:decide (a0<(l0.length:Int))=true:=decide_eq_true c4;clear c4
     by_cases c5:0≤a0
     ·rw [if_pos c5] at H;have c2:decide (0≤a0)=true:=decide_eq_true c5;clear c5
      by_cases c6:a0<(l1.length:Int)
      ·rw [if_pos c6] at H;have c8:decide (a0<(l1.length:Int))=true:=decide_eq_true c6;clear c6
       by_cases c7:(rd l0 a0)=(rd l1 a0)
       ·rw [if_pos c7] at H;have b8:((rd l0 a0)==(rd l1 a0))=true:=beq_iff_eq.mpr c7;have b9:((rd l0 a0) !=(rd l1 a0))=false:=bne_eq_false_iff_eq.mpr c7;clear c7;have H':=zqm H;clear H;have a1:0≤(a0:Int):=zqo;have a2:a0<(l0.length:Int):=zqo;obtain⟨b2,a5,a7⟩:=Kd.at_int b4.out a0 a1 a2
        cases a5
        replace a1:=eq_true a1;replace a2:=eq_true a2;have a3:0≤(a0:Int):=zqo;have a4:a0<(l1.length:Int):=zqo;obtain⟨b3,a6,a8⟩:=Kd.at_int b5.out a0 a3 a4
        cases a6
        replace a3:=eq_true a3;replace a4:=eq_true a4
        go_wp2
        repeat(go_quiet (fail);try go_wp2)
        go_roundg k1
        (case measure=>have:=b6.out;omega);case rel=>exact⟨(wrap64 (a0+1)),(by first|rfl|(simp;done)|(simp [*];done)),H',⟨by have:=b6.out;omega⟩,zq22⟩
       ·rw [if_neg c7] at H;have b8:((rd l0 a0)==(rd l1 a0))=false:=beq_eq_false_iff_ne.mpr c7;have b9:((rd l0 a0) !=(rd l1 a0))=true:=bne_iff_ne.mpr c7;obtain rfl:=Option.some.inj H;have a1:0≤(a0:Int):=zqo;have a2:a0<(l0.length:Int):=zqo;obtain⟨b2,a5,a7⟩:=Kd.at_int b4.out a0 a1 a2
        cases a5
        replace a1:=eq_true a1;replace a2:=eq_true a2;have a3:0≤(a0:Int):=zqo;have a4:a0<(l1.length:Int):=zqo;obtain⟨b3,a6,a8⟩:=Kd.at_int b5.out a0 a3 a4
        cases a6
        replace a3:=eq_true a3;replace a4:=eq_true a4
        go_wp2
        repeat(go_quiet (fail);try go_wp2)
        go_ret
        exact⟨by first|rfl|(simp;done)|(simp [*];done),zq22⟩
      ·rw [if_neg c6] at H;exact absurd H (by simp)
     ·rw [if_neg c5] at H;exact absurd H (by simp)
    ·rw [if_neg c4] at H;have b7:decide (a0<(l0.length:Int))=false:=decide_eq_false c4;clear c4;obtain rfl:=Option.some.inj H
     go_wp2
     repeat(go_quiet (fail);try go_wp2)
     go_ret
     exact⟨by first|rfl|(simp;done)|(simp [*];done),zq22⟩
 ·rw [if_neg c3] at H;have a9:((l0.length:Int)==(l1.length:Int))=false:=beq_eq_false_iff_ne.mpr c3;have b0:((l0.length:Int) !=(l1.length:Int))=true:=bne_iff_ne.mpr c3;(have b1:(l0.length==l1.length)=false:=by first|simpa using c3|(simp at c3 ⊢;omega));obtain rfl:=Option.some.inj H
  go_enter Try.func52,Try.ntmps52
  go_wp2
  repeat(go_quiet (fail);try go_wp2)
  go_ret
  exact⟨by first|rfl|(simp;done)|(simp [*];done),zq22⟩
def laws_ascend.l0 : Nat → List Int → Int → Option (Bool)
 | 0, _, _ => none
 | k + 1, x0, x3 => if x3 < (x0.length : Int) then (if 0 ≤ (wrap64 (x3 - 1)) then (if (wrap64 (x3 - 1)) < (x0.length : Int) then (if 0 ≤ x3 then (if (rd x0 (wrap64 (x3 - 1))) ≥ (rd x0 x3) then (some false) else (laws_ascend.l0 k x0 (wrap64 (x3 + 1)))) else (none)) else (none)) else (none)) else (some true)
def laws_ascend.f (k : Nat) (l0 : List Int) : Option (Bool) := laws_ascend.l0 k l0 1
set_option maxHeartbeats 8000000 in
set_option maxRecDepth 100000 in
theorem laws_ascend.calls (k : Nat) (A0 : Option Addr) (c0 : Nat) (l0 : List Int) (r : Bool) (w : World) (hr0 : Kd.C (Kd.int .i64) w A0 l0.length l0) (hc0 : l0.length ≤ c0) (h : laws_ascend.f k l0 = some r) :
  Calls Try.prog 54 #[.slice A0 l0.length c0] w fun e w' => e = .returned (.bool r) ∧ Drawn0 w w' := by
 have b1:=zqm hr0;have c3:=zqm hc0;clear hr0 hc0;have H:(laws_ascend.l0 k l0 1)=some r:=h;clear h;have H':=zqm H;clear H
 go_enter Try.func54,Try.ntmps54
 go_wp2
 repeat(go_quiet (fail);try go_wp2)
 go_loopg [3] k (fun kq v3 w'=> ∃(a0:Int),v3= .int .i64 a0∧Aside0 (laws_ascend.l0 kq l0 a0=some r)∧Aside0 (kq≤k)∧Drawn0 w w')
 case atStart=>exact⟨(1),(by first|rfl|(simp;done)|(simp [*];done)),H',⟨Nat.le_refl _⟩,zq22⟩
 case round=>
  clear H';obtain⟨a0,rfl,HA,b4,⟨m1,rfl⟩⟩:=hrel
  cases gk with
  |zero=>exact absurd HA.out (by simp [laws_ascend.l0])
  |succ k1=>
   have H:=HA.out;clear HA;simp only [laws_ascend.l0] at H
   by_cases c2:a0<(l0.length:Int)
   ·rw [if_pos c2] at H;have b5:decide (a0<(l0.length:Int))=true:=decide_eq_true c2;clear c2;obtain⟨a1,a6⟩: ∃j_:Int,(wrap64 (a0 - 1))=j_:=⟨_,rfl⟩;(replace H:(if 0≤(a1) then(if(a1)<(l0.length:Int) then(if 0≤a0 then(if(rd l0 (a1))≥(rd l0 a0) then(some false) else(laws_ascend.l0 k1 l0 (wrap64 (a0+1)))) else(none)) else(none)) else(none))=some r:=by first|(rw [a6] at H;exact H)|(simp only [a6] at H ⊢;exact H));have b7:(IntKind.i64.wrap (a0 - 1))=a1:=(i64_w _).trans a6
    by_cases c4:0≤(a1)
    ·rw [if_pos c4] at H;have b8:decide (0≤(a1))=true:=decide_eq_true c4;clear c4
     by_cases c5:(a1)<(l0.length:Int)
     ·rw [if_pos c5] at H;have b9:decide ((a1)<(l0.length:Int))=true:=decide_eq_true c5;clear c5
      by_cases c6:0≤a0
      ·rw [if_pos c6] at H;have c1:decide (0≤a0)=true:=decide_eq_true c6;clear c6
       by_cases c7:(rd l0 (a1))≥(rd l0 a0)
       ·rw [if_pos c7] at H;have b6:decide ((rd l0 a0)≤(rd l0 (a1)))=true:=decide_eq_true c7;clear c7;obtain rfl:=Option.some.inj H;have a2:0≤((a1):Int):=zqo;have a3:(a1)<(l0.length:Int):=zqo;obtain⟨a7,a9,b2⟩:=Kd.at_int b1.out (a1) a2 a3
        cases a9
        replace a2:=eq_true a2;replace a3:=eq_true a3;have a4:0≤(a0:Int):=zqo;have a5:a0<(l0.length:Int):=zqo;obtain⟨a8,b0,b3⟩:=Kd.at_int b1.out a0 a4 a5;obtain rfl:a7=a8:=(by injection b0);replace a4:=eq_true a4;replace a5:=eq_true a5
        go_wp2
        repeat(go_quiet (fail);try go_wp2)
        go_ret
        exact⟨by first|rfl|(simp;done)|(simp only [← a6] <;> (first|rfl|simp))|(simp [*];done),zq22⟩
       ·rw [if_neg c7] at H;have b6:decide ((rd l0 a0)≤(rd l0 (a1)))=false:=decide_eq_false c7;clear c7;have H':=zqm H;clear H;have a2:0≤((a1):Int):=zqo;have a3:(a1)<(l0.length:Int):=zqo;obtain⟨a7,a9,b2⟩:=Kd.at_int b1.out (a1) a2 a3
        cases a9
        replace a2:=eq_true a2;replace a3:=eq_true a3;have a4:0≤(a0:Int):=zqo;have a5:a0<(l0.length:Int):=zqo;obtain⟨a8,b0,b3⟩:=Kd.at_int b1.out a0 a4 a5;obtain rfl:a7=a8:=(by injection b0);replace a4:=eq_true a4;replace a5:=eq_true a5
        go_wp2
        repeat(go_quiet (fail);try go_wp2)
        go_roundg k1
        (case measure=>have:=b4.out;omega);case rel=>exact⟨(wrap64 (a0+1)),(by first|rfl|(simp;done)|(simp [*];done)),H',⟨by have:=b4.out;omega⟩,zq22⟩
      ·rw [if_neg c6] at H;exact absurd H (by simp)
     ·rw [if_neg c5] at H;exact absurd H (by simp)
    ·rw [if_neg c4] at H;exact absurd H (by simp)
   ·rw [if_neg c2] at H;have b5:decide (a0<(l0.length:Int))=false:=decide_eq_false c2;clear c2;obtain rfl:=Option.some.inj H
    go_wp2
    repeat(go_quiet (fail);try go_wp2)
    go_ret
    exact⟨by first|rfl|(simp;done)|(simp [*];done),zq22⟩
def spec_DrawClearOf.f (k : Nat) (l0 : List Int) : Option ((List (List Int)) × List Int × Int) := (spec_l20Open.f l0).bind fun bt945 => ((spec_l20Two.f k bt945.1 bt945.2 14).bind fun bt948 => (some (bt948.1, bt948.2.1, bt948.2.2.1)))
set_option maxHeartbeats 8000000 in
set_option maxRecDepth 100000 in
theorem spec_DrawClearOf.calls (k : Nat) (A0 : Option Addr) (c0 : Nat) (l0 : List Int) (r1 : List (List Int)) (r2 : List Int) (r3 : Int) (w : World) (hr0 : Kd.C (Kd.int .u8) w A0 l0.length l0) (hc0 : l0.length ≤ c0) (h : spec_DrawClearOf.f k l0 = some (r1, r2, r3)) :
  Calls Try.prog 55 #[.slice A0 l0.length c0] w fun e w' => ∃ v0_ v1_ : Value, e = .returned (.tuple #[.agg #[v0_, v1_], .int .i64 r3]) ∧ Kd.S (Kd.slice 3 (Kd.int .i64)) 28 w' w.heap.size (fun k_ => some k_ ≠ (v1_ : Value).ownBlock) v0_ r1 ∧ Kd.Q (Kd.int .i64) 3 w' w.heap.size (fun _ => True) v1_ r2 ∧ Below w.heap.size w w' := by
 have hu30:=Try.underlying30;have e6:=zqm hr0;have e7:=zqm hc0;clear hr0 hc0;have HB:=zqm (Below.refl w.heap.size w);have H:((spec_l20Open.f l0).bind fun c6=>((spec_l20Two.f k c6.1 c6.2 14).bind fun a6=>(some (a6.1,a6.2.1,a6.2.2.1))))=some (r1,r2,r3):=h;clear h;replace H:=Option.bind_eq_some_iff.mp H;obtain⟨⟨b4,c4⟩,c9,H⟩:=H;replace H:((spec_l20Two.f k b4 c4 14).bind fun a6=>(some (a6.1,a6.2.1,a6.2.2.1)))=some (r1,r2,r3):=H;have A2:=zqm c9;clear c9;replace H:=Option.bind_eq_some_iff.mp H;obtain⟨⟨a7,b0,c7,d6,c5⟩,d0,H⟩:=H;replace H:(some (a7,b0,c7))=some (r1,r2,r3):=H;have A3:=zqm d0;clear d0;simp only [Option.some.injEq,Prod.mk.injEq] at H;obtain⟨rfl,rfl,rfl⟩:=H
 go_enter Try.func55,Try.ntmps55
 go_wp2_with (first|((with_reducible refine gate_dst (N:=2) rfl ?_);refine box_event ?hg (N:=2) ?hd (cs:= #[.slice none 0 0,.slice none 0 0]) (t:=30) ?hr ?_;(case hd=>rfl);(case hg=>rfl);(case hr=>first|(go_simp;done)|(go_simp;rfl));intro a1 hg w4 hbox hb;have b9:=zqm (below_step zq0 hb);have a0:=zqm (hbox);have e9:=zqm ((by rw [hg];exact(below_size zq0):w.heap.size≤a1));have a5:=zqm ((by rw [hg];exact(below_size zq0):w.heap.size≤a1));clear HB;have HB:=b9;clear b9 hb hbox hg)|((with_reducible refine gate_callee (f:=72) rfl ?_);refine goesL_ (some 9) rfl rfl Try.func72 zqk rfl #[.slice A0 l0.length c0] rfl zq1 ?_;(with_reducible refine(spec_l20Open.calls _ _ l0 b4 c4 w _ ?side1 ?side2 ?side3 A2.out).mono ?_);(case side1=> exact zq18);(case side2=>exact e6.out);(case side3=>exact e7.out);rintro e w5 ⟨g947,rfl,hi,hb,hb2⟩;refine⟨_,rfl,?_⟩;have b9:=zqm (blk_below (g:=a1) (o:= .cells #[.slice none 0 0,.slice none 0 0] 30 (0,0)) zq2 hb2);replace HB:=zqm (hb);have a2:=zqm (hi);have a4:=zqm (IsS87.ne_blk hi (blk_below (g:=a1) (o:= .cells #[.slice none 0 0,.slice none 0 0] 30 (0,0)) zq2 hb2) (by decide));have b1:=zqm (Ne.symm (IsS87.ne_blk hi (blk_below (g:=a1) (o:= .cells #[.slice none 0 0,.slice none 0 0] 30 (0,0)) zq2 hb2) (by decide)));clear a0;have a0:=b9;clear b9 hb hb2 hi)|((with_reducible refine gate_callee (f:=76) rfl ?_);refine goesL_ (some 12) rfl rfl Try.func76 zqk rfl #[.pointer (some ⟨g947,0,none⟩),.int .i64 14] rfl zq1 ?_;(with_reducible refine(spec_l20Two.calls k g947 b4 c4 14 a7 b0 c7 d6 c5 w _ ?side1 ?side2 A3.out).mono ?_);(case side1=> exact zq128);(case side2=> exact zq30);rintro e w6 ⟨f5,f6,rfl,d1,d2,hi,hb,hk⟩;refine⟨_,rfl,?_⟩;replace a0:=zqm (KeepBut.blk hk (g':=a1) (o:= .cells #[.slice none 0 0,.slice none 0 0] 30 (0,0)) zq2 b1.out (by simp));have b2:=zqm (Kd.S_lower d1 (below_size zq30));have b3:=zqm (Kd.Q_lower d2 (below_size zq30));replace HB:=zqm (hb);replace a2:=zqm (hi);clear hb hk hi d1 d2)|((with_reducible refine gate_dst (N:=5) rfl ?_);refine box_event ?hg (N:=5) ?hd (cs:= #[.slice none 0 0,.slice none 0 0]) (t:=30) ?hr ?_;(case hd=>rfl);(case hg=>rfl);(case hr=>first|(go_simp;done)|(go_simp;rfl));intro a3 hg w7 hbox hb;replace b2:=zqm (Kd.S_below zq325 hb);replace b3:=zqm (Kd.Q_below zq330 hb);have d3:=zqm (blk_below (g:=a1) (o:= .cells #[.slice none 0 0,.slice none 0 0] 30 (0,0)) zq2 hb);have d4:=zqm (IsS87.below zq128 hb);have d5:=zqm (below_step zq30 hb);have a9:=zqm (hbox);have f0:=zqm ((by rw [hg];exact(below_size zq30):w.heap.size≤a3));have c8:=zqm ((by rw [hg];exact(below_size zq30):w.heap.size≤a3));have a8:=zqm ((by rw [hg];exact Nat.ne_of_lt (blk_lt (g:=a1) (o:= .cells #[.slice none 0 0,.slice none 0 0] 30 (0,0)) zq2):a1≠a3));have c1:=zqm ((by rw [hg];exact Nat.ne_of_gt (blk_lt (g:=a1) (o:= .cells #[.slice none 0 0,.slice none 0 0] 30 (0,0)) zq2):a3≠a1));have c2:=zqm ((by rw [hg];exact Nat.ne_of_lt (IsS87.lt (show IsS87 w _ g947 b4 c5 from by repeat(first|(with_reducible first|exact a2.out|apply IsS87.alloc|apply IsS87.drewN|apply IsS87.drew|apply IsS87.set_1|refine IsS87.far ?_ a4.out _)|exact a2.out))):g947≠a3));have c3:=zqm ((by rw [hg];exact Nat.ne_of_gt (IsS87.lt (show IsS87 w _ g947 b4 c5 from by repeat(first|(with_reducible first|exact a2.out|apply IsS87.alloc|apply IsS87.drewN|apply IsS87.drew|apply IsS87.set_1|refine IsS87.far ?_ a4.out _)|exact a2.out))):a3≠g947));clear a0 a2 HB;have a0:=d3;have a2:=d4;have HB:=d5;clear d3 d4 d5 hb hbox hg;obtain⟨b7,b8,e8⟩:=Kd.S_slice b2.out;subst e8;have f7:=c1.out;have f8:=a8.out;have f1:=c3.out;have f2:=c2.out;have d8:w7.cell? ⟨a3,0,none⟩=some (.slice none 0 0):=(blk_cell a9.out 0).trans rfl;have d9:w7.cell? ⟨a3,1,none⟩=some (.slice none 0 0):=(blk_cell a9.out 1).trans rfl;have e0:=blk_frozen a9.out 0;have e1:=blk_frozen a9.out 1;obtain⟨b5,b6,d7,_⟩:=Kd.Q_slice b3.out;subst d7;have f3:=b1.out;have f4:=a4.out;have e2:w7.cell? ⟨a1,0,none⟩=some (.slice none 0 0):=(blk_cell a0.out 0).trans rfl;have e3:w7.cell? ⟨a1,1,none⟩=some (.slice none 0 0):=(blk_cell a0.out 1).trans rfl;have e4:=blk_frozen a0.out 0;have e5:=blk_frozen a0.out 1))
 refine bodyPost_ret (results_ct rfl _ _ a1 30 #[.slice b7 a7.length b8,.slice b5 b0.length b6] (0,0) _ rfl zq85 Try.underlying30 rfl zqk) rfl ?_;exact⟨_,_,zq11,zq136,zq135,zq176⟩
end Go.Proofs.Ytdoomkcgdcfmlaa.Print
end
section
namespace Go.Proofs.Ytdoomkcgdcfmlaa.Print
open Go.RowKit Go.Proofs.YtdoomkcgdcfmlaaW.PrintWords Go.Proofs.YtdoomkcgdcfmlaaW.PrintLast Go.Proofs.YtdoomkcgdcfmlaaW.PrintMore
mutual
def spec_ClearOf.l0 : Nat → Int → List Int → Int → List (List Int) → List Int → Option (List Int)
 | 0, _, _, _, _, _ => none
 | k + 1, x1, x5, x6, x963000, x963001 => if x6 < (x963001.length : Int) then ((spec_NotOf.f k x963000 x963001 x1).bind fun t966 => (spec_ClearOf.j1 k x1 x5 x6 (decide (t966 ≥ 0)) x963000 x963001)) else (spec_ClearOf.j1 k x1 x5 x6 false x963000 x963001)
def spec_ClearOf.j1 : Nat → Int → List Int → Int → Bool → List (List Int) → List Int → Option (List Int)
 | 0, _, _, _, _, _, _ => none
 | k + 1, x1, x5, x6, x18, x963000, x963001 => if x18 = true then ((spec_ProjectOf.f k x963000 x963001 x1 x6).bind fun t967 => ((spec_NoOf.f k x963000 x963001).bind fun t968 => (if t967 = t968 then (if x5.length < 17592186044416 then (spec_ClearOf.l0 k x1 (x5 ++ [x6]) (wrap64 (x6 + 1)) x963000 x963001) else (none)) else (spec_ClearOf.l0 k x1 x5 (wrap64 (x6 + 1)) x963000 x963001)))) else (some x5)
end
def spec_ClearOf.f (k : Nat) (l0_0 : List (List Int)) (l0_1 : List Int) (a1 : Int) : Option (List Int) := spec_ClearOf.l0 k a1 (([] : List Int)) 0 l0_0 l0_1
set_option maxHeartbeats 8000000 in
set_option maxRecDepth 100000 in
theorem spec_ClearOf.calls (k : Nat) (A0_0 : Option Addr) (c0_0 : Nat) (l0_0 : List (List Int)) (A0_1 : Option Addr) (c0_1 : Nat) (l0_1 : List Int) (a1 : Int) (r : List Int) (w : World) (hr0_0 : Kd.C (Kd.slice 3 (Kd.int .i64)) w A0_0 l0_0.length l0_0) (hc0_0 : l0_0.length ≤ c0_0) (hr0_1 : Kd.C (Kd.int .i64) w A0_1 l0_1.length l0_1) (hc0_1 : l0_1.length ≤ c0_1) (h : spec_ClearOf.f k l0_0 l0_1 a1 = some r) :
  Calls Try.prog 57 #[.agg #[.slice A0_0 l0_0.length c0_0, .slice A0_1 l0_1.length c0_1], .int .i64 a1] w fun e w' => ∃ v0_ : Value, e = .returned (v0_) ∧ Kd.R (Kd.int .i64) 3 w' w.heap.size (fun _ => True) v0_ r ∧ Below w.heap.size w w' := by
 have hu30:=Try.underlying30;have a9:=zqm hr0_0;have b0:=zqm hc0_0;clear hr0_0 hc0_0;have b1:=zqm hr0_1;have b2:=zqm hc0_1;clear hr0_1 hc0_1;have HB:=zqm (Below.refl w.heap.size w);have H:(spec_ClearOf.l0 k a1 (([]:List Int)) 0 l0_0 l0_1)=some r:=h;clear h;obtain⟨d2,b3⟩: ∃y_:List Int,y_=(([]:List Int)):=⟨_,rfl⟩;(replace H:(spec_ClearOf.l0 k a1 d2 0 l0_0 l0_1)=some r:=by first|(rw [b3];with_reducible exact H)|(have b7:=(Option.bind_some _ _).symm.trans H;rw [b3];with_reducible exact b7)|(have b7:=(Option.bind_some _ _).symm.trans H;with_reducible exact b7)|with_reducible exact H|(rw [b3];exact H)|exact H);have c2:=zqm b3;clear b3;have H':=zqm H;clear H
 go_enter Try.func57,Try.ntmps57
 go_wp2_with (first|((with_reducible refine gate_dst (N:=2) rfl ?_);refine box_event ?hg (N:=2) ?hd (cs:= #[.slice A0_0 l0_0.length c0_0,.slice A0_1 l0_1.length c0_1]) (t:=30) ?hr ?_;(case hd=>rfl);(case hg=>rfl);(case hr=>first|(go_simp;done)|(go_simp;rfl));intro a3 hg w3 hbox hb;have e6:=zqm (below_step zq0 hb);have a0:=zqm (hbox);have f1:=zqm ((by rw [hg];exact(below_size zq0):w.heap.size≤a3));have a5:=zqm ((by rw [hg];exact(below_size zq0):w.heap.size≤a3));clear HB;have HB:=e6;clear e6 hb hbox hg)|((with_reducible refine gate_dst (N:=7) rfl ?_);refine Kd.R_lit (Kd.int .i64) _ 3 ?hg (N:=7) ?hd (xs:=([]:List Int)) (inner:= []) (ok:=fun _=>True) (okp:=fun _=>True) ?hr ?hp (fun _ hk=>hk) trivial (Below.refl _ _) (Nat.le_refl _) (by simp) ?_;(case hd=>rfl);(case hg=>rfl);(case hr=>first|(go_simp;done)|(go_simp;rfl));(case hp=>exact(Reps.none _ _));intro f2 w4 c0 hb hg_ hnew_;clear hg_ hnew_;(first|rw [← c2.out] at c0|(simp only [Int.reduceToNat] at c0;rw [← c2.out] at c0));have e1:=zqm (Kd.R_lower c0 (below_size zq18));replace a0:=zqm (blk_below (g:=a3) (o:= .cells #[.slice A0_0 l0_0.length c0_0,.slice A0_1 l0_1.length c0_1] 30 (0,0)) zq2 hb);replace HB:=zqm (below_step zq18 hb);clear hb c0))
 go_loopg [5,6] k (fun kq v5 v6 w'=> ∃(a4:List Int) (a2:Int),v6= .int .i64 a2∧Aside0 (spec_ClearOf.l0 kq a1 a4 a2 l0_0 l0_1=some r)∧Aside0 (kq≤k)∧Aside0 (Kd.R (Kd.int .i64) 3 w' w.heap.size (fun _=>True) v5 a4)∧Aside0 (w'.heap[a3]? =some (.cells #[(.slice A0_0 l0_0.length c0_0),(.slice A0_1 l0_1.length c0_1)] 30 (0,0)))∧Aside0 (Below w.heap.size w w'))
 case atStart=>exact⟨(d2),(0),(by first|rfl|(simp;done)|(simp [*];done)),H',⟨Nat.le_refl _⟩,⟨zq366⟩,⟨zq2⟩,⟨zq18⟩⟩
 case round=>
  clear H';(try clear p2);(try clear c5);obtain⟨a4,a2,rfl,HA,b9,HO_5,a0,HB⟩:=hrel
  cases gk with
  |zero=>exact absurd HA.out (by simp [spec_ClearOf.l0])
  |succ k1=>
   have H:=HA.out;clear HA;simp only [spec_ClearOf.l0] at H;have d3:=zqm H;clear H
   go_upto_region 3 with (fail)
   go_cut [18] (fun f0 wc=> ∃(kq:Nat) (b6:Bool),f0= .bool b6∧Aside0 (spec_ClearOf.j1 kq a1 a4 a2 b6 l0_0 l0_1=some r)∧Aside0 (kq≤k1)∧Aside0 (Kd.R (Kd.int .i64) 3 wc w.heap.size (fun _=>True) u5 a4)∧Aside0 (wc.heap[a3]? =some (.cells #[(.slice A0_0 l0_0.length c0_0),(.slice A0_1 l0_1.length c0_1)] 30 (0,0)))∧Aside0 (Below w.heap.size w wc))
   case first=>
    have H:=d3.out;clear d3
    by_cases c7:a2<(l0_1.length:Int)
    ·rw [if_pos c7] at H;have b5:decide (a2<(l0_1.length:Int))=true:=decide_eq_true c7;clear c7;(first|rw [b5]|(simp only [i64_w,i32_w];rw [b5])|skip);replace H:=Option.bind_eq_some_iff.mp H;obtain⟨c1,e7,H⟩:=H;replace H:(spec_ClearOf.j1 k1 a1 a4 a2 (decide (c1≥0)) l0_0 l0_1)=some r:=H;have A8:=zqm e7;clear e7;have H':=zqm H;clear H;have d4:wr.cell? ⟨a3,0,none⟩=some (.slice A0_0 l0_0.length c0_0):=(blk_cell a0.out 0).trans rfl;have d5:wr.cell? ⟨a3,1,none⟩=some (.slice A0_1 l0_1.length c0_1):=(blk_cell a0.out 1).trans rfl;have d6:=blk_frozen a0.out 0;have d7:=blk_frozen a0.out 1
     go_wp2_with (first|(go_at_call 96;(with_reducible refine(spec_NotOf.calls k1 _ _ l0_0 _ _ l0_1 a1 c1 _ ?side1 ?side2 ?side3 ?side4 A8.out).mono ?_);(case side1=> exact zq57);(case side2=>exact b0.out);(case side3=> exact zq42);(case side4=>exact b2.out);rintro e f4 ⟨rfl,hb⟩;replace HO_5:=zqm (Kd.R_below zq32 hb);replace a0:=zqm (blk_below (g:=a3) (o:= .cells #[.slice A0_0 l0_0.length c0_0,.slice A0_1 l0_1.length c0_1] 30 (0,0)) zq2 hb);replace HB:=zqm (below_step zq18 hb);clear hb))
     go_meet
     case rel=>exact⟨_,(decide (c1≥0)),(by first|rfl|(simp;done)|(simp [*];done)),H',⟨by have:=b9.out;first|omega|exact Nat.le_refl _⟩,⟨zq32⟩,⟨zq2⟩,⟨zq18⟩⟩
    ·rw [if_neg c7] at H;have b5:decide (a2<(l0_1.length:Int))=false:=decide_eq_false c7;clear c7;(first|rw [b5]|(simp only [i64_w,i32_w];rw [b5])|skip);have H':=zqm H;clear H;have c8:wr.cell? ⟨a3,0,none⟩=some (.slice A0_0 l0_0.length c0_0):=(blk_cell a0.out 0).trans rfl;have c9:wr.cell? ⟨a3,1,none⟩=some (.slice A0_1 l0_1.length c0_1):=(blk_cell a0.out 1).trans rfl;have d0:=blk_frozen a0.out 0;have d1:=blk_frozen a0.out 1
     go_wp2
     go_meet
     case rel=>exact⟨_,(false),(by first|rfl|(simp;done)|(simp [*];done)),H',⟨by have:=b9.out;first|omega|exact Nat.le_refl _⟩,⟨zq32⟩,⟨zq2⟩,⟨zq18⟩⟩
   case rest=>
    clear d3;(try clear p2);(try clear c5);(try clear c7);(try clear b5);(try clear c8);(try clear c9);(try clear d4);(try clear d5);(try clear d0);(try clear d1);(try clear d6);(try clear d7);(try clear p2);obtain⟨kq,b6,rfl,HA,c3,HO_5,a0,HB⟩:=hcut
    cases kq with
    |zero=>exact absurd HA.out (by simp [spec_ClearOf.j1])
    |succ a7=>
     have H:=HA.out;clear HA;simp only [spec_ClearOf.j1] at H
     by_cases c4:b6=true
     ·subst c4;(have H1:((spec_ProjectOf.f a7 l0_0 l0_1 a1 a2).bind fun a8=>((spec_NoOf.f a7 l0_0 l0_1).bind fun a6=>(if a8=a6 then(if a4.length<17592186044416 then(spec_ClearOf.l0 a7 a1 (a4 ++ [a2]) (wrap64 (a2+1)) l0_0 l0_1) else(none)) else(spec_ClearOf.l0 a7 a1 a4 (wrap64 (a2+1)) l0_0 l0_1))))=some r:=by rw [if_pos rfl] at H;exact H);clear H;have H:=H1;clear H1;replace H:=Option.bind_eq_some_iff.mp H;obtain⟨a8,d8,H⟩:=H;replace H:((spec_NoOf.f a7 l0_0 l0_1).bind fun a6=>(if a8=a6 then(if a4.length<17592186044416 then(spec_ClearOf.l0 a7 a1 (a4 ++ [a2]) (wrap64 (a2+1)) l0_0 l0_1) else(none)) else(spec_ClearOf.l0 a7 a1 a4 (wrap64 (a2+1)) l0_0 l0_1)))=some r:=H;have e8:=zqm d8;clear d8;replace H:=Option.bind_eq_some_iff.mp H;obtain⟨a6,d9,H⟩:=H;replace H:(if a8=a6 then(if a4.length<17592186044416 then(spec_ClearOf.l0 a7 a1 (a4 ++ [a2]) (wrap64 (a2+1)) l0_0 l0_1) else(none)) else(spec_ClearOf.l0 a7 a1 a4 (wrap64 (a2+1)) l0_0 l0_1))=some r:=H;have e9:=zqm d9;clear d9
      by_cases b8:a8=a6
      ·rw [if_pos b8] at H;have e2:(a8==a6)=true:=beq_iff_eq.mpr b8;have e3:(a8 !=a6)=false:=bne_eq_false_iff_eq.mpr b8;clear b8
       by_cases c6:a4.length<17592186044416
       ·rw [if_pos c6] at H;have LMc16:=zqm c6;clear c6;obtain⟨e0,b4⟩: ∃y_:List Int,y_=(a4 ++ [a2]):=⟨_,rfl⟩;(replace H:(spec_ClearOf.l0 a7 a1 e0 (wrap64 (a2+1)) l0_0 l0_1)=some r:=by first|(rw [b4];with_reducible exact H)|(have b7:=(Option.bind_some _ _).symm.trans H;rw [b4];with_reducible exact b7)|(have b7:=(Option.bind_some _ _).symm.trans H;with_reducible exact b7)|with_reducible exact H|(rw [b4];exact H)|exact H);have e4:=zqm b4;clear b4;have H':=zqm H;clear H;(try go_wp2);replace HO_5:=zqm (Kd.R_drew HO_5.out);replace a0:=zqm (blk_drew a0.out);replace HB:=zqm (below_drew1 HB.out);refine start_ (n:=7) (S:=fun w'=>w'.cell? ⟨a3,0,none⟩=some (.slice A0_0 l0_0.length c0_0)∧w'.cell? ⟨a3,1,none⟩=some (.slice A0_1 l0_1.length c0_1)) (ds:= []) (zqb 7 0) zqk rfl rfl ⟨(blk_cell a0.out 0).trans rfl,(blk_cell a0.out 1).trans rfl⟩ (fun hHeld=>?_);generalize wc.drew=f5 at HO_5 a0 HB hHeld ⊢;refine pure_ (i:=1) (N:=some 22) (v:=?_) (a':=?_) (zqb 7 2) rfl rfl zqk (fun _ _ _ h=>h) (Or.inl ⟨by rfl,?_⟩) ?_ ?_;rotate_left
        ·exact zqt
        rotate_left
        ·exact zqs
        refine pure_ (i:=2) (N:=some 23) (v:=?_) (a':=?_) (zqb 7 6) rfl rfl zqk (fun _ _ _ h=>h) (Or.inl ⟨by rfl,?_⟩) ?_ ?_;rotate_left
        ·exact zqt
        rotate_left
        ·exact zqs
        refine take_ (i:=0) (N:=some 21) (v:=?_) (a':=?_) (zqb 7 7) rfl rfl zqk (fun _ _ _ h=>h) (Or.inl ⟨by rfl,?_⟩) hHeld ?_ ?_;rotate_left
        ·rintro w' ⟨s0,s1⟩;go_simp;with_reducible rfl
        rotate_left
        ·exact zqs
        refine take_ (i:=4) (N:=some 25) (v:=?_) (a':=?_) (zqb 7 23) rfl rfl zqk (fun _ _ _ h=>h) (Or.inl ⟨by rfl,?_⟩) hHeld ?_ ?_;rotate_left
        ·rintro w' ⟨s0,s1⟩;go_simp;with_reducible rfl
        rotate_left
        ·exact zqs
        refine one_ (i:=3) (N:=some 24) (zqb 7 31) rfl rfl zqk (by decide) (fun K hK=>?_);refine goes_ Try.func21 zqk rfl #[.agg #[.slice A0_0 l0_0.length c0_0,.slice A0_1 l0_1.length c0_1],.int .i64 a1,.int .i64 a2] (by rfl) rfl rfl zq1 ?_;(with_reducible refine(spec_ProjectOf.calls a7 _ _ l0_0 _ _ l0_1 a1 a2 a8 _ ?side1 ?side2 ?side3 ?side4 e8.out).mono ?_);(case side1=> exact zq57);(case side2=>exact b0.out);(case side3=> exact zq42);(case side4=>exact b2.out);rintro e f6 ⟨rfl,hb⟩;refine⟨_,rfl,?_⟩;replace HO_5:=zqm (Kd.R_below zq32 hb);replace a0:=zqm (blk_below (g:=a3) (o:= .cells #[.slice A0_0 l0_0.length c0_0,.slice A0_1 l0_1.length c0_1] 30 (0,0)) zq2 hb);replace HB:=zqm (below_step zq18 hb);clear hb;refine hK.out _ _ ⟨(blk_cell a0.out 0).trans rfl,(blk_cell a0.out 1).trans rfl⟩ (fun hHeld=>?_);clear hK K;refine norm_ (a':=?_) ?_ ?_;rotate_left
        ·show Act.put _ (some 24) _=_;exact zqs
        refine one_ (i:=5) (N:=some 26) (zqb 7 63) rfl rfl zqk (by decide) (fun K hK=>?_);refine goes_ Try.func101 zqk rfl #[.agg #[.slice A0_0 l0_0.length c0_0,.slice A0_1 l0_1.length c0_1]] (by rfl) rfl rfl zq1 ?_;(with_reducible refine(spec_NoOf.calls a7 _ _ l0_0 _ _ l0_1 a6 _ ?side1 ?side2 ?side3 ?side4 e9.out).mono ?_);(case side1=> exact zq57);(case side2=>exact b0.out);(case side3=> exact zq42);(case side4=>exact b2.out);rintro e f7 ⟨rfl,hb⟩;refine⟨_,rfl,?_⟩;replace HO_5:=zqm (Kd.R_below zq32 hb);replace a0:=zqm (blk_below (g:=a3) (o:= .cells #[.slice A0_0 l0_0.length c0_0,.slice A0_1 l0_1.length c0_1] 30 (0,0)) zq2 hb);replace HB:=zqm (below_step zq18 hb);clear hb;refine hK.out _ _ ⟨(blk_cell a0.out 0).trans rfl,(blk_cell a0.out 1).trans rfl⟩ (fun hHeld=>?_);clear hK K;refine norm_ (a':=?_) ?_ ?_;rotate_left
        ·show Act.put _ (some 26) _=_;exact zqs
        refine pure_ (i:=6) (N:=some 27) (v:=?_) (a':=?_) (zqb 7 127) rfl rfl zqk (fun _ _ _ h=>h) (Or.inl ⟨by rfl,?_⟩) ?_ ?_;rotate_left
        ·exact zqt
        rotate_left
        ·exact zqs
        refine done_ zqk ?_;try go_wp2_with (first|((with_reducible refine gate_builtin (b:= .append) (xs:= #[.tmp 28,.tmp 30]) rfl ?_);at_builtin;refine Kd.R_append (Kd.int .i64) (w0:=w) w.heap.size rfl (.tmp 28) (.tmp 30) 28 3 (.int .i64 0) 8 rfl Try.underlying28 info3 rfl (by decide) (by omega) u5 a4 a2 [.int .i64 a2] (fun _=>True) (fun _=>False) rfl rfl ?aP (fun _ hk=>hk.elim) ?aF ?aO ?aB ?aS ?aL ?_;(case aP=>exact rfl);(case aB=>exact zq18);(case aF=>exact(fun _ _=>trivial));(case aO=> exact zq316);(case aS=>exact(below_size zq18));(case aL=>have:=LMc16.out;omega);intro f3 f8 ho hb hg hat;rw [← e4.out] at ho;replace a0:=zqm (blk_grown (g:=a3) (o:= .cells #[.slice A0_0 l0_0.length c0_0,.slice A0_1 l0_1.length c0_1] 30 (0,0)) zq2 hg (Kd.R_ne HO_5.out a0.out (by decide)));replace HB:=zqm (hb);have e5:=zqm (ho);clear HO_5;clear ho hb hg hat))
        go_roundg a7
        (case measure=>have:=b9.out;have:=c3.out;omega);case rel=>exact⟨(e0),(wrap64 (a2+1)),(by first|rfl|(simp;done)|(simp [*];done)),H',⟨by have:=b9.out;have:=c3.out;omega⟩,⟨by(with_reducible repeat(first|apply Kd.R_alloc|apply Kd.R_drewN|apply Kd.R_drew));exact e5.out⟩,⟨zq2⟩,⟨zq18⟩⟩
       ·rw [if_neg c6] at H;exact absurd H (by simp)
      ·rw [if_neg b8] at H;have e2:(a8==a6)=false:=beq_eq_false_iff_ne.mpr b8;have e3:(a8 !=a6)=true:=bne_iff_ne.mpr b8;have H':=zqm H;clear H;(try go_wp2);replace HO_5:=zqm (Kd.R_drew HO_5.out);replace a0:=zqm (blk_drew a0.out);replace HB:=zqm (below_drew1 HB.out);refine start_ (n:=7) (S:=fun w'=>w'.cell? ⟨a3,0,none⟩=some (.slice A0_0 l0_0.length c0_0)∧w'.cell? ⟨a3,1,none⟩=some (.slice A0_1 l0_1.length c0_1)) (ds:= []) (zqb 7 0) zqk rfl rfl ⟨(blk_cell a0.out 0).trans rfl,(blk_cell a0.out 1).trans rfl⟩ (fun hHeld=>?_);generalize wc.drew=f9 at HO_5 a0 HB hHeld ⊢;refine pure_ (i:=1) (N:=some 22) (v:=?_) (a':=?_) (zqb 7 2) rfl rfl zqk (fun _ _ _ h=>h) (Or.inl ⟨by rfl,?_⟩) ?_ ?_;rotate_left
       ·exact zqt
       rotate_left
       ·exact zqs
       refine pure_ (i:=2) (N:=some 23) (v:=?_) (a':=?_) (zqb 7 6) rfl rfl zqk (fun _ _ _ h=>h) (Or.inl ⟨by rfl,?_⟩) ?_ ?_;rotate_left
       ·exact zqt
       rotate_left
       ·exact zqs
       refine take_ (i:=0) (N:=some 21) (v:=?_) (a':=?_) (zqb 7 7) rfl rfl zqk (fun _ _ _ h=>h) (Or.inl ⟨by rfl,?_⟩) hHeld ?_ ?_;rotate_left
       ·rintro w' ⟨s0,s1⟩;go_simp;with_reducible rfl
       rotate_left
       ·exact zqs
       refine take_ (i:=4) (N:=some 25) (v:=?_) (a':=?_) (zqb 7 23) rfl rfl zqk (fun _ _ _ h=>h) (Or.inl ⟨by rfl,?_⟩) hHeld ?_ ?_;rotate_left
       ·rintro w' ⟨s0,s1⟩;go_simp;with_reducible rfl
       rotate_left
       ·exact zqs
       refine one_ (i:=3) (N:=some 24) (zqb 7 31) rfl rfl zqk (by decide) (fun K hK=>?_);refine goes_ Try.func21 zqk rfl #[.agg #[.slice A0_0 l0_0.length c0_0,.slice A0_1 l0_1.length c0_1],.int .i64 a1,.int .i64 a2] (by rfl) rfl rfl zq1 ?_;(with_reducible refine(spec_ProjectOf.calls a7 _ _ l0_0 _ _ l0_1 a1 a2 a8 _ ?side1 ?side2 ?side3 ?side4 e8.out).mono ?_);(case side1=> exact zq57);(case side2=>exact b0.out);(case side3=> exact zq42);(case side4=>exact b2.out);rintro e g0 ⟨rfl,hb⟩;refine⟨_,rfl,?_⟩;replace HO_5:=zqm (Kd.R_below zq32 hb);replace a0:=zqm (blk_below (g:=a3) (o:= .cells #[.slice A0_0 l0_0.length c0_0,.slice A0_1 l0_1.length c0_1] 30 (0,0)) zq2 hb);replace HB:=zqm (below_step zq18 hb);clear hb;refine hK.out _ _ ⟨(blk_cell a0.out 0).trans rfl,(blk_cell a0.out 1).trans rfl⟩ (fun hHeld=>?_);clear hK K;refine norm_ (a':=?_) ?_ ?_;rotate_left
       ·show Act.put _ (some 24) _=_;exact zqs
       refine one_ (i:=5) (N:=some 26) (zqb 7 63) rfl rfl zqk (by decide) (fun K hK=>?_);refine goes_ Try.func101 zqk rfl #[.agg #[.slice A0_0 l0_0.length c0_0,.slice A0_1 l0_1.length c0_1]] (by rfl) rfl rfl zq1 ?_;(with_reducible refine(spec_NoOf.calls a7 _ _ l0_0 _ _ l0_1 a6 _ ?side1 ?side2 ?side3 ?side4 e9.out).mono ?_);(case side1=> exact zq57);(case side2=>exact b0.out);(case side3=> exact zq42);(case side4=>exact b2.out);rintro e g1 ⟨rfl,hb⟩;refine⟨_,rfl,?_⟩;replace HO_5:=zqm (Kd.R_below zq32 hb);replace a0:=zqm (blk_below (g:=a3) (o:= .cells #[.slice A0_0 l0_0.length c0_0,.slice A0_1 l0_1.length c0_1] 30 (0,0)) zq2 hb);replace HB:=zqm (below_step zq18 hb);clear hb;refine hK.out _ _ ⟨(blk_cell a0.out 0).trans rfl,(blk_cell a0.out 1).trans rfl⟩ (fun hHeld=>?_);clear hK K;refine norm_ (a':=?_) ?_ ?_;rotate_left
       ·show Act.put _ (some 26) _=_;exact zqs
       refine pure_ (i:=6) (N:=some 27) (v:=?_) (a':=?_) (zqb 7 127) rfl rfl zqk (fun _ _ _ h=>h) (Or.inl ⟨by rfl,?_⟩) ?_ ?_;rotate_left
       ·exact zqt
       rotate_left
       ·exact zqs
       refine done_ zqk ?_;try go_wp2
       go_roundg a7
       (case measure=>have:=b9.out;have:=c3.out;omega);case rel=>exact⟨(a4),(wrap64 (a2+1)),(by first|rfl|(simp;done)|(simp [*];done)),H',⟨by have:=b9.out;have:=c3.out;omega⟩,⟨zq32⟩,⟨zq2⟩,⟨zq18⟩⟩
     ·replace c4:=Bool.eq_false_iff.mpr c4;subst c4;(have H1:(some a4)=some r:=by rw [if_neg (show¬(false=true) by decide)] at H;exact H);clear H;have H:=H1;clear H1;obtain rfl:=Option.some.inj H
      go_wp2
      go_ret
      exact⟨_,zq11,zq32,zq18⟩
end Go.Proofs.Ytdoomkcgdcfmlaa.Print
end
section
namespace Go.Proofs.Ytdoomkcgdcfmlaa.Print
open Go.RowKit Go.Proofs.YtdoomkcgdcfmlaaW.PrintWords Go.Proofs.YtdoomkcgdcfmlaaW.PrintLast Go.Proofs.YtdoomkcgdcfmlaaW.PrintMore
open Oml
def projI (U : List (List Int)) (N : List Int) (a b : Int) : Int := andI U a (orI U (notI N a) b)
theorem clear_c1 (g : Nat) (U : List (List Int)) (N : List Int) (v : Adr) (w : World) (L : Logic U N) (hV : View w g U N v) (gG gA : Nat) (a b : Int) (ia : In U a) (ib : In U b) (hG : w.heap[gG]? = some (.cells #[.pointer (some ⟨g, 0, none⟩)] 64 (0, 0))) (hA : w.heap[gA]? = some (.cells #[.int .i64 a] 3 (0, 0))) :
    Calls Try.prog 100 #[.int .i64 b,.pointer (some ⟨gG,0,none⟩),.pointer (some ⟨gA,0,none⟩)] w fun e w'=>e= .returned (.bool (projI U N a b==noI U))∧Below w.heap.size w w':=by
  have hu70:=Try.underlying70
  have HV:=Aside0.mk hV
  have HLg:=Aside0.mk L
  have Ia:=Aside0.mk ia
  have Ib:=Aside0.mk ib
  have x0:w.cell? ⟨gG,0,none⟩=some (.pointer (some ⟨g,0,none⟩)):=(blk_cell hG 0).trans rfl
  have x1:w.cell? ⟨gA,0,none⟩=some (.int .i64 a):=(blk_cell hA 0).trans rfl
  have x2:=hV.f4
  clear hV L ia ib hG hA
  unfold projI
  go_enter Try.func100,Try.ntmps100
  go_wp2_with fail
  go_quiet ((go_at_call 79;exact Drawn0.quiet (alg_project.reads g U N v a b _ HLg.out (by repeat(first|exact HV.out|apply View.drewN)) Ia.out Ib.out)))
  go_wp2
  go_ret
  exact⟨rfl,by repeat(first|exact Below.refl _ _|apply pw_below_drewN|apply below_drew1)⟩
def impl_ClearOf.f (l0_0 : List (List Int)) (l0_1 : List Int) (a1 : Int) : Option (List Int) := some (if logicB l0_0 l0_1 = true then (if [a1].all (inR l0_0.length) = true then filI l0_0.length (fun b => projI l0_0 l0_1 a1 b == noI l0_0) else []) else [])
set_option maxHeartbeats 4000000 in
set_option maxRecDepth 100000 in
theorem impl_ClearOf.calls (A0_0 : Option Addr) (c0_0 : Nat) (l0_0 : List (List Int)) (A0_1 : Option Addr) (c0_1 : Nat) (l0_1 : List Int) (a1 : Int) (r : List Int) (w : World) (hr0_0 : Kd.C (Kd.slice 3 (Kd.int .i64)) w A0_0 l0_0.length l0_0) (hc0_0 : l0_0.length ≤ c0_0) (hr0_1 : Kd.C (Kd.int .i64) w A0_1 l0_1.length l0_1) (hc0_1 : l0_1.length ≤ c0_1) (h : impl_ClearOf.f l0_0 l0_1 a1 = some r) :
    Calls Try.prog 56 #[.agg #[.slice A0_0 l0_0.length c0_0,.slice A0_1 l0_1.length c0_1],.int .i64 a1] w fun e w'=> ∃v0_:Value,e= .returned (v0_)∧Kd.R (Kd.int .i64) 3 w' w.heap.size (fun _=>True) v0_ r∧Below w.heap.size w w':=by
  obtain⟨k,hF⟩:=told_facts l0_0
  have hu30:=Try.underlying30
  have hu70:=Try.underlying70
  have HF:=Aside0.mk hF
  have HR0:=Aside0.mk hr0_0
  have HC0:=Aside0.mk hc0_0
  have HR1:=Aside0.mk hr0_1
  have HC1:=Aside0.mk hc0_1
  simp only [impl_ClearOf.f,Option.some.injEq] at h
  clear hr0_0 hc0_0 hr0_1 hc0_1 hF
  cases hL:logicB l0_0 l0_1 with
  | false =>
    rw [hL] at h
    have hr_: []=r:=by simpa using h
    subst hr_
    have HLB:=Aside0.mk hL
    clear h hL
    go_enter Try.func56,Try.ntmps56
    go_wp2_with (first|((with_reducible refine gate_dst (N:=2) rfl ?_);refine box_event ?hg (N:=2) ?hd (cs:= #[.slice A0_0 l0_0.length c0_0,.slice A0_1 l0_1.length c0_1]) (t:=30) ?hr ?_;(case hd=>rfl);(case hg=>rfl);(case hr=>first|(go_simp;done)|(go_simp;rfl));intro gb hg_ w1 hbox hb;have HB:=Aside0.mk hb;have hx0:w1.cell? ⟨gb,0,none⟩=some (.slice A0_0 l0_0.length c0_0):=(blk_cell hbox 0).trans rfl;have hx1:w1.cell? ⟨gb,1,none⟩=some (.slice A0_1 l0_1.length c0_1):=(blk_cell hbox 1).trans rfl;have HX:=Aside0.mk hbox;clear hbox hb hg_)|((with_reducible refine gate_dst (N:=3) rfl ?_);refine box_event ?hg (N:=3) ?hd (cs:= #[.int .i64 a1]) (t:=3) ?hr ?_;(case hd=>rfl);(case hg=>rfl);(case hr=>first|(go_simp;done)|(go_simp;rfl));intro gA hgA_ w1a hboxA hbA;have HB0:=Aside0.mk (below_step HB.out hbA);have HX0:=Aside0.mk (blk_below HX.out hbA);clear HB HX hx0 hx1;have HB:=HB0;have HX:=HX0;clear HB0 HX0;have hx0:w1a.cell? ⟨gb,0,none⟩=some (.slice A0_0 l0_0.length c0_0):=(blk_cell HX.out 0).trans rfl;have hx1:w1a.cell? ⟨gb,1,none⟩=some (.slice A0_1 l0_1.length c0_1):=(blk_cell HX.out 1).trans rfl;have HXA:=Aside0.mk hboxA;clear hboxA hbA hgA_)|(go_at_call 77;(with_reducible refine(told_n k _ _ l0_0 _ _ l0_1 _ ?s1 ?s2 ?s3 ?s4 HF.out HLB.out).mono ?_);(case s1=>exact Kd.C_below HR0.out HB.out);(case s2=>exact HC0.out);(case s3=>exact Kd.C_below HR1.out HB.out);(case s4=>exact HC1.out);rintro e w2 ⟨rfl,hb⟩;have HB2:=Aside0.mk (below_step HB.out hb);have HXA2:=Aside0.mk (blk_below HXA.out hb);have hxA:(w2.alloc (.cells #[.pointer none] 64)).cell? ⟨gA,0,none⟩=some (.int .i64 a1):=(blk_cell (blk_alloc HXA2.out _) 0).trans rfl;clear HXA hb hx0 hx1 HX HB)|(go_at_call 78;(with_reducible refine(knows_nil _ _ _ _).mono ?_);rintro e w3 ⟨rfl,hb⟩;have HB3:=Aside0.mk (below_step zq116 hb);clear hb hxA))
    go_ret
    exact⟨_,rfl,Kd.R_nil _ _ _ _ _,HB3.out⟩
  | true =>
    have HLB:=Aside0.mk hL
    have HLg:=Aside0.mk (logicB_iff.1 hL)
    have HSM:=Aside0.mk (logicB_iff.1 hL).small
    cases hin: [a1].all (inR l0_0.length) with
    | false =>
      rw [hL,hin] at h
      have hr_: []=r:=by simpa using h
      subst hr_
      have HIN:=Aside0.mk hin
      clear h hL hin
      go_enter Try.func56,Try.ntmps56
      go_wp2_with (first|((with_reducible refine gate_dst (N:=2) rfl ?_);refine box_event ?hg (N:=2) ?hd (cs:= #[.slice A0_0 l0_0.length c0_0,.slice A0_1 l0_1.length c0_1]) (t:=30) ?hr ?_;(case hd=>rfl);(case hg=>rfl);(case hr=>first|(go_simp;done)|(go_simp;rfl));intro gb hg_ w1 hbox hb;have HB:=Aside0.mk hb;have hx0:w1.cell? ⟨gb,0,none⟩=some (.slice A0_0 l0_0.length c0_0):=(blk_cell hbox 0).trans rfl;have hx1:w1.cell? ⟨gb,1,none⟩=some (.slice A0_1 l0_1.length c0_1):=(blk_cell hbox 1).trans rfl;have HX:=Aside0.mk hbox;clear hbox hb hg_)|((with_reducible refine gate_dst (N:=3) rfl ?_);refine box_event ?hg (N:=3) ?hd (cs:= #[.int .i64 a1]) (t:=3) ?hr ?_;(case hd=>rfl);(case hg=>rfl);(case hr=>first|(go_simp;done)|(go_simp;rfl));intro gA hgA_ w1a hboxA hbA;have HB0:=Aside0.mk (below_step HB.out hbA);have HX0:=Aside0.mk (blk_below HX.out hbA);clear HB HX hx0 hx1;have HB:=HB0;have HX:=HX0;clear HB0 HX0;have hx0:w1a.cell? ⟨gb,0,none⟩=some (.slice A0_0 l0_0.length c0_0):=(blk_cell HX.out 0).trans rfl;have hx1:w1a.cell? ⟨gb,1,none⟩=some (.slice A0_1 l0_1.length c0_1):=(blk_cell HX.out 1).trans rfl;have HXA:=Aside0.mk hboxA;clear hboxA hbA hgA_)|(go_at_call 77;(with_reducible refine(told_y k _ _ l0_0 _ _ l0_1 _ ?s1 ?s2 ?s3 ?s4 HF.out HLB.out).mono ?_);(case s1=>exact Kd.C_below HR0.out HB.out);(case s2=>exact HC0.out);(case s3=>exact Kd.C_below HR1.out HB.out);(case s4=>exact HC1.out);rintro e w2 ⟨g,v,rfl,hv,hge,hb⟩;have HB2:=Aside0.mk (below_step HB.out hb);have HV:=Aside0.mk hv;have HXA2:=Aside0.mk (blk_below HXA.out hb);have hxA:(w2.alloc (.cells #[.pointer (some ⟨g,0,none⟩)] 64)).cell? ⟨gA,0,none⟩=some (.int .i64 a1):=(blk_cell (blk_alloc HXA2.out _) 0).trans rfl;clear HXA hv hge hb hx0 hx1 HX HB)|(go_at_call 78;(with_reducible refine(knows_calls g l0_0 l0_1 v _ HLg.out ?s1 _ _ [a1] 1 rfl ?s2 (by omega) false HIN.out).mono ?_);(case s1=>exact View.alloc (View.alloc HV.out _) _);(case s2=>exact lit_C2 _ _ _ [a1] (by simp));rintro e w3 ⟨rfl,hb⟩;have HB3:=Aside0.mk (below_step (below_alloc (below_alloc HB2.out _) _) hb);have HV3:=Aside0.mk (View.below (View.alloc (View.alloc HV.out _) _) hb);have HG3:=Aside0.mk (blk_below (blk_alloc (MapKept.heap_alloc w2 (.cells #[.pointer (some ⟨g,0,none⟩)] 64)).1 _) hb);have HXA3:=Aside0.mk (blk_below (blk_alloc (blk_alloc HXA2.out _) _) hb);clear hb hxA))
      go_ret
      exact⟨_,rfl,Kd.R_nil _ _ _ _ _,HB3.out⟩
    | true =>
      rw [hL,hin] at h
      have hr_:filI l0_0.length (fun b=>projI l0_0 l0_1 a1 b==noI l0_0)=r:=by simpa using h
      subst hr_
      have HIN:=Aside0.mk hin
      have hin2:=hin
      simp only [List.all_cons,List.all_nil,Bool.and_true,Bool.and_eq_true,inR_iff] at hin2
      have Ia1:=Aside0.mk (hin2)
      clear h hL hin hin2
      go_enter Try.func56,Try.ntmps56
      go_wp2_with (first|((with_reducible refine gate_dst (N:=2) rfl ?_);refine box_event ?hg (N:=2) ?hd (cs:= #[.slice A0_0 l0_0.length c0_0,.slice A0_1 l0_1.length c0_1]) (t:=30) ?hr ?_;(case hd=>rfl);(case hg=>rfl);(case hr=>first|(go_simp;done)|(go_simp;rfl));intro gb hg_ w1 hbox hb;have HB:=Aside0.mk hb;have hx0:w1.cell? ⟨gb,0,none⟩=some (.slice A0_0 l0_0.length c0_0):=(blk_cell hbox 0).trans rfl;have hx1:w1.cell? ⟨gb,1,none⟩=some (.slice A0_1 l0_1.length c0_1):=(blk_cell hbox 1).trans rfl;have HX:=Aside0.mk hbox;clear hbox hb hg_)|((with_reducible refine gate_dst (N:=3) rfl ?_);refine box_event ?hg (N:=3) ?hd (cs:= #[.int .i64 a1]) (t:=3) ?hr ?_;(case hd=>rfl);(case hg=>rfl);(case hr=>first|(go_simp;done)|(go_simp;rfl));intro gA hgA_ w1a hboxA hbA;have HB0:=Aside0.mk (below_step HB.out hbA);have HX0:=Aside0.mk (blk_below HX.out hbA);clear HB HX hx0 hx1;have HB:=HB0;have HX:=HX0;clear HB0 HX0;have hx0:w1a.cell? ⟨gb,0,none⟩=some (.slice A0_0 l0_0.length c0_0):=(blk_cell HX.out 0).trans rfl;have hx1:w1a.cell? ⟨gb,1,none⟩=some (.slice A0_1 l0_1.length c0_1):=(blk_cell HX.out 1).trans rfl;have HXA:=Aside0.mk hboxA;clear hboxA hbA hgA_)|(go_at_call 77;(with_reducible refine(told_y k _ _ l0_0 _ _ l0_1 _ ?s1 ?s2 ?s3 ?s4 HF.out HLB.out).mono ?_);(case s1=>exact Kd.C_below HR0.out HB.out);(case s2=>exact HC0.out);(case s3=>exact Kd.C_below HR1.out HB.out);(case s4=>exact HC1.out);rintro e w2 ⟨g,v,rfl,hv,hge,hb⟩;have HB2:=Aside0.mk (below_step HB.out hb);have HV:=Aside0.mk hv;have HXA2:=Aside0.mk (blk_below HXA.out hb);have hxA:(w2.alloc (.cells #[.pointer (some ⟨g,0,none⟩)] 64)).cell? ⟨gA,0,none⟩=some (.int .i64 a1):=(blk_cell (blk_alloc HXA2.out _) 0).trans rfl;clear HXA hv hge hb hx0 hx1 HX HB)|(go_at_call 78;(with_reducible refine(knows_calls g l0_0 l0_1 v _ HLg.out ?s1 _ _ [a1] 1 rfl ?s2 (by omega) true HIN.out).mono ?_);(case s1=>exact View.alloc (View.alloc HV.out _) _);(case s2=>exact lit_C2 _ _ _ [a1] (by simp));rintro e w3 ⟨rfl,hb⟩;have HB3:=Aside0.mk (below_step (below_alloc (below_alloc HB2.out _) _) hb);have HV3:=Aside0.mk (View.below (View.alloc (View.alloc HV.out _) _) hb);have HG3:=Aside0.mk (blk_below (blk_alloc (MapKept.heap_alloc w2 (.cells #[.pointer (some ⟨g,0,none⟩)] 64)).1 _) hb);have HXA3:=Aside0.mk (blk_below (blk_alloc (blk_alloc HXA2.out _) _) hb);clear hb hxA;have y0_:w3.cell? ⟨w2.heap.size,0,none⟩=some (.pointer (some ⟨g,0,none⟩)):=(blk_cell HG3.out 0).trans rfl)|(go_at_call 91;(with_reducible refine(all_calls g l0_0 l0_1 v _ HSM.out HV3.out 100 _ #[.pointer (some ⟨w2.heap.size,0,none⟩),.pointer (some ⟨gA,0,none⟩)] Try.func100 (by kernel_rfl) rfl (fun b=>projI l0_0 l0_1 a1 b==noI l0_0) ?sT).mono ?_);(case sT=>exact fun b hb W hW=>clear_c1 g l0_0 l0_1 v W HLg.out (HV3.out.below hW) w2.heap.size gA a1 b Ia1.out ⟨by omega,by omega⟩ (blk_below HG3.out hW) (blk_below HXA3.out hW));rintro e w8 ⟨vo,rfl,ho,hb⟩;have HO8:=Aside0.mk (Kd.R_lower ho (below_size HB3.out));have HB8:=Aside0.mk (below_step HB3.out hb);clear ho hb y0_))
      go_ret
      exact⟨_,rfl,HO8.out,zq426⟩
end Go.Proofs.Ytdoomkcgdcfmlaa.Print
end
section
namespace Go.Proofs.Ytdoomkcgdcfmlaa.Print
open Go.RowKit Go.Proofs.YtdoomkcgdcfmlaaW.PrintWords Go.Proofs.YtdoomkcgdcfmlaaW.PrintLast Go.Proofs.YtdoomkcgdcfmlaaW.PrintMore
def laws_FnClearOf.l0 : Nat → Int → List Int → Int → List (List Int) → List Int → Option (Bool)
 | 0, _, _, _, _, _ => none
 | k + 1, x4, x5, x6, x980000, x980001 => if x6 < (x980001.length : Int) then ((spec_KeepsOk.f k x980000 x980001).bind fun t991 => (if t991 = true then ((laws_hasInt.f k x5 x6).bind fun t992 => ((impl_ApartOk.f x980000 x980001 x6 x4).bind fun t993 => (if (t992 != t993) = true then (some false) else (laws_FnClearOf.l0 k x4 x5 (wrap64 (x6 + 1)) x980000 x980001)))) else (laws_FnClearOf.l0 k x4 x5 (wrap64 (x6 + 1)) x980000 x980001))) else ((laws_ascend.f k x5).bind fun t988 => (if t988 = true then ((impl_NoOf.f x980000 x980001).bind fun t989 => ((laws_hasInt.f k x5 t989).bind fun t990 => (some t990))) else (some false)))
def laws_FnClearOf.f (k : Nat) (l0 : List Int) : Option (Bool) := if (l0.length : Int) > 1048576 then (some true) else ((spec_DrawClearOf.f k l0).bind fun bt972 => ((impl_ClearOf.f bt972.1 bt972.2.1 bt972.2.2).bind fun t980 => ((spec_ClearOf.f k bt972.1 bt972.2.1 bt972.2.2).bind fun t983 => ((laws_sameInts.f k t980 t983).bind fun t986 => (if t986 = true then (if (t980.length : Int) = 0 then ((laws_alive.f k).bind fun t987 => (some t987)) else (laws_FnClearOf.l0 k bt972.2.2 t980 0 bt972.1 bt972.2.1)) else (some false))))))
def laws_FnClearOf.T12 : Bool × List (List Nat × List Nat) := (true, [([], []), ([0], [0]), ([1, 1], [1]), ([2], [2]), ([2], [2]), ([3, 4, 2, 2], [2, 3, 4]), ([2], [2]), ([2], [2]), ([2], [2]), ([6, 7, 8, 5, 2], [2, 6, 7, 8]), ([5, 9, 2], [2, 5, 9]), ([2, 10], [2, 10])])
def laws_FnClearOf.B12 : List Nat := [0, 1, 3, 7, 7, 31, 7, 7, 7, 511, 1023, 2047]
theorem laws_FnClearOf.tab12 : rtab .any (opsOf Try.f11 12) = laws_FnClearOf.T12 := by kernel_rfl
theorem laws_FnClearOf.bits12 : waitsOk laws_FnClearOf.T12.2 laws_FnClearOf.B12 = true := by kernel_rfl
set_option maxHeartbeats 8000000 in
set_option maxRecDepth 100000 in
theorem laws_FnClearOf.calls (k : Nat) (A0 : Option Addr) (c0 : Nat) (l0 : List Int) (r : Bool) (w : World) (hr0 : Kd.C (Kd.int .u8) w A0 l0.length l0) (hc0 : l0.length ≤ c0) (h : laws_FnClearOf.f k l0 = some r) :
  Calls Try.prog 11 #[.slice A0 l0.length c0] w fun e w' => e = .returned (.bool r) ∧ Below w.heap.size w w' := by
 have hu30:=Try.underlying30;have g7:=zqm hr0;have g8:=zqm hc0;clear hr0 hc0;have HB:=zqm (Below.refl w.heap.size w);have H:(if(l0.length:Int)>1048576 then(some true) else((spec_DrawClearOf.f k l0).bind fun d5=>((impl_ClearOf.f d5.1 d5.2.1 d5.2.2).bind fun a5=>((spec_ClearOf.f k d5.1 d5.2.1 d5.2.2).bind fun b8=>((laws_sameInts.f k a5 b8).bind fun d8=>(if d8=true then(if(a5.length:Int)=0 then((laws_alive.f k).bind fun c3=>(some c3)) else(laws_FnClearOf.l0 k d5.2.2 a5 0 d5.1 d5.2.1)) else(some false)))))))=some r:=h;clear h
 by_cases c2:(l0.length:Int)>1048576
 ·rw [if_pos c2] at H;have g9:decide (1048576<(l0.length:Int))=true:=decide_eq_true c2;have h0:decide (1048576<l0.length)=true:=decide_eq_true (by omega);clear c2;obtain rfl:=Option.some.inj H
  go_enter Try.func11,Try.ntmps11
  go_wp2
  go_ret
  exact⟨zq11,zq0⟩
 ·rw [if_neg c2] at H;have g9:decide (1048576<(l0.length:Int))=false:=decide_eq_false c2;have h0:decide (1048576<l0.length)=false:=decide_eq_false (by omega);clear c2;replace H:=Option.bind_eq_some_iff.mp H;obtain⟨⟨a3,a2,a7⟩,j0,H⟩:=H;replace H:((impl_ClearOf.f a3 a2 a7).bind fun a5=>((spec_ClearOf.f k a3 a2 a7).bind fun b8=>((laws_sameInts.f k a5 b8).bind fun d8=>(if d8=true then(if(a5.length:Int)=0 then((laws_alive.f k).bind fun c3=>(some c3)) else(laws_FnClearOf.l0 k a7 a5 0 a3 a2)) else(some false)))))=some r:=H;have A3:=zqm j0;clear j0;replace H:=Option.bind_eq_some_iff.mp H;obtain⟨a5,j1,H⟩:=H;replace H:((spec_ClearOf.f k a3 a2 a7).bind fun b8=>((laws_sameInts.f k a5 b8).bind fun d8=>(if d8=true then(if(a5.length:Int)=0 then((laws_alive.f k).bind fun c3=>(some c3)) else(laws_FnClearOf.l0 k a7 a5 0 a3 a2)) else(some false))))=some r:=H;have A4:=zqm j1;clear j1;replace H:=Option.bind_eq_some_iff.mp H;obtain⟨b8,e6,H⟩:=H;replace H:((laws_sameInts.f k a5 b8).bind fun d8=>(if d8=true then(if(a5.length:Int)=0 then((laws_alive.f k).bind fun c3=>(some c3)) else(laws_FnClearOf.l0 k a7 a5 0 a3 a2)) else(some false)))=some r:=H;have A5:=zqm e6;clear e6;replace H:=Option.bind_eq_some_iff.mp H;obtain⟨d8,j2,H⟩:=H;replace H:(if d8=true then(if(a5.length:Int)=0 then((laws_alive.f k).bind fun c3=>(some c3)) else(laws_FnClearOf.l0 k a7 a5 0 a3 a2)) else(some false))=some r:=H;have A6:=zqm j2;clear j2
  by_cases c7:d8=true
  ·subst c7;(have H1:(if(a5.length:Int)=0 then((laws_alive.f k).bind fun c3=>(some c3)) else(laws_FnClearOf.l0 k a7 a5 0 a3 a2))=some r:=by rw [if_pos rfl] at H;exact H);clear H;have H:=H1;clear H1
   by_cases c8:(a5.length:Int)=0
   ·rw [if_pos c8] at H;have h1:((a5.length:Int)==0)=true:=beq_iff_eq.mpr c8;have h2:((a5.length:Int) !=0)=false:=bne_eq_false_iff_eq.mpr c8;clear c8;replace H:=Option.bind_eq_some_iff.mp H;obtain⟨c3,j3,H⟩:=H;replace H:(some c3)=some r:=H;have A9:=zqm j3;clear j3;obtain rfl:=Option.some.inj H
    go_enter Try.func11,Try.ntmps11
    go_wp2_with (first|((with_reducible refine gate_callee (f:=55) rfl ?_);refine goesL_ (some 12) rfl rfl Try.func55 zqk rfl #[.slice A0 l0.length c0] rfl zq1 ?_;(with_reducible refine(spec_DrawClearOf.calls k _ _ l0 a3 a2 a7 _ ?side1 ?side2 A3.out).mono ?_);(case side1=> exact zq309);(case side2=>exact g8.out);rintro e p9 ⟨h3,h4,rfl,b4,e4,hb⟩;refine⟨_,rfl,?_⟩;have a6:=zqm (Kd.S_lower b4 (below_size zq0));have a4:=zqm (Kd.Q_lower e4 (below_size zq0));replace HB:=zqm (below_step zq0 hb);clear hb b4 e4)|((with_reducible refine gate_dst (N:=3) rfl ?_);refine box_event ?hg (N:=3) ?hd (cs:= #[.slice none 0 0,.slice none 0 0]) (t:=30) ?hr ?_;(case hd=>rfl);(case hg=>rfl);(case hr=>first|(go_simp;done)|(go_simp;rfl));intro a1 hg j4 hbox hb;replace a6:=zqm (Kd.S_below zq76 hb);replace a4:=zqm (Kd.Q_below zq28 hb);have c9:=zqm (below_step zq0 hb);have a0:=zqm (hbox);have e7:=zqm ((by rw [hg];exact(below_size zq0):w.heap.size≤a1));have a8:=zqm ((by rw [hg];exact(below_size zq0):w.heap.size≤a1));clear HB;have HB:=c9;clear c9 hb hbox hg;obtain⟨d1,c4,k4⟩:=Kd.S_slice a6.out;subst k4;have f1:j4.cell? ⟨a1,0,none⟩=some (.slice none 0 0):=(blk_cell a0.out 0).trans rfl;have f2:j4.cell? ⟨a1,1,none⟩=some (.slice none 0 0):=(blk_cell a0.out 1).trans rfl;have f3:=blk_frozen a0.out 0;have f4:=blk_frozen a0.out 1;obtain⟨d2,c6,k5,_⟩:=Kd.Q_slice a4.out;subst k5)|((with_reducible refine gate_callee (f:=56) rfl ?_);refine goesL_ (some 17) rfl rfl Try.func56 zqk rfl #[.agg #[.slice d1 a3.length c4,.slice d2 a2.length c6],.int .i64 a7] rfl zq1 ?_;(with_reducible refine(impl_ClearOf.calls _ _ a3 _ _ a2 a7 a5 _ ?side1 ?side2 ?side3 ?side4 A4.out).mono ?_);(case side1=>refine(Kd.S_reads' (e:=28) (base:=w.heap.size) (ok:=fun k_=>some k_≠(.slice d2 a2.length c6:Value).ownBlock) (n:=a3.length) (c:=c4) ?_).2.2;exact zq248);(case side2=>exact(Kd.S_reads' a6.out).2.1);(case side3=>refine(Kd.Q_reads' (e:=3) (base:=w.heap.size) (ok:=fun k_=>True) (n:=a2.length) (c:=c6) ?_).2.2;exact zq146);(case side4=>exact(Kd.Q_reads' a4.out).2.1);rintro e j5 ⟨h5,rfl,b4,hb⟩;refine⟨_,rfl,?_⟩;replace a6:=zqm (Kd.S_elder' zq248 (Kd.R_base b4) hb);have d0:=zqm (Kd.Q_elder' zq146 (Kd.R_base b4) hb);have b2:=zqm (Kd.R_lower (Kd.R_new' b4 (Kd.Q_lt zq146)) (below_size zq9));replace a0:=zqm (blk_below (g:=a1) (o:= .cells #[.slice d1 a3.length c4,.slice d2 a2.length c6] 30 (0,0)) (by(with_reducible repeat(first|refine blk_drewN ?_ _|refine blk_drew ?_|refine blk_alloc ?_ _));refine blk_put (cs:= #[.slice d1 a3.length c4,.slice none 0 0]) ?_ 1 _ rfl;(with_reducible repeat(first|refine blk_drewN ?_ _|refine blk_drew ?_|refine blk_alloc ?_ _));refine blk_put (cs:= #[.slice none 0 0,.slice none 0 0]) ?_ 0 _ rfl;(with_reducible repeat(first|refine blk_drewN ?_ _|refine blk_drew ?_|refine blk_alloc ?_ _));exact a0.out) hb);replace HB:=zqm (below_step zq9 hb);clear a4;have a4:=d0;clear d0 hb b4;have f5:j5.cell? ⟨a1,0,none⟩=some (.slice d1 a3.length c4):=(blk_cell a0.out 0).trans rfl;have f6:j5.cell? ⟨a1,1,none⟩=some (.slice d2 a2.length c6):=(blk_cell a0.out 1).trans rfl;have f7:=blk_frozen a0.out 0;have f8:=blk_frozen a0.out 1)|((with_reducible refine gate_callee (f:=57) rfl ?_);refine goesL_ (some 21) rfl rfl Try.func57 zqk rfl #[.agg #[.slice d1 a3.length c4,.slice d2 a2.length c6],.int .i64 a7] rfl zq1 ?_;(with_reducible refine(spec_ClearOf.calls k _ _ a3 _ _ a2 a7 b8 _ ?side1 ?side2 ?side3 ?side4 A5.out).mono ?_);(case side1=> exact zq119);(case side2=>exact(Kd.S_reads' a6.out).2.1);(case side3=> exact zq27);(case side4=>exact(Kd.Q_reads' a4.out).2.1);rintro e q0 ⟨h6,rfl,b4,hb⟩;refine⟨_,rfl,?_⟩;replace a6:=zqm (Kd.S_elder' zq76 (Kd.R_base b4) hb);have d0:=zqm (Kd.Q_elder' zq28 (Kd.R_base b4) hb);have c9:=zqm (Kd.R_elder' zq173 (Kd.R_base b4) hb);have b7:=zqm (Kd.R_lower (Kd.R_new' (Kd.R_new' b4 (Kd.Q_lt zq28)) (Kd.R_lt zq173)) (below_size zq9));replace a0:=zqm (blk_below (g:=a1) (o:= .cells #[.slice d1 a3.length c4,.slice d2 a2.length c6] 30 (0,0)) zq2 hb);replace HB:=zqm (below_step zq9 hb);clear a4 b2;have a4:=d0;have b2:=c9;clear d0 c9 hb b4;obtain⟨k6,k7,k8⟩:=Kd.R_slice b2.out;subst k8;obtain⟨k9,l1,l2⟩:=Kd.R_slice b7.out;subst l2)|((with_reducible refine gate_callee (f:=52) rfl ?_);refine goesL_ (some 22) rfl rfl Try.func52 zqk rfl #[.slice k6 a5.length k7,.slice k9 b8.length l1] rfl zq1 ?_;(with_reducible refine(laws_sameInts.calls k _ _ a5 _ _ b8 true _ ?side1 ?side2 ?side3 ?side4 A6.out).mono ?_);(case side1=> exact zq297);(case side2=>exact(Kd.R_reads' b2.out).2.1);(case side3=> exact zq295);(case side4=>exact(Kd.R_reads' b7.out).2.1);rintro e w' ⟨rfl,⟨nd,rfl⟩⟩;refine⟨_,rfl,?_⟩)|((with_reducible refine gate_callee (f:=18) rfl ?_);refine goesL_ (some 27) rfl rfl Try.func18 zqk rfl #[] rfl zq1 ?_;(with_reducible refine(laws_alive.calls k c3 _ A9.out).mono ?_);rintro e q1 ⟨rfl,hb⟩;refine⟨_,rfl,?_⟩;replace a6:=zqm (Kd.S_below zq76 hb);replace a4:=zqm (Kd.Q_below zq28 hb);replace b2:=zqm (Kd.R_below zq173 hb);replace b7:=zqm (Kd.R_below zq140 hb);replace a0:=zqm (blk_below (g:=a1) (o:= .cells #[.slice d1 a3.length c4,.slice d2 a2.length c6] 30 (0,0)) zq2 hb);replace HB:=zqm (below_step zq9 hb);clear hb))
    go_ret
    exact⟨zq11,zq9⟩
   ·rw [if_neg c8] at H;have h1:((a5.length:Int)==0)=false:=beq_eq_false_iff_ne.mpr c8;have h2:((a5.length:Int) !=0)=true:=bne_iff_ne.mpr c8;have l3: ¬(a5= []):=fun h_=>c8 (by rw [h_];rfl);have H':=zqm H;clear H
    go_enter Try.func11,Try.ntmps11
    go_wp2_with (first|((with_reducible refine gate_callee (f:=55) rfl ?_);refine goesL_ (some 12) rfl rfl Try.func55 zqk rfl #[.slice A0 l0.length c0] rfl zq1 ?_;(with_reducible refine(spec_DrawClearOf.calls k _ _ l0 a3 a2 a7 _ ?side1 ?side2 A3.out).mono ?_);(case side1=> exact zq309);(case side2=>exact g8.out);rintro e q2 ⟨h3,h4,rfl,b4,e4,hb⟩;refine⟨_,rfl,?_⟩;have a6:=zqm (Kd.S_lower b4 (below_size zq0));have a4:=zqm (Kd.Q_lower e4 (below_size zq0));replace HB:=zqm (below_step zq0 hb);clear hb b4 e4)|((with_reducible refine gate_dst (N:=3) rfl ?_);refine box_event ?hg (N:=3) ?hd (cs:= #[.slice none 0 0,.slice none 0 0]) (t:=30) ?hr ?_;(case hd=>rfl);(case hg=>rfl);(case hr=>first|(go_simp;done)|(go_simp;rfl));intro a1 hg j6 hbox hb;replace a6:=zqm (Kd.S_below zq76 hb);replace a4:=zqm (Kd.Q_below zq28 hb);have c9:=zqm (below_step zq0 hb);have a0:=zqm (hbox);have e7:=zqm ((by rw [hg];exact(below_size zq0):w.heap.size≤a1));have a8:=zqm ((by rw [hg];exact(below_size zq0):w.heap.size≤a1));clear HB;have HB:=c9;clear c9 hb hbox hg;obtain⟨b3,b1,l4⟩:=Kd.S_slice a6.out;subst l4;have f9:j6.cell? ⟨a1,0,none⟩=some (.slice none 0 0):=(blk_cell a0.out 0).trans rfl;have g0:j6.cell? ⟨a1,1,none⟩=some (.slice none 0 0):=(blk_cell a0.out 1).trans rfl;have g1:=blk_frozen a0.out 0;have g2:=blk_frozen a0.out 1;obtain⟨b0,a9,l5,_⟩:=Kd.Q_slice a4.out;subst l5)|((with_reducible refine gate_callee (f:=56) rfl ?_);refine goesL_ (some 17) rfl rfl Try.func56 zqk rfl #[.agg #[.slice b3 a3.length b1,.slice b0 a2.length a9],.int .i64 a7] rfl zq1 ?_;(with_reducible refine(impl_ClearOf.calls _ _ a3 _ _ a2 a7 a5 _ ?side1 ?side2 ?side3 ?side4 A4.out).mono ?_);(case side1=>refine(Kd.S_reads' (e:=28) (base:=w.heap.size) (ok:=fun k_=>some k_≠(.slice b0 a2.length a9:Value).ownBlock) (n:=a3.length) (c:=b1) ?_).2.2;exact zq196);(case side2=>exact(Kd.S_reads' a6.out).2.1);(case side3=>refine(Kd.Q_reads' (e:=3) (base:=w.heap.size) (ok:=fun k_=>True) (n:=a2.length) (c:=a9) ?_).2.2;exact zq143);(case side4=>exact(Kd.Q_reads' a4.out).2.1);rintro e j7 ⟨h5,rfl,b4,hb⟩;refine⟨_,rfl,?_⟩;replace a6:=zqm (Kd.S_elder' zq196 (Kd.R_base b4) hb);have d0:=zqm (Kd.Q_elder' zq143 (Kd.R_base b4) hb);have b2:=zqm (Kd.R_lower (Kd.R_new' b4 (Kd.Q_lt zq143)) (below_size zq9));replace a0:=zqm (blk_below (g:=a1) (o:= .cells #[.slice b3 a3.length b1,.slice b0 a2.length a9] 30 (0,0)) (by(with_reducible repeat(first|refine blk_drewN ?_ _|refine blk_drew ?_|refine blk_alloc ?_ _));refine blk_put (cs:= #[.slice b3 a3.length b1,.slice none 0 0]) ?_ 1 _ rfl;(with_reducible repeat(first|refine blk_drewN ?_ _|refine blk_drew ?_|refine blk_alloc ?_ _));refine blk_put (cs:= #[.slice none 0 0,.slice none 0 0]) ?_ 0 _ rfl;(with_reducible repeat(first|refine blk_drewN ?_ _|refine blk_drew ?_|refine blk_alloc ?_ _));exact a0.out) hb);replace HB:=zqm (below_step zq9 hb);clear a4;have a4:=d0;clear d0 hb b4;have g3:j7.cell? ⟨a1,0,none⟩=some (.slice b3 a3.length b1):=(blk_cell a0.out 0).trans rfl;have g4:j7.cell? ⟨a1,1,none⟩=some (.slice b0 a2.length a9):=(blk_cell a0.out 1).trans rfl;have g5:=blk_frozen a0.out 0;have g6:=blk_frozen a0.out 1)|((with_reducible refine gate_callee (f:=57) rfl ?_);refine goesL_ (some 21) rfl rfl Try.func57 zqk rfl #[.agg #[.slice b3 a3.length b1,.slice b0 a2.length a9],.int .i64 a7] rfl zq1 ?_;(with_reducible refine(spec_ClearOf.calls k _ _ a3 _ _ a2 a7 b8 _ ?side1 ?side2 ?side3 ?side4 A5.out).mono ?_);(case side1=> exact zq119);(case side2=>exact(Kd.S_reads' a6.out).2.1);(case side3=> exact zq27);(case side4=>exact(Kd.Q_reads' a4.out).2.1);rintro e q3 ⟨h6,rfl,b4,hb⟩;refine⟨_,rfl,?_⟩;replace a6:=zqm (Kd.S_elder' zq76 (Kd.R_base b4) hb);have d0:=zqm (Kd.Q_elder' zq28 (Kd.R_base b4) hb);have c9:=zqm (Kd.R_elder' zq173 (Kd.R_base b4) hb);have b7:=zqm (Kd.R_lower (Kd.R_new' (Kd.R_new' b4 (Kd.Q_lt zq28)) (Kd.R_lt zq173)) (below_size zq9));replace a0:=zqm (blk_below (g:=a1) (o:= .cells #[.slice b3 a3.length b1,.slice b0 a2.length a9] 30 (0,0)) zq2 hb);replace HB:=zqm (below_step zq9 hb);clear a4 b2;have a4:=d0;have b2:=c9;clear d0 c9 hb b4;obtain⟨d9,e0,l6⟩:=Kd.R_slice b2.out;subst l6;obtain⟨l7,l8,l9⟩:=Kd.R_slice b7.out;subst l9)|((with_reducible refine gate_callee (f:=52) rfl ?_);refine goesL_ (some 22) rfl rfl Try.func52 zqk rfl #[.slice d9 a5.length e0,.slice l7 b8.length l8] rfl zq1 ?_;(with_reducible refine(laws_sameInts.calls k _ _ a5 _ _ b8 true _ ?side1 ?side2 ?side3 ?side4 A6.out).mono ?_);(case side1=> exact zq297);(case side2=>exact(Kd.R_reads' b2.out).2.1);(case side3=> exact zq295);(case side4=>exact(Kd.R_reads' b7.out).2.1);rintro e w' ⟨rfl,⟨nd,rfl⟩⟩;refine⟨_,rfl,?_⟩))
    go_loopg [6] k (fun kq v6 w'=> ∃(b5:Int),v6= .int .i64 b5∧Aside0 (laws_FnClearOf.l0 kq a7 a5 b5 a3 a2=some r)∧Aside0 (kq≤k)∧Aside0 (Kd.R (Kd.int .i64) 3 w' w.heap.size (fun k_=>some k_≠((.slice b0 a2.length a9):Value).ownBlock) (.slice d9 a5.length e0) a5)∧Aside0 (Kd.S (Kd.slice 3 (Kd.int .i64)) 28 w' w.heap.size (fun k_=>some k_≠((.slice d9 a5.length e0):Value).ownBlock∧some k_≠((.slice b0 a2.length a9):Value).ownBlock) (.slice b3 a3.length b1) a3)∧Aside0 (Kd.Q (Kd.int .i64) 3 w' w.heap.size (fun k_=>some k_≠((.slice d9 a5.length e0):Value).ownBlock) (.slice b0 a2.length a9) a2)∧Aside0 (w'.heap[a1]? =some (.cells #[(.slice b3 a3.length b1),(.slice b0 a2.length a9)] 30 (0,0)))∧Aside0 (Below w.heap.size w w'))
    case atStart=>exact⟨(0),(by first|rfl|(simp;done)|(simp [*];done)),H',⟨Nat.le_refl _⟩,⟨by(with_reducible repeat(first|apply Kd.R_alloc|apply Kd.R_drewN|apply Kd.R_drew));exact Kd.R_mono b2.out (fun _ hk=>hk.1.2)⟩,⟨by(with_reducible repeat(first|apply Kd.S_alloc|apply Kd.S_drewN|apply Kd.S_drew));exact Kd.S_mono a6.out (fun _ hk=>⟨hk.1.2,hk.1.1⟩)⟩,⟨by(with_reducible repeat(first|apply Kd.Q_alloc|apply Kd.Q_drewN|apply Kd.Q_drew));exact Kd.Q_mono a4.out (fun _ hk=>hk.1.2)⟩,⟨zq2⟩,⟨zq9⟩⟩
    case round=>
     clear H';(try clear c1);(try clear c2);(try clear g9);(try clear h0);(try clear p2);(try clear c5);(try clear c7);(try clear c8);(try clear h1);(try clear h2);(try clear l3);(try clear q4);(try clear q5);(try clear f1);(try clear f2);(try clear f5);(try clear f6);(try clear f9);(try clear g0);(try clear g3);(try clear g4);(try clear f3);(try clear f4);(try clear f7);(try clear f8);(try clear g1);(try clear g2);(try clear g5);(try clear g6);obtain⟨b5,rfl,HA,e8,HO_5,HO_980000,HO_980001,a0,HB⟩:=hrel
     cases gk with
     |zero=>exact absurd HA.out (by simp [laws_FnClearOf.l0])
     |succ k1=>
      have H:=HA.out;clear HA;simp only [laws_FnClearOf.l0] at H
      by_cases e5:b5<(a2.length:Int)
      ·rw [if_pos e5] at H;have i6:decide (b5<(a2.length:Int))=true:=decide_eq_true e5;clear e5;replace H:=Option.bind_eq_some_iff.mp H;obtain⟨h7,h8,H⟩:=H;replace H:(if h7=true then((laws_hasInt.f k1 a5 b5).bind fun b9=>((impl_ApartOk.f a3 a2 b5 a7).bind fun b6=>(if(b9 !=b6)=true then(some false) else(laws_FnClearOf.l0 k1 a7 a5 (wrap64 (b5+1)) a3 a2)))) else(laws_FnClearOf.l0 k1 a7 a5 (wrap64 (b5+1)) a3 a2))=some r:=H;have h9:=zqm h8;clear h8
       by_cases e9:h7=true
       ·subst e9;(have H1:((laws_hasInt.f k1 a5 b5).bind fun b9=>((impl_ApartOk.f a3 a2 b5 a7).bind fun b6=>(if(b9 !=b6)=true then(some false) else(laws_FnClearOf.l0 k1 a7 a5 (wrap64 (b5+1)) a3 a2))))=some r:=by rw [if_pos rfl] at H;exact H);clear H;have H:=H1;clear H1;replace H:=Option.bind_eq_some_iff.mp H;obtain⟨b9,i0,H⟩:=H;replace H:((impl_ApartOk.f a3 a2 b5 a7).bind fun b6=>(if(b9 !=b6)=true then(some false) else(laws_FnClearOf.l0 k1 a7 a5 (wrap64 (b5+1)) a3 a2)))=some r:=H;have j8:=zqm i0;clear i0;replace H:=Option.bind_eq_some_iff.mp H;obtain⟨b6,i1,H⟩:=H;replace H:(if(b9 !=b6)=true then(some false) else(laws_FnClearOf.l0 k1 a7 a5 (wrap64 (b5+1)) a3 a2))=some r:=H;have j9:=zqm i1;clear i1
        by_cases e1:(b9 !=b6)=true
        ·rw [if_pos e1] at H;have i7:(b9 !=b6)=true:=e1;(try(have i8:decide (b9=b6)=false:=by simpa using e1));(try(have i9:(b9==b6)=false:=by simpa using e1));(try(have p8: ¬(b9=b6):=by simpa using e1));clear e1;obtain rfl:=Option.some.inj H;have m8:wr.cell? ⟨a1,0,none⟩=some (.slice b3 a3.length b1):=(blk_cell a0.out 0).trans rfl;have m9:wr.cell? ⟨a1,1,none⟩=some (.slice b0 a2.length a9):=(blk_cell a0.out 1).trans rfl;have n0:=blk_frozen a0.out 0;have n1:=blk_frozen a0.out 1;(try go_wp2);replace HO_5:=zqm (Kd.R_drew HO_5.out);replace HO_980000:=zqm (Kd.S_drew HO_980000.out);replace HO_980001:=zqm (Kd.Q_drew HO_980001.out);replace a0:=zqm (blk_drew a0.out);replace HB:=zqm (below_drew1 HB.out);refine start_ (n:=12) (S:=fun w'=>w'.cell? ⟨a1,0,none⟩=some (.slice b3 a3.length b1)∧w'.cell? ⟨a1,1,none⟩=some (.slice b0 a2.length a9)) (ds:= []) (zqb 12 0) zqk rfl rfl ⟨(blk_cell a0.out 0).trans rfl,(blk_cell a0.out 1).trans rfl⟩ (fun hHeld=>?_);refine with_tabW laws_FnClearOf.tab12 laws_FnClearOf.bits12 (fun HT_ HW_=>?_);generalize wr.drew=q6 at HO_5 HO_980000 HO_980001 a0 HB hHeld ⊢;refine take_ (i:=0) (N:=some 35) (v:=?_) (a':=?_) (zqb 12 1) rfl rfl (take_ofW HT_.out HW_.out zqk) (fun _ _ _ h=>h) (Or.inl ⟨by rfl,?_⟩) hHeld ?_ ?_;rotate_left
         ·rintro w' ⟨s0,s1⟩;go_simp;with_reducible rfl
         rotate_left
         ·exact zqs
         refine one_ (i:=1) (N:=some 36) (zqb 12 3) rfl rfl (one_of HT_.out zqk) (by decide) (fun K hK=>?_);refine goes_ Try.func22 zqk rfl #[.agg #[.slice b3 a3.length b1,.slice b0 a2.length a9]] (by rfl) rfl rfl zq1 ?_;(with_reducible refine(spec_KeepsOk.calls k1 _ _ a3 _ _ a2 true _ ?side1 ?side2 ?side3 ?side4 h9.out).mono ?_);(case side1=> exact zq124);(case side2=>exact(Kd.S_reads' HO_980000.out).2.1);(case side3=> exact zq123);(case side4=>exact(Kd.Q_reads' HO_980001.out).2.1);rintro e q7 ⟨rfl,hb⟩;refine⟨_,rfl,?_⟩;replace HO_5:=zqm (Kd.R_below zq32 hb);replace HO_980000:=zqm (Kd.S_below zq158 hb);replace HO_980001:=zqm (Kd.Q_below zq156 hb);replace a0:=zqm (blk_below (g:=a1) (o:= .cells #[.slice b3 a3.length b1,.slice b0 a2.length a9] 30 (0,0)) zq2 hb);replace HB:=zqm (below_step zq9 hb);clear hb;refine hK.out _ _ ⟨(blk_cell a0.out 0).trans rfl,(blk_cell a0.out 1).trans rfl⟩ (fun hHeld=>?_);clear hK K;refine norm_ (a':=?_) ?_ ?_;rotate_left
         ·show Act.put _ (some 36) _=_;exact zqs
         refine pure_ (i:=2) (N:=some 37) (v:=?_) (a':=?_) (zqb 12 7) rfl rfl (any_of HT_.out zqk) (fun _ _ _ h=>h) (Or.inl ⟨by rfl,?_⟩) ?_ ?_;rotate_left
         ·exact zqt
         rotate_left
         ·exact zqs
         refine pure_ (i:=3) (N:=some 38) (v:=?_) (a':=?_) (zqb 12 15) rfl rfl (any_of HT_.out zqk) (fun _ _ _ h=>h) (Or.inl ⟨by rfl,?_⟩) ?_ ?_;rotate_left
         ·exact zqt
         rotate_left
         ·exact zqs
         refine pure_ (i:=4) (N:=some 39) (v:=?_) (a':=?_) (zqb 12 31) rfl rfl (any_of HT_.out zqk) (fun _ _ _ h=>h) (Or.inl ⟨by rfl,?_⟩) ?_ ?_;rotate_left
         ·exact zqt
         rotate_left
         ·exact zqs
         refine pure_ (i:=7) (N:=some 42) (v:=?_) (a':=?_) (zqb 12 159) rfl rfl (any_of HT_.out zqk) (fun _ _ _ h=>h) (Or.inl ⟨by rfl,?_⟩) ?_ ?_;rotate_left
         ·exact zqt
         rotate_left
         ·exact zqs
         refine pure_ (i:=8) (N:=some 43) (v:=?_) (a':=?_) (zqb 12 415) rfl rfl (any_of HT_.out zqk) (fun _ _ _ h=>h) (Or.inl ⟨by rfl,?_⟩) ?_ ?_;rotate_left
         ·exact zqt
         rotate_left
         ·exact zqs
         refine take_ (i:=6) (N:=some 41) (v:=?_) (a':=?_) (zqb 12 479) rfl rfl (take_ofW HT_.out HW_.out zqk) (fun _ _ _ h=>h) (Or.inl ⟨by rfl,?_⟩) hHeld ?_ ?_;rotate_left
         ·rintro w' ⟨s0,s1⟩;go_simp;with_reducible rfl
         rotate_left
         ·exact zqs
         refine one_ (i:=5) (N:=some 40) (zqb 12 511) rfl rfl (one_of HT_.out zqk) (by decide) (fun K hK=>?_);refine goes_ Try.func48 zqk rfl #[.slice d9 a5.length e0,.int .i64 b5] (by rfl) rfl rfl zq1 ?_;(with_reducible refine(laws_hasInt.calls k1 _ _ a5 b5 b9 _ ?side1 ?side2 j8.out).mono ?_);(case side1=> exact zq154);(case side2=>exact(Kd.R_reads' HO_5.out).2.1);rintro e w' ⟨rfl,⟨nd,rfl⟩⟩;refine⟨_,rfl,?_⟩;refine hK.out _ _ ⟨(blk_cell a0.out 0).trans rfl,(blk_cell a0.out 1).trans rfl⟩ (fun hHeld=>?_);clear hK K;refine norm_ (a':=?_) ?_ ?_;rotate_left
         ·show Act.put _ (some 40) _=_;exact zqs
         refine one_ (i:=9) (N:=some 44) (zqb 12 1023) rfl rfl (one_of HT_.out zqk) (by decide) (fun K hK=>?_);refine goes_ Try.func28 zqk rfl #[.agg #[.slice b3 a3.length b1,.slice b0 a2.length a9],.int .i64 b5,.int .i64 a7] (by rfl) rfl rfl zq1 ?_;(with_reducible refine(impl_ApartOk.calls _ _ a3 _ _ a2 b5 a7 b6 _ ?side1 ?side2 ?side3 ?side4 j9.out).mono ?_);(case side1=> exact zq124);(case side2=>exact(Kd.S_reads' HO_980000.out).2.1);(case side3=> exact zq123);(case side4=>exact(Kd.Q_reads' HO_980001.out).2.1);rintro e q8 ⟨rfl,hb⟩;refine⟨_,rfl,?_⟩;replace HO_5:=zqm (Kd.R_below zq32 hb);replace HO_980000:=zqm (Kd.S_below zq158 hb);replace HO_980001:=zqm (Kd.Q_below zq156 hb);replace a0:=zqm (blk_below (g:=a1) (o:= .cells #[.slice b3 a3.length b1,.slice b0 a2.length a9] 30 (0,0)) zq2 hb);replace HB:=zqm (below_step zq9 hb);clear hb;refine hK.out _ _ ⟨(blk_cell a0.out 0).trans rfl,(blk_cell a0.out 1).trans rfl⟩ (fun hHeld=>?_);clear hK K;refine norm_ (a':=?_) ?_ ?_;rotate_left
         ·show Act.put _ (some 44) _=_;exact zqs
         refine pure_ (i:=10) (N:=some 45) (v:=?_) (a':=?_) (zqb 12 2047) rfl rfl (any_of HT_.out zqk) (fun _ _ _ h=>h) (Or.inl ⟨by rfl,?_⟩) ?_ ?_;rotate_left
         ·exact zqt
         rotate_left
         ·exact zqs
         refine pure_ (i:=11) (N:=some 46) (v:=?_) (a':=?_) (zqb 12 4095) rfl rfl (any_of HT_.out zqk) (fun _ _ _ h=>h) (Or.inl ⟨by rfl,?_⟩) ?_ ?_;rotate_left
         ·exact zqt
         rotate_left
         ·exact zqs
         refine done_ (done_of HT_.out zqk) ?_;try go_wp2
         go_ret
         exact⟨zq11,zq9⟩
        ·rw [if_neg e1] at H;(have i7:(b9 !=b6)=false:=by simpa using e1);(try(have i8:decide (b9=b6)=true:=by simpa using e1));(try(have i9:(b9==b6)=true:=by simpa using e1));clear e1;have H':=zqm H;clear H;have n2:wr.cell? ⟨a1,0,none⟩=some (.slice b3 a3.length b1):=(blk_cell a0.out 0).trans rfl;have n3:wr.cell? ⟨a1,1,none⟩=some (.slice b0 a2.length a9):=(blk_cell a0.out 1).trans rfl;have n4:=blk_frozen a0.out 0;have n5:=blk_frozen a0.out 1;(try go_wp2);replace HO_5:=zqm (Kd.R_drew HO_5.out);replace HO_980000:=zqm (Kd.S_drew HO_980000.out);replace HO_980001:=zqm (Kd.Q_drew HO_980001.out);replace a0:=zqm (blk_drew a0.out);replace HB:=zqm (below_drew1 HB.out);refine start_ (n:=12) (S:=fun w'=>w'.cell? ⟨a1,0,none⟩=some (.slice b3 a3.length b1)∧w'.cell? ⟨a1,1,none⟩=some (.slice b0 a2.length a9)) (ds:= []) (zqb 12 0) zqk rfl rfl ⟨(blk_cell a0.out 0).trans rfl,(blk_cell a0.out 1).trans rfl⟩ (fun hHeld=>?_);refine with_tabW laws_FnClearOf.tab12 laws_FnClearOf.bits12 (fun HT_ HW_=>?_);generalize wr.drew=q9 at HO_5 HO_980000 HO_980001 a0 HB hHeld ⊢;refine take_ (i:=0) (N:=some 35) (v:=?_) (a':=?_) (zqb 12 1) rfl rfl (take_ofW HT_.out HW_.out zqk) (fun _ _ _ h=>h) (Or.inl ⟨by rfl,?_⟩) hHeld ?_ ?_;rotate_left
         ·rintro w' ⟨s0,s1⟩;go_simp;with_reducible rfl
         rotate_left
         ·exact zqs
         refine one_ (i:=1) (N:=some 36) (zqb 12 3) rfl rfl (one_of HT_.out zqk) (by decide) (fun K hK=>?_);refine goes_ Try.func22 zqk rfl #[.agg #[.slice b3 a3.length b1,.slice b0 a2.length a9]] (by rfl) rfl rfl zq1 ?_;(with_reducible refine(spec_KeepsOk.calls k1 _ _ a3 _ _ a2 true _ ?side1 ?side2 ?side3 ?side4 h9.out).mono ?_);(case side1=> exact zq124);(case side2=>exact(Kd.S_reads' HO_980000.out).2.1);(case side3=> exact zq123);(case side4=>exact(Kd.Q_reads' HO_980001.out).2.1);rintro e r0 ⟨rfl,hb⟩;refine⟨_,rfl,?_⟩;replace HO_5:=zqm (Kd.R_below zq32 hb);replace HO_980000:=zqm (Kd.S_below zq158 hb);replace HO_980001:=zqm (Kd.Q_below zq156 hb);replace a0:=zqm (blk_below (g:=a1) (o:= .cells #[.slice b3 a3.length b1,.slice b0 a2.length a9] 30 (0,0)) zq2 hb);replace HB:=zqm (below_step zq9 hb);clear hb;refine hK.out _ _ ⟨(blk_cell a0.out 0).trans rfl,(blk_cell a0.out 1).trans rfl⟩ (fun hHeld=>?_);clear hK K;refine norm_ (a':=?_) ?_ ?_;rotate_left
         ·show Act.put _ (some 36) _=_;exact zqs
         refine pure_ (i:=2) (N:=some 37) (v:=?_) (a':=?_) (zqb 12 7) rfl rfl (any_of HT_.out zqk) (fun _ _ _ h=>h) (Or.inl ⟨by rfl,?_⟩) ?_ ?_;rotate_left
         ·exact zqt
         rotate_left
         ·exact zqs
         refine pure_ (i:=3) (N:=some 38) (v:=?_) (a':=?_) (zqb 12 15) rfl rfl (any_of HT_.out zqk) (fun _ _ _ h=>h) (Or.inl ⟨by rfl,?_⟩) ?_ ?_;rotate_left
         ·exact zqt
         rotate_left
         ·exact zqs
         refine pure_ (i:=4) (N:=some 39) (v:=?_) (a':=?_) (zqb 12 31) rfl rfl (any_of HT_.out zqk) (fun _ _ _ h=>h) (Or.inl ⟨by rfl,?_⟩) ?_ ?_;rotate_left
         ·exact zqt
         rotate_left
         ·exact zqs
         refine pure_ (i:=7) (N:=some 42) (v:=?_) (a':=?_) (zqb 12 159) rfl rfl (any_of HT_.out zqk) (fun _ _ _ h=>h) (Or.inl ⟨by rfl,?_⟩) ?_ ?_;rotate_left
         ·exact zqt
         rotate_left
         ·exact zqs
         refine pure_ (i:=8) (N:=some 43) (v:=?_) (a':=?_) (zqb 12 415) rfl rfl (any_of HT_.out zqk) (fun _ _ _ h=>h) (Or.inl ⟨by rfl,?_⟩) ?_ ?_;rotate_left
         ·exact zqt
         rotate_left
         ·exact zqs
         refine take_ (i:=6) (N:=some 41) (v:=?_) (a':=?_) (zqb 12 479) rfl rfl (take_ofW HT_.out HW_.out zqk) (fun _ _ _ h=>h) (Or.inl ⟨by rfl,?_⟩) hHeld ?_ ?_;rotate_left
         ·rintro w' ⟨s0,s1⟩;go_simp;with_reducible rfl
         rotate_left
         ·exact zqs
         refine one_ (i:=5) (N:=some 40) (zqb 12 511) rfl rfl (one_of HT_.out zqk) (by decide) (fun K hK=>?_);refine goes_ Try.func48 zqk rfl #[.slice d9 a5.length e0,.int .i64 b5] (by rfl) rfl rfl zq1 ?_;(with_reducible refine(laws_hasInt.calls k1 _ _ a5 b5 b9 _ ?side1 ?side2 j8.out).mono ?_);(case side1=> exact zq154);(case side2=>exact(Kd.R_reads' HO_5.out).2.1);rintro e w' ⟨rfl,⟨nd,rfl⟩⟩;refine⟨_,rfl,?_⟩;refine hK.out _ _ ⟨(blk_cell a0.out 0).trans rfl,(blk_cell a0.out 1).trans rfl⟩ (fun hHeld=>?_);clear hK K;refine norm_ (a':=?_) ?_ ?_;rotate_left
         ·show Act.put _ (some 40) _=_;exact zqs
         refine one_ (i:=9) (N:=some 44) (zqb 12 1023) rfl rfl (one_of HT_.out zqk) (by decide) (fun K hK=>?_);refine goes_ Try.func28 zqk rfl #[.agg #[.slice b3 a3.length b1,.slice b0 a2.length a9],.int .i64 b5,.int .i64 a7] (by rfl) rfl rfl zq1 ?_;(with_reducible refine(impl_ApartOk.calls _ _ a3 _ _ a2 b5 a7 b6 _ ?side1 ?side2 ?side3 ?side4 j9.out).mono ?_);(case side1=> exact zq124);(case side2=>exact(Kd.S_reads' HO_980000.out).2.1);(case side3=> exact zq123);(case side4=>exact(Kd.Q_reads' HO_980001.out).2.1);rintro e r1 ⟨rfl,hb⟩;refine⟨_,rfl,?_⟩;replace HO_5:=zqm (Kd.R_below zq32 hb);replace HO_980000:=zqm (Kd.S_below zq158 hb);replace HO_980001:=zqm (Kd.Q_below zq156 hb);replace a0:=zqm (blk_below (g:=a1) (o:= .cells #[.slice b3 a3.length b1,.slice b0 a2.length a9] 30 (0,0)) zq2 hb);replace HB:=zqm (below_step zq9 hb);clear hb;refine hK.out _ _ ⟨(blk_cell a0.out 0).trans rfl,(blk_cell a0.out 1).trans rfl⟩ (fun hHeld=>?_);clear hK K;refine norm_ (a':=?_) ?_ ?_;rotate_left
         ·show Act.put _ (some 44) _=_;exact zqs
         refine pure_ (i:=10) (N:=some 45) (v:=?_) (a':=?_) (zqb 12 2047) rfl rfl (any_of HT_.out zqk) (fun _ _ _ h=>h) (Or.inl ⟨by rfl,?_⟩) ?_ ?_;rotate_left
         ·exact zqt
         rotate_left
         ·exact zqs
         refine pure_ (i:=11) (N:=some 46) (v:=?_) (a':=?_) (zqb 12 4095) rfl rfl (any_of HT_.out zqk) (fun _ _ _ h=>h) (Or.inl ⟨by rfl,?_⟩) ?_ ?_;rotate_left
         ·exact zqt
         rotate_left
         ·exact zqs
         refine done_ (done_of HT_.out zqk) ?_;try go_wp2
         go_roundg k1
         (case measure=>have:=e8.out;omega);case rel=>exact⟨(wrap64 (b5+1)),(by first|rfl|(simp;done)|(simp [*];done)),H',⟨by have:=e8.out;omega⟩,⟨zq32⟩,⟨zq158⟩,⟨zq156⟩,⟨zq2⟩,⟨zq9⟩⟩
       ·replace e9:=Bool.eq_false_iff.mpr e9;subst e9;(have H1:(laws_FnClearOf.l0 k1 a7 a5 (wrap64 (b5+1)) a3 a2)=some r:=by rw [if_neg (show¬(false=true) by decide)] at H;exact H);clear H;have H:=H1;clear H1;have H':=zqm H;clear H;have n6:wr.cell? ⟨a1,0,none⟩=some (.slice b3 a3.length b1):=(blk_cell a0.out 0).trans rfl;have n7:wr.cell? ⟨a1,1,none⟩=some (.slice b0 a2.length a9):=(blk_cell a0.out 1).trans rfl;have n8:=blk_frozen a0.out 0;have n9:=blk_frozen a0.out 1;(try go_wp2);replace HO_5:=zqm (Kd.R_drew HO_5.out);replace HO_980000:=zqm (Kd.S_drew HO_980000.out);replace HO_980001:=zqm (Kd.Q_drew HO_980001.out);replace a0:=zqm (blk_drew a0.out);replace HB:=zqm (below_drew1 HB.out);refine start_ (n:=12) (S:=fun w'=>w'.cell? ⟨a1,0,none⟩=some (.slice b3 a3.length b1)∧w'.cell? ⟨a1,1,none⟩=some (.slice b0 a2.length a9)) (ds:= []) (zqb 12 0) zqk rfl rfl ⟨(blk_cell a0.out 0).trans rfl,(blk_cell a0.out 1).trans rfl⟩ (fun hHeld=>?_);refine with_tabW laws_FnClearOf.tab12 laws_FnClearOf.bits12 (fun HT_ HW_=>?_);generalize wr.drew=r2 at HO_5 HO_980000 HO_980001 a0 HB hHeld ⊢;refine take_ (i:=0) (N:=some 35) (v:=?_) (a':=?_) (zqb 12 1) rfl rfl (take_ofW HT_.out HW_.out zqk) (fun _ _ _ h=>h) (Or.inl ⟨by rfl,?_⟩) hHeld ?_ ?_;rotate_left
        ·rintro w' ⟨s0,s1⟩;go_simp;with_reducible rfl
        rotate_left
        ·exact zqs
        refine one_ (i:=1) (N:=some 36) (zqb 12 3) rfl rfl (one_of HT_.out zqk) (by decide) (fun K hK=>?_);refine goes_ Try.func22 zqk rfl #[.agg #[.slice b3 a3.length b1,.slice b0 a2.length a9]] (by rfl) rfl rfl zq1 ?_;(with_reducible refine(spec_KeepsOk.calls k1 _ _ a3 _ _ a2 false _ ?side1 ?side2 ?side3 ?side4 h9.out).mono ?_);(case side1=> exact zq124);(case side2=>exact(Kd.S_reads' HO_980000.out).2.1);(case side3=> exact zq123);(case side4=>exact(Kd.Q_reads' HO_980001.out).2.1);rintro e r3 ⟨rfl,hb⟩;refine⟨_,rfl,?_⟩;replace HO_5:=zqm (Kd.R_below zq32 hb);replace HO_980000:=zqm (Kd.S_below zq158 hb);replace HO_980001:=zqm (Kd.Q_below zq156 hb);replace a0:=zqm (blk_below (g:=a1) (o:= .cells #[.slice b3 a3.length b1,.slice b0 a2.length a9] 30 (0,0)) zq2 hb);replace HB:=zqm (below_step zq9 hb);clear hb;refine hK.out _ _ ⟨(blk_cell a0.out 0).trans rfl,(blk_cell a0.out 1).trans rfl⟩ (fun hHeld=>?_);clear hK K;refine norm_ (a':=?_) ?_ ?_;rotate_left
        ·show Act.put _ (some 36) _=_;exact zqs
        refine pure_ (i:=2) (N:=some 37) (v:=?_) (a':=?_) (zqb 12 7) rfl rfl (any_of HT_.out zqk) (fun _ _ _ h=>h) (Or.inl ⟨by rfl,?_⟩) ?_ ?_;rotate_left
        ·exact zqt
        rotate_left
        ·exact zqs
        refine pure_ (i:=3) (N:=some 38) (v:=undef) (a':=?_) (zqb 12 15) rfl rfl (any_of HT_.out zqk) (fun _ _ _ h=>h) (Or.inr ⟨by rfl,rfl⟩) ?_ ?_;rotate_left
        ·exact zqs
        refine pure_ (i:=4) (N:=some 39) (v:=undef) (a':=?_) (zqb 12 31) rfl rfl (any_of HT_.out zqk) (fun _ _ _ h=>h) (Or.inr ⟨by rfl,rfl⟩) ?_ ?_;rotate_left
        ·exact zqs
        refine pure_ (i:=5) (N:=some 40) (v:=undef) (a':=?_) (zqb 12 63) rfl rfl (any_of HT_.out zqk) (fun _ _ _ h=>h) (Or.inr ⟨by rfl,rfl⟩) ?_ ?_;rotate_left
        ·exact zqs
        refine pure_ (i:=6) (N:=some 41) (v:=undef) (a':=?_) (zqb 12 127) rfl rfl (any_of HT_.out zqk) (fun _ _ _ h=>h) (Or.inr ⟨by rfl,rfl⟩) ?_ ?_;rotate_left
        ·exact zqs
        refine pure_ (i:=7) (N:=some 42) (v:=undef) (a':=?_) (zqb 12 255) rfl rfl (any_of HT_.out zqk) (fun _ _ _ h=>h) (Or.inr ⟨by rfl,rfl⟩) ?_ ?_;rotate_left
        ·exact zqs
        refine pure_ (i:=8) (N:=some 43) (v:=undef) (a':=?_) (zqb 12 511) rfl rfl (any_of HT_.out zqk) (fun _ _ _ h=>h) (Or.inr ⟨by rfl,rfl⟩) ?_ ?_;rotate_left
        ·exact zqs
        refine pure_ (i:=9) (N:=some 44) (v:=undef) (a':=?_) (zqb 12 1023) rfl rfl (any_of HT_.out zqk) (fun _ _ _ h=>h) (Or.inr ⟨by rfl,rfl⟩) ?_ ?_;rotate_left
        ·exact zqs
        refine pure_ (i:=10) (N:=some 45) (v:=undef) (a':=?_) (zqb 12 2047) rfl rfl (any_of HT_.out zqk) (fun _ _ _ h=>h) (Or.inr ⟨by rfl,rfl⟩) ?_ ?_;rotate_left
        ·exact zqs
        refine pure_ (i:=11) (N:=some 46) (v:=?_) (a':=?_) (zqb 12 4095) rfl rfl (any_of HT_.out zqk) (fun _ _ _ h=>h) (Or.inl ⟨by rfl,?_⟩) ?_ ?_;rotate_left
        ·exact zqt
        rotate_left
        ·exact zqs
        refine done_ (done_of HT_.out zqk) ?_;try go_wp2
        go_roundg k1
        (case measure=>have:=e8.out;omega);case rel=>exact⟨(wrap64 (b5+1)),(by first|rfl|(simp;done)|(simp [*];done)),H',⟨by have:=e8.out;omega⟩,⟨zq32⟩,⟨zq158⟩,⟨zq156⟩,⟨zq2⟩,⟨zq9⟩⟩
      ·rw [if_neg e5] at H;have i6:decide (b5<(a2.length:Int))=false:=decide_eq_false e5;clear e5;replace H:=Option.bind_eq_some_iff.mp H;obtain⟨i2,i3,H⟩:=H;replace H:(if i2=true then((impl_NoOf.f a3 a2).bind fun e3=>((laws_hasInt.f k1 a5 e3).bind fun e2=>(some e2))) else(some false))=some r:=H;have k0:=zqm i3;clear i3
       by_cases f0:i2=true
       ·subst f0;(have H1:((impl_NoOf.f a3 a2).bind fun e3=>((laws_hasInt.f k1 a5 e3).bind fun e2=>(some e2)))=some r:=by rw [if_pos rfl] at H;exact H);clear H;have H:=H1;clear H1;replace H:=Option.bind_eq_some_iff.mp H;obtain⟨e3,i4,H⟩:=H;replace H:((laws_hasInt.f k1 a5 e3).bind fun e2=>(some e2))=some r:=H;have e6:=zqm i4;clear i4;replace H:=Option.bind_eq_some_iff.mp H;obtain⟨e2,i5,H⟩:=H;replace H:(some e2)=some r:=H;have p7:=zqm i5;clear i5;obtain rfl:=Option.some.inj H;have o0:wr.cell? ⟨a1,0,none⟩=some (.slice b3 a3.length b1):=(blk_cell a0.out 0).trans rfl;have o1:wr.cell? ⟨a1,1,none⟩=some (.slice b0 a2.length a9):=(blk_cell a0.out 1).trans rfl;have o2:=blk_frozen a0.out 0;have o3:=blk_frozen a0.out 1
        go_wp2_with (first|((with_reducible refine gate_callee (f:=54) rfl ?_);refine goesL_ (some 48) rfl rfl Try.func54 zqk rfl #[.slice d9 a5.length e0] rfl zq1 ?_;(with_reducible refine(laws_ascend.calls k1 _ _ a5 true _ ?side1 ?side2 k0.out).mono ?_);(case side1=> exact zq154);(case side2=>exact(Kd.R_reads' HO_5.out).2.1);rintro e w' ⟨rfl,⟨nd,rfl⟩⟩;refine⟨_,rfl,?_⟩)|(go_at_call 47;(with_reducible refine(impl_NoOf.calls _ _ a3 _ _ a2 e3 _ ?side1 ?side2 ?side3 ?side4 e6.out).mono ?_);(case side1=> exact zq124);(case side2=>exact(Kd.S_reads' HO_980000.out).2.1);(case side3=> exact zq123);(case side4=>exact(Kd.Q_reads' HO_980001.out).2.1);rintro e r4 ⟨rfl,hb⟩;replace HO_5:=zqm (Kd.R_below zq32 hb);replace HO_980000:=zqm (Kd.S_below zq158 hb);replace HO_980001:=zqm (Kd.Q_below zq156 hb);replace a0:=zqm (blk_below (g:=a1) (o:= .cells #[.slice b3 a3.length b1,.slice b0 a2.length a9] 30 (0,0)) zq2 hb);replace HB:=zqm (below_step zq9 hb);clear hb)|(go_at_call 48;(with_reducible refine(laws_hasInt.calls k1 _ _ a5 e3 e2 _ ?side1 ?side2 p7.out).mono ?_);(case side1=> exact zq154);(case side2=>exact(Kd.R_reads' HO_5.out).2.1);rintro e w' ⟨rfl,⟨nd,rfl⟩⟩))
        go_ret
        exact⟨zq11,zq9⟩
       ·replace f0:=Bool.eq_false_iff.mpr f0;subst f0;(have H1:(some false)=some r:=by rw [if_neg (show¬(false=true) by decide)] at H;exact H);clear H;have H:=H1;clear H1;obtain rfl:=Option.some.inj H;have o4:wr.cell? ⟨a1,0,none⟩=some (.slice b3 a3.length b1):=(blk_cell a0.out 0).trans rfl;have o5:wr.cell? ⟨a1,1,none⟩=some (.slice b0 a2.length a9):=(blk_cell a0.out 1).trans rfl;have o6:=blk_frozen a0.out 0;have o7:=blk_frozen a0.out 1
        go_wp2_with (first|((with_reducible refine gate_callee (f:=54) rfl ?_);refine goesL_ (some 48) rfl rfl Try.func54 zqk rfl #[.slice d9 a5.length e0] rfl zq1 ?_;(with_reducible refine(laws_ascend.calls k1 _ _ a5 false _ ?side1 ?side2 k0.out).mono ?_);(case side1=> exact zq154);(case side2=>exact(Kd.R_reads' HO_5.out).2.1);rintro e w' ⟨rfl,⟨nd,rfl⟩⟩;refine⟨_,rfl,?_⟩))
        go_ret
        exact⟨zq11,zq9⟩
  ·replace c7:=Bool.eq_false_iff.mpr c7;subst c7;(have H1:(some false)=some r:=by rw [if_neg (show¬(false=true) by decide)] at H;exact H);clear H;have H:=H1;clear H1;obtain rfl:=Option.some.inj H
   go_enter Try.func11,Try.ntmps11
   go_wp2_with (first|((with_reducible refine gate_callee (f:=55) rfl ?_);refine goesL_ (some 12) rfl rfl Try.func55 zqk rfl #[.slice A0 l0.length c0] rfl zq1 ?_;(with_reducible refine(spec_DrawClearOf.calls k _ _ l0 a3 a2 a7 _ ?side1 ?side2 A3.out).mono ?_);(case side1=> exact zq309);(case side2=>exact g8.out);rintro e r5 ⟨h3,h4,rfl,b4,e4,hb⟩;refine⟨_,rfl,?_⟩;have a6:=zqm (Kd.S_lower b4 (below_size zq0));have a4:=zqm (Kd.Q_lower e4 (below_size zq0));replace HB:=zqm (below_step zq0 hb);clear hb b4 e4)|((with_reducible refine gate_dst (N:=3) rfl ?_);refine box_event ?hg (N:=3) ?hd (cs:= #[.slice none 0 0,.slice none 0 0]) (t:=30) ?hr ?_;(case hd=>rfl);(case hg=>rfl);(case hr=>first|(go_simp;done)|(go_simp;rfl));intro a1 hg k2 hbox hb;replace a6:=zqm (Kd.S_below zq76 hb);replace a4:=zqm (Kd.Q_below zq28 hb);have c9:=zqm (below_step zq0 hb);have a0:=zqm (hbox);have e7:=zqm ((by rw [hg];exact(below_size zq0):w.heap.size≤a1));have a8:=zqm ((by rw [hg];exact(below_size zq0):w.heap.size≤a1));clear HB;have HB:=c9;clear c9 hb hbox hg;obtain⟨d6,d3,m0⟩:=Kd.S_slice a6.out;subst m0;have o8:k2.cell? ⟨a1,0,none⟩=some (.slice none 0 0):=(blk_cell a0.out 0).trans rfl;have o9:k2.cell? ⟨a1,1,none⟩=some (.slice none 0 0):=(blk_cell a0.out 1).trans rfl;have p0:=blk_frozen a0.out 0;have p1:=blk_frozen a0.out 1;obtain⟨d7,d4,m1,_⟩:=Kd.Q_slice a4.out;subst m1)|((with_reducible refine gate_callee (f:=56) rfl ?_);refine goesL_ (some 17) rfl rfl Try.func56 zqk rfl #[.agg #[.slice d6 a3.length d3,.slice d7 a2.length d4],.int .i64 a7] rfl zq1 ?_;(with_reducible refine(impl_ClearOf.calls _ _ a3 _ _ a2 a7 a5 _ ?side1 ?side2 ?side3 ?side4 A4.out).mono ?_);(case side1=>refine(Kd.S_reads' (e:=28) (base:=w.heap.size) (ok:=fun k_=>some k_≠(.slice d7 a2.length d4:Value).ownBlock) (n:=a3.length) (c:=d3) ?_).2.2;exact zq202);(case side2=>exact(Kd.S_reads' a6.out).2.1);(case side3=>refine(Kd.Q_reads' (e:=3) (base:=w.heap.size) (ok:=fun k_=>True) (n:=a2.length) (c:=d4) ?_).2.2;exact zq144);(case side4=>exact(Kd.Q_reads' a4.out).2.1);rintro e k3 ⟨h5,rfl,b4,hb⟩;refine⟨_,rfl,?_⟩;replace a6:=zqm (Kd.S_elder' zq202 (Kd.R_base b4) hb);have d0:=zqm (Kd.Q_elder' zq144 (Kd.R_base b4) hb);have b2:=zqm (Kd.R_lower (Kd.R_new' b4 (Kd.Q_lt zq144)) (below_size zq9));replace a0:=zqm (blk_below (g:=a1) (o:= .cells #[.slice d6 a3.length d3,.slice d7 a2.length d4] 30 (0,0)) (by(with_reducible repeat(first|refine blk_drewN ?_ _|refine blk_drew ?_|refine blk_alloc ?_ _));refine blk_put (cs:= #[.slice d6 a3.length d3,.slice none 0 0]) ?_ 1 _ rfl;(with_reducible repeat(first|refine blk_drewN ?_ _|refine blk_drew ?_|refine blk_alloc ?_ _));refine blk_put (cs:= #[.slice none 0 0,.slice none 0 0]) ?_ 0 _ rfl;(with_reducible repeat(first|refine blk_drewN ?_ _|refine blk_drew ?_|refine blk_alloc ?_ _));exact a0.out) hb);replace HB:=zqm (below_step zq9 hb);clear a4;have a4:=d0;clear d0 hb b4;have p3:k3.cell? ⟨a1,0,none⟩=some (.slice d6 a3.length d3):=(blk_cell a0.out 0).trans rfl;have p4:k3.cell? ⟨a1,1,none⟩=some (.slice d7 a2.length d4):=(blk_cell a0.out 1).trans rfl;have p5:=blk_frozen a0.out 0;have p6:=blk_frozen a0.out 1)|((with_reducible refine gate_callee (f:=57) rfl ?_);refine goesL_ (some 21) rfl rfl Try.func57 zqk rfl #[.agg #[.slice d6 a3.length d3,.slice d7 a2.length d4],.int .i64 a7] rfl zq1 ?_;(with_reducible refine(spec_ClearOf.calls k _ _ a3 _ _ a2 a7 b8 _ ?side1 ?side2 ?side3 ?side4 A5.out).mono ?_);(case side1=> exact zq119);(case side2=>exact(Kd.S_reads' a6.out).2.1);(case side3=> exact zq27);(case side4=>exact(Kd.Q_reads' a4.out).2.1);rintro e r6 ⟨h6,rfl,b4,hb⟩;refine⟨_,rfl,?_⟩;replace a6:=zqm (Kd.S_elder' zq76 (Kd.R_base b4) hb);have d0:=zqm (Kd.Q_elder' zq28 (Kd.R_base b4) hb);have c9:=zqm (Kd.R_elder' zq173 (Kd.R_base b4) hb);have b7:=zqm (Kd.R_lower (Kd.R_new' (Kd.R_new' b4 (Kd.Q_lt zq28)) (Kd.R_lt zq173)) (below_size zq9));replace a0:=zqm (blk_below (g:=a1) (o:= .cells #[.slice d6 a3.length d3,.slice d7 a2.length d4] 30 (0,0)) zq2 hb);replace HB:=zqm (below_step zq9 hb);clear a4 b2;have a4:=d0;have b2:=c9;clear d0 c9 hb b4;obtain⟨m2,m3,m4⟩:=Kd.R_slice b2.out;subst m4;obtain⟨m5,m6,m7⟩:=Kd.R_slice b7.out;subst m7)|((with_reducible refine gate_callee (f:=52) rfl ?_);refine goesL_ (some 22) rfl rfl Try.func52 zqk rfl #[.slice m2 a5.length m3,.slice m5 b8.length m6] rfl zq1 ?_;(with_reducible refine(laws_sameInts.calls k _ _ a5 _ _ b8 false _ ?side1 ?side2 ?side3 ?side4 A6.out).mono ?_);(case side1=> exact zq297);(case side2=>exact(Kd.R_reads' b2.out).2.1);(case side3=> exact zq295);(case side4=>exact(Kd.R_reads' b7.out).2.1);rintro e w' ⟨rfl,⟨nd,rfl⟩⟩;refine⟨_,rfl,?_⟩))
   go_ret
   exact⟨zq11,zq9⟩
def laws_FnClearOf.Pure : Prop := ∀ (l0 : List Int), l0.length ≤ maxLen → l0.length * 1 ≤ 140737488351232 → (∀ x ∈ l0, (Lit.int .u8 x).wf = true) → ∃ k, laws_FnClearOf.f k l0 = some true
theorem laws_FnClearOf.walk (P : laws_FnClearOf.Pure) (a0 : Option Addr) (len0 cap0 : Nat) (z0 : List Int) (w : World) (w0 : (a0 = none ∧ len0 = 0 ∧ cap0 = 0 ∧ z0 = []) ∨ ∃ x, a0 = some x ∧ len0 ≤ cap0 ∧ cap0 ≤ maxLen ∧ z0.length = cap0 ∧ (∀ i, i < z0.length → w.cell? (x.add i) = some (.int .u8 (z0.getD i 0))) ∧ ∀ n ∈ z0, (Lit.int .u8 n).wf = true) (y0 : len0 * 1 ≤ 140737488351232) :
  Calls Try.prog 11 #[.slice a0 len0 cap0] w fun e w' => e = .returned (.bool true) ∧ Below w.heap.size w w' := by
 obtain ⟨l0, rfl, hr0, hm0, hw0, hc0⟩ := ReadsInt.ofRowC w0
 obtain ⟨k, h⟩ := P l0 hm0 y0 hw0
 refine (laws_FnClearOf.calls k _ _ l0 true w (Kd.C_of_reads (d := (0 : Int)) (h1 := fun _ => rfl) hr0) hc0 h).mono ?_
 rintro e w' ⟨rfl, hd⟩
 exact ⟨rfl, hd⟩
end Go.Proofs.Ytdoomkcgdcfmlaa.Print
end
section
namespace Go.Proofs.Ytdoomkcgdcfmlaa.Print
open Go.RowKit Go.Proofs.YtdoomkcgdcfmlaaW.PrintWords Go.Proofs.YtdoomkcgdcfmlaaW.PrintLast Go.Proofs.YtdoomkcgdcfmlaaW.PrintMore
open Oml
theorem spec_ClearOf.ev (U : List (List Int)) (N : List Int) (a : Int) : Ev (fun k => spec_ClearOf.f k U N a) (if logicB U N = true then (if [a].all (inR U.length) = true then filI U.length (fun b => projI U N a b == noI U) else []) else []) := by
  unfold spec_ClearOf.f
  by_cases hc:logicB U N=true∧inR U.length a=true
  · obtain ⟨hl, ha⟩ := hc
    have L:=logicB_iff.1 hl
    have Ia:In U a:=inR_iff.1 ha
    have hln:=L.len
    have hs:=L.small
    rw [if_pos hl,if_pos (by simpa using ha)]
    have hnot:Ev (fun k=>spec_NotOf.f k U N a) (notI N a):=Ev.eq (spec_NotOf.ev U N a) (by rw [if_pos hl,if_pos ha])
    have hno:Ev (fun k=>spec_NoOf.f k U N) (noI U):=Ev.eq (spec_NoOf.ev U N) (by rw [if_pos hl])
    have hn0:=(L.in_not Ia).1
    refine Ev.loop (g:=fun k s i=>spec_ClearOf.l0 k a s i U N) U.length (fun i s=>s=filI i (fun b=>projI U N a b==noI U)) (by omega) (fun s h=>?_) (fun i s hi h=>?_) _ rfl
    · subst h
      refine Ev.succ ?_
      simp only [spec_ClearOf.l0]
      repeat(first|((with_reducible refine Ev.ite_pos ?_ ?_);(first|assumption|(focus omega)|(focus (simp;done))))|((with_reducible refine Ev.ite_neg ?_ ?_);(first|assumption|(focus omega)|(focus (simp;done)))))
      refine Ev.succ ?_
      simp only [spec_ClearOf.j1]
      repeat(first|((with_reducible refine Ev.ite_pos ?_ ?_);(first|assumption|(focus omega)|(focus (simp;done))))|((with_reducible refine Ev.ite_neg ?_ ?_);(first|assumption|(focus omega)|(focus (simp;done)))))
      exact Ev.now _
    · refine ⟨_, rfl, fun K => Ev.succ ?_⟩
      subst h
      have Ib:In U (i:Int):=⟨by omega,by omega⟩
      have hpr:Ev (fun k=>spec_ProjectOf.f k U N a i) (projI U N a i):=Ev.eq (spec_ProjectOf.ev U N a i) (by rw [if_pos hl,if_pos (by simp [inR_iff.2 Ia,inR_iff.2 Ib])];rfl)
      simp only [spec_ClearOf.l0]
      repeat(first|((with_reducible refine Ev.ite_pos ?_ ?_);(first|assumption|(focus omega)|(focus (simp;done))))|((with_reducible refine Ev.ite_neg ?_ ?_);(first|assumption|(focus omega)|(focus (simp;done)))))
      refine Ev.bind hnot ?_
      rw [decide_eq_true (show notI N a≥0 from hn0)]
      refine Ev.succ ?_
      simp only [spec_ClearOf.j1]
      repeat(first|((with_reducible refine Ev.ite_pos ?_ ?_);(first|assumption|(focus omega)|(focus (simp;done))))|((with_reducible refine Ev.ite_neg ?_ ?_);(first|assumption|(focus omega)|(focus (simp;done)))))
      refine Ev.bind hpr (Ev.bind hno ?_)
      rw [filI_succ] at K
      by_cases e:projI U N a i=noI U
      · rw [if_pos (by simpa using e)] at K
        have hlen:(filI i fun b=>projI U N a b==noI U).length<17592186044416:=by have:=filI_length i (fun b=>projI U N a b==noI U);omega
        repeat(first|((with_reducible refine Ev.ite_pos ?_ ?_);(first|assumption|(focus omega)|(focus (simp;done))))|((with_reducible refine Ev.ite_neg ?_ ?_);(first|assumption|(focus omega)|(focus (simp;done)))))
        exact K
      · rw [if_neg (by simpa using e)] at K
        repeat(first|((with_reducible refine Ev.ite_pos ?_ ?_);(first|assumption|(focus omega)|(focus (simp;done))))|((with_reducible refine Ev.ite_neg ?_ ?_);(first|assumption|(focus omega)|(focus (simp;done)))))
        exact K
  · have hv : (if logicB U N = true then (if [a].all (inR U.length) = true then filI U.length (fun b => projI U N a b == noI U) else []) else []) = ([] : List Int) := by
      by_cases hl:logicB U N=true
      · have ha : inR U.length a = false := by
          cases h:inR U.length a with
          |false=>rfl
          |true=>exact absurd ⟨hl,h⟩ hc
        rw [if_pos hl,if_neg (by simp [ha])]
      · rw [if_neg hl]
    rw [hv]
    have hnot : Ev (fun k => spec_NotOf.f k U N a) (-1) := Ev.eq (spec_NotOf.ev U N a) (by
      by_cases hl:logicB U N=true
      · rw [if_pos hl,if_neg (fun h=>hc ⟨hl,h⟩)]
      · rw [if_neg hl])
    refine Ev.succ ?_
    simp only [spec_ClearOf.l0]
    by_cases hp:(0:Int)<(N.length:Int)
    · repeat (first | ((with_reducible refine Ev.ite_pos ?_ ?_); (first | assumption | (focus omega) | (focus (simp; done)))) | ((with_reducible refine Ev.ite_neg ?_ ?_); (first | assumption | (focus omega) | (focus (simp; done)))))
      refine Ev.bind hnot ?_
      refine Ev.succ ?_
      simp only [spec_ClearOf.j1]
      repeat(first|((with_reducible refine Ev.ite_pos ?_ ?_);(first|assumption|(focus omega)|(focus (simp;done))))|((with_reducible refine Ev.ite_neg ?_ ?_);(first|assumption|(focus omega)|(focus (simp;done)))))
      exact Ev.now _
    · repeat (first | ((with_reducible refine Ev.ite_pos ?_ ?_); (first | assumption | (focus omega) | (focus (simp; done)))) | ((with_reducible refine Ev.ite_neg ?_ ?_); (first | assumption | (focus omega) | (focus (simp; done)))))
      refine Ev.succ ?_
      simp only [spec_ClearOf.j1]
      repeat(first|((with_reducible refine Ev.ite_pos ?_ ?_);(first|assumption|(focus omega)|(focus (simp;done))))|((with_reducible refine Ev.ite_neg ?_ ?_);(first|assumption|(focus omega)|(focus (simp;done)))))
      exact Ev.now _
theorem sameInts_ev (l : List Int) (hl : l.length < 4611686018427387904) : Ev (fun k => laws_sameInts.f k l l) true := by
  unfold laws_sameInts.f
  refine Ev.ite_pos rfl ?_
  refine Ev.loop (g:=fun k (_:Unit) i=>laws_sameInts.l0 k l l i) l.length (fun _ _=>True) hl (fun _ _=>?_) (fun i _ hi _=>⟨(),trivial,fun hn=>?_⟩) () trivial
  · refine Ev.succ ?_
    simp only [laws_sameInts.l0]
    exact Ev.ite_neg (by omega) (Ev.now _)
  · refine Ev.succ ?_
    simp only [laws_sameInts.l0]
    exact Ev.ite_pos (by omega) (Ev.ite_pos (by omega) (Ev.ite_pos (by omega) (Ev.ite_pos (by simp) hn)))
theorem filI_lt {n : Nat} {p : Nat → Bool} {i : Nat} (hi : i + 1 < (filI n p).length) : at1 (filI n p) i < at1 (filI n p) (i + 1) := by
  rw [filI_at,filI_at]
  have hl:(filI n p).length=(filN n p).length:=filI_len _ _
  have hp:(filN n p).Pairwise (· < ·):=List.Pairwise.filter _ List.pairwise_lt_range
  have h1:=List.pairwise_iff_getElem.1 hp i (i+1) (by omega) (by omega) (by omega)
  rw [List.getD_eq_getElem?_getD,List.getD_eq_getElem?_getD,List.getElem?_eq_getElem (by omega),List.getElem?_eq_getElem (by omega)]
  show (((filN n p)[i]:Nat):Int)<(((filN n p)[i+1]:Nat):Int)
  omega
theorem ascend_ev {n : Nat} (p : Nat → Bool) (hn : n < 4611686018427387904) : Ev (fun k => laws_ascend.f k (filI n p)) true := by
  have hfl:=filI_length n p
  unfold laws_ascend.f
  have key : ∀ d i : Nat, 1 ≤ i → (filI n p).length ≤ i + d → i ≤ n + 1 → Ev (fun k => laws_ascend.l0 k (filI n p) (i : Int)) true := by
    intro d
    induction d with
    | zero =>
      intro i _ h _
      refine Ev.succ ?_
      simp only [laws_ascend.l0]
      exact Ev.ite_neg (by omega) (Ev.now _)
    | succ d ih =>
      intro i h1 h h2
      refine Ev.succ ?_
      simp only [laws_ascend.l0]
      by_cases hi:i<(filI n p).length
      · have w1 : wrap64 ((i : Int) - 1) = ((i - 1 : Nat) : Int) := by rw [wrap_pos (by omega) (by omega)]; omega
        have w2:wrap64 ((i:Int)+1)=((i+1:Nat):Int):=wrap_nat (by omega)
        have hlt:=filI_lt (n:=n) (p:=p) (i:=i - 1) (by omega)
        rw [show i - 1+1=i by omega] at hlt
        rw [w1,w2,rd_nat,rd_nat]
        exact Ev.ite_pos (by omega) (Ev.ite_pos (by omega) (Ev.ite_pos (by omega) (Ev.ite_pos (by omega) (Ev.ite_neg (by omega) (ih (i+1) (by omega) (by omega) (by omega))))))
      · exact Ev.ite_neg (by omega) (Ev.now _)
  by_cases h0:n=0
  · have := key 0 1 (Nat.le_refl _) (by omega) (by omega)
    exact this
  · exact key (filI n p).length 1 (Nat.le_refl _) (by omega) (by omega)
end Go.Proofs.Ytdoomkcgdcfmlaa.Print
end
section
namespace Go.Proofs.Ytdoomkcgdcfmlaa.Print
open Go.RowKit Go.Proofs.YtdoomkcgdcfmlaaW.PrintWords Go.Proofs.YtdoomkcgdcfmlaaW.PrintLast Go.Proofs.YtdoomkcgdcfmlaaW.PrintMore
open Oml
theorem drawClearOf_ev {l : List Int} (h : Bytes l) : ∃ V M x, Ev (fun k => spec_DrawClearOf.f k l) (V, M, x) := by
  obtain⟨b,hb,hbl,ho⟩:=open_ev h
  obtain⟨V,M,x,y,q,hd,_,_⟩:=two_ev hb hbl (p:=0) (by omega) (by omega) 14
  exact⟨V,M,x,by unfold spec_DrawClearOf.f;exact Ev.pbind ho (Ev.bind hd (Ev.now _))⟩
theorem laws_FnClearOf.ev (l : List Int) (h : Bytes l) : Ev (fun k => laws_FnClearOf.f k l) true := by
  unfold laws_FnClearOf.f
  by_cases hl:(l.length:Int)>1048576
  · exact Ev.ite_pos hl (Ev.now _)
  refine Ev.ite_neg hl ?_
  obtain⟨V,M,a,hd⟩:=drawClearOf_ev h
  refine Ev.bind hd (Ev.pbind rfl (Ev.bind (spec_ClearOf.ev V M a) ?_))
  dsimp only
  cases hg:logicB V M with
  |false=>exact Ev.bind (sameInts_ev [] (by simp)) (Ev.ite_pos rfl (Ev.ite_pos rfl (Ev.bind alive_ok (Ev.now _))))
  |true=>
  have L:=logicB_iff.1 hg
  cases hin: [a].all (inR V.length) with
  |false=>exact Ev.bind (sameInts_ev [] (by simp)) (Ev.ite_pos rfl (Ev.ite_pos rfl (Ev.bind alive_ok (Ev.now _))))
  |true=>
  simp only [List.all_cons,List.all_nil,Bool.and_true,Bool.and_eq_true,inR_iff] at hin
  obtain⟨x,rfl⟩:=fin_of hin
  have hx:=x.2
  have hlen:=L.len
  have hsm:=L.small
  rw [if_pos rfl,if_pos rfl]
  have hfl:=filI_length V.length (fun b=>projI V M ((x.1:Nat):Int) (b:Int)==noI V)
  refine Ev.bind (sameInts_ev _ (by omega)) (Ev.ite_pos rfl ?_)
  have hmem : ∀ y : Fin V.length, (projI V M ((x.1 : Nat) : Int) ((y.1 : Nat) : Int) == noI V) = decide (L.ol.proj x y = L.ol.bot) := fun y => by
    unfold projI
    rw [proj_fin L,no_fin L,fin_beq]
  by_cases h0:((filI V.length (fun b=>projI V M ((x.1:Nat):Int) (b:Int)==noI V)).length:Int)=0
  · exact Ev.ite_pos h0 (Ev.bind alive_ok (Ev.now _))
  refine Ev.ite_neg h0 ?_
  refine Ev.loop (g:=fun k (_:Unit) i=>laws_FnClearOf.l0 k ((x.1:Nat):Int) (filI V.length (fun b=>projI V M ((x.1:Nat):Int) (b:Int)==noI V)) i V M) V.length (fun _ _=>True) (by omega) (fun _ _=>?_) (fun c _ hc _=>⟨(),trivial,fun hnext=>?_⟩) () trivial
  · have hb := L.ol.bot.2
    have hhas:=hasInt_ev (filI V.length (fun b=>projI V M ((x.1:Nat):Int) (b:Int)==noI V)) (((L.ol.bot).1:Nat):Int) (by omega)
    have hpb:L.ol.proj x L.ol.bot=L.ol.bot:=by unfold OL.proj;rw [L.ol.join_bot,L.ol.meet_neg]
    rw [filI_nat,decide_eq_true hb,Bool.true_and,hmem,decide_eq_true hpb] at hhas
    refine Ev.succ ?_
    simp only [laws_FnClearOf.l0,impl_NoOf.f,hg,if_true,no_fin L]
    rw [no_fin L] at hhas
    exact Ev.ite_neg (by omega) (Ev.bind (by rw [← no_fin L];exact ascend_ev _ (by omega)) (Ev.ite_pos rfl (Ev.pbind rfl (Ev.bind hhas (Ev.now _)))))
  · obtain ⟨y, rfl⟩ := fin_of_nat hc
    have hhas:=hasInt_ev (filI V.length (fun b=>projI V M ((x.1:Nat):Int) (b:Int)==noI V)) ((y.1:Nat):Int) (by omega)
    rw [filI_nat,decide_eq_true hc,Bool.true_and,hmem] at hhas
    have hke:=spec_KeepsOk.ev V M
    rw [if_pos hg] at hke
    have h2:=inR_two y x
    refine Ev.succ ?_
    simp only [laws_FnClearOf.l0,impl_ApartOk.f,hg,h2,if_true,not_fin L,Int.toNat_natCast]
    refine Ev.ite_pos (by omega) (Ev.bind hke ?_)
    cases hk:keepB V M with
    |false=>exact Ev.ite_neg (by simp) hnext
    | true =>
      have K:=(keepB_iff L).1 hk
      refine Ev.ite_pos rfl (Ev.bind hhas (Ev.pbind rfl (Ev.ite_neg ?_ hnext)))
      have e : decide (L.ol.proj x y = L.ol.bot) = (at2 V y.1 (L.ol.neg x).1 == 1) := by
        rw [Bool.eq_iff_iff,decide_eq_true_eq,beq_iff_eq,(at2_fin L _ _).1]
        exact K.proj_bot_iff x y
      rw [e];simp
end Go.Proofs.Ytdoomkcgdcfmlaa.Print
namespace Go.Proofs.Ytdoomkcgdcfmlaa.Pure
open Go.RowKit Go.Proofs.Ytdoomkcgdcfmlaa.Print Go.Proofs.YtdoomkcgdcfmlaaW.PrintWords Go.Proofs.YtdoomkcgdcfmlaaW.PrintLast Go.Proofs.YtdoomkcgdcfmlaaW.PrintMore
theorem FnClearOf : laws_FnClearOf.Pure := fun l _ _ hw => (laws_FnClearOf.ev l fun x hx => by
  have:=hw x hx
  first|exact Go.RowKit.bounds_u8 this|exact Go.ChangeShapes.bounds_u8 this|exact bounds_u8 this|(simp [Lit.wf,IntKind.wf] at this;omega)|(simp [Lit.wf] at this;omega)).rounds
end Go.Proofs.Ytdoomkcgdcfmlaa.Pure
end
