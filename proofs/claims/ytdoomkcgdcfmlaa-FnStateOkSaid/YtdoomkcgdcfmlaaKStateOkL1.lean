/- Part 1 of what this is proved by: for every text of bytes the law of StateOk answers true -/
import Derived.Test.YtdoomkcgdcfmlaaLB7
import Derived.Below
import Derived.Deep.Draws
import Derived.Deep.AppendLies
import Derived.Maps.AppendAt
import Derived.OwnWalk
import Derived.Laws.BytesArg
import Derived.Laws.MakeOwn
import Derived.Laws.OwnMore
import Derived.Deep.OwnRows
import Derived.Tactics
import Derived.Lib.ConvBytes
import Derived.Laws.Slices
import Derived.WalkKit
import Derived.KernelRfl
import Derived.RowKit3
import Derived.Deep.LoopGhost
import Derived.Deep.QuietTactic
import Derived.BigQuiet
import Derived.WideLaws
import Derived.Deep.DeepCutAuto
import Derived.Deep.CutBlock
import Derived.Deep.RegionHeld3
import Derived.Laws.Rows
import Derived.Lib.AppendStr
import Derived.ArgAppend
import Derived.Laws.IdiomCopy
import Derived.RowKit
import Derived.Test.YtdoomkcgdcfmlaaProg
import Derived.OrdersHeld
import Derived.Laws.BitsLemmas
import Derived.Laws.Bits64b
set_option linter.all false
section
namespace Go.Proofs.YtdoomkcgdcfmlaaW.PrintWords
open Go.RowKit
section
variable {P : Program}
theorem results_ct {fn : Func} {p u : Tmp} {ty : TypeId} (h : fn.results = #[.cell p ty, .tmp u]) (tmps : Array Value) (w : World) (g : Nat) (t : TypeId) (cs : Array Value) (fr : Nat × Nat) (d : TypeDesc)
    (hp:tmps.getD p undef= .pointer (some ⟨g,0,none⟩)) (hg:w.heap[g]? =some (.cells cs t fr))
    (hu:P.underlying ty=some d) (hd:(match d with| .struct _| .array _ _=>true|_=>false)=true) (hi:(P.info? ty).map (·.size)=some cs.size):
    (results fn tmps).run P w= .ok (.tuple #[.agg cs,tmps.getD u undef]) w:=by
  have hp':tmps[p]?.getD undef= .pointer (some ⟨g,0,none⟩):=by simpa using hp
  simp [results,h,hp',asAddr,run_loadVar_row w g t ty cs fr d hg hu hd hi]
end
theorem keep_cell {w W : World} {g : Nat} (h : KeepBut w W g none) {a : Addr} {v : Value} (hc : w.cell? a = some v) (hne : a.block ≠ g) : W.cell? a = some v := by
  have := h.2 a.block (World.block_lt_of_cell? w a hc) hne (by simp)
  simpa [World.cell?, this] using hc
theorem add_block (a : Addr) (i : Nat) : (a.add i).block = a.block := by unfold Addr.add; split <;> rfl
theorem cell_far {W : World} {p a : Addr} (h : a.block ≠ p.block) (u : Value) : (W.setCell p u).cell? a = W.cell? a := by
  have := Below.heap_setCell W p u a.block h
  simp [World.cell?, this]
theorem own_blk {W : World} {base n c : Nat} {e : TypeId} {size g : Nat} {ad : Addr} {xs : List Value} (_ : W.ownsRow base e size (.slice (some ad) n c) n xs) (hne : some g ≠ (Value.slice (some ad) n c).ownBlock) : ad.block ≠ g := by
  rintro rfl
  exact hne (by simp [Value.ownBlock])
namespace Kd
section
variable {α β : Type} {d : Kd α} {d' : Kd β} {e e' base base' n : Nat} {ok ok' : Nat → Prop} {w W w1 W1 : World} {v u : Value} {xs : List α} {ys : List β} {A : Option Addr} {c : Nat}
theorem own_blk {ad : Addr} {g : Nat} (hne : some g ≠ (Value.slice (some ad) n c).ownBlock) : ad.block ≠ g := by
  rintro rfl
  exact hne (by simp [Value.ownBlock])
end
end Kd
end Go.Proofs.YtdoomkcgdcfmlaaW.PrintWords
end
section
namespace Go.Proofs.YtdoomkcgdcfmlaaW.PrintWords
open Go.RowKit
def shr (k : IntKind) (x y : Int) : Int := x / 2 ^ min y.toNat k.bits
theorem shr_small {k : IntKind} {x y j : Int} (h : shr k x y = j) (hy : y ≤ k.bits) : x / 2 ^ y.toNat = j := by rw [← h]; unfold shr; rw [Nat.min_eq_left (by omega)]
end Go.Proofs.YtdoomkcgdcfmlaaW.PrintWords

end
section
namespace Go.Proofs.Ytdoomkcgdcfmlaa
variable {p : Prop}
theorem zq17 (h:p:=by repeat(first|(with_reducible first|exact HB.out|apply below_alloc|apply pw_below_drewN|apply below_drew1|refine below_set ?_ a9.out)|exact HB.out)):p:=h
theorem zq26 (h:p:=by repeat(first|exact(Kd.C_below a8.out HB.out)|(with_reducible refine Kd.C_alloc ?_ _)|(with_reducible refine Kd.C_drewN ?_ _)|(with_reducible refine Kd.C_drew ?_))):p:=h
theorem zq34 (h:p:=by (with_reducible repeat(first|apply Kd.Q_alloc|apply Kd.Q_drewN|apply Kd.Q_drew));exact a5.out):p:=h
theorem zq35 (h:p:=by (with_reducible repeat(first|apply Kd.S_alloc|apply Kd.S_drewN|apply Kd.S_drew));exact a4.out):p:=h
theorem zq43 (h:p:=by repeat(first|exact(Kd.Q_reads' a5.out).2.2|(with_reducible refine Kd.C_alloc ?_ _)|(with_reducible refine Kd.C_drewN ?_ _)|(with_reducible refine Kd.C_drew ?_))):p:=h
theorem zq44 (h:p:=by repeat(first|exact(Kd.S_reads' a4.out).2.2|(with_reducible refine Kd.C_alloc ?_ _)|(with_reducible refine Kd.C_drewN ?_ _)|(with_reducible refine Kd.C_drew ?_))):p:=h
theorem zq45 (h:p:=by repeat(first|exact(Kd.C_below b0.out HB.out)|(with_reducible refine Kd.C_alloc ?_ _)|(with_reducible refine Kd.C_drewN ?_ _)|(with_reducible refine Kd.C_drew ?_))):p:=h
theorem zq49 (h:p:=by repeat(first|(with_reducible first|exact HB.out|apply below_alloc|apply pw_below_drewN|apply below_drew1|refine below_set ?_ (IsS87.ge a0.out)|refine below_set ?_ b3.out|refine below_set ?_ d0.out)|exact HB.out)):p:=h
theorem zq62 (h:p:=by repeat(first|exact(Kd.C_below a5.out (by repeat(first|(with_reducible first|exact HB.out|apply below_alloc|apply pw_below_drewN|apply below_drew1|refine below_set ?_ a4.out)|exact HB.out)))|(with_reducible refine Kd.C_alloc ?_ _)|(with_reducible refine Kd.C_drewN ?_ _)|(with_reducible refine Kd.C_drew ?_))):p:=h
theorem zq67 (h:p:=by (with_reducible repeat(first|apply Kd.Q_alloc|apply Kd.Q_drewN|apply Kd.Q_drew));exact(Kd.Q_mono (Kd.Q_far (p:=⟨a1,1,none⟩) (Kd.Q_far (p:=⟨a1,0,none⟩) (Kd.Q_types a5.out a0.out (by decide)) (fun _ hk=>hk.2) (.slice b9 a2.length b5)) (fun _ hk=>hk.2) (.slice c5 a3.length b6)) (fun _ h_=>h_.1))):p:=h
theorem zq68 (h:p:=by (with_reducible repeat(first|apply Kd.S_alloc|apply Kd.S_drewN|apply Kd.S_drew));exact(Kd.S_mono (Kd.S_far (p:=⟨a1,1,none⟩) (Kd.S_far (p:=⟨a1,0,none⟩) (Kd.S_types a4.out a0.out (by decide)) (fun _ hk=>hk.2) (.slice b3 a2.length b1)) (fun _ hk=>hk.2) (.slice b2 a3.length b0)) (fun _ h_=>h_.1))):p:=h
theorem zq69 (h:p:=by (with_reducible repeat(first|apply Kd.Q_alloc|apply Kd.Q_drewN|apply Kd.Q_drew));exact(Kd.Q_mono (Kd.Q_far (p:=⟨a1,1,none⟩) (Kd.Q_far (p:=⟨a1,0,none⟩) (Kd.Q_types a5.out a0.out (by decide)) (fun _ hk=>hk.2) (.slice d5 a2.length d1)) (fun _ hk=>hk.2) (.slice c8 a3.length b8)) (fun _ h_=>h_.1))):p:=h
theorem zq70 (h:p:=by (with_reducible repeat(first|apply Kd.S_alloc|apply Kd.S_drewN|apply Kd.S_drew));exact(Kd.S_mono (Kd.S_far (p:=⟨a1,1,none⟩) (Kd.S_far (p:=⟨a1,0,none⟩) (Kd.S_types a4.out a0.out (by decide)) (fun _ hk=>hk.2) (.slice b9 a2.length b5)) (fun _ hk=>hk.2) (.slice c5 a3.length b6)) (fun _ h_=>h_.1))):p:=h
theorem zq71 (h:p:=by (with_reducible repeat(first|apply Kd.Q_alloc|apply Kd.Q_drewN|apply Kd.Q_drew));exact(Kd.Q_mono (Kd.Q_far (p:=⟨a1,1,none⟩) (Kd.Q_far (p:=⟨a1,0,none⟩) (Kd.Q_types a5.out a0.out (by decide)) (fun _ hk=>hk.2) (.slice b3 a2.length b1)) (fun _ hk=>hk.2) (.slice b2 a3.length b0)) (fun _ h_=>h_.1))):p:=h
theorem zq72 (h:p:=by (with_reducible repeat(first|apply Kd.S_alloc|apply Kd.S_drewN|apply Kd.S_drew));exact(Kd.S_mono (Kd.S_far (p:=⟨a1,1,none⟩) (Kd.S_far (p:=⟨a1,0,none⟩) (Kd.S_types a4.out a0.out (by decide)) (fun _ hk=>hk.2) (.slice d5 a2.length d1)) (fun _ hk=>hk.2) (.slice c8 a3.length b8)) (fun _ h_=>h_.1))):p:=h
theorem zq86 (h:p:=by repeat(first|(with_reducible first|exact a0.out|apply IsS87.alloc|apply IsS87.drewN|apply IsS87.drew|apply IsS87.set_1|refine IsS87.far ?_ a2.out _|refine IsS87.far ?_ a3.out _)|exact a0.out)):p:=h
theorem zq88 (h:p:=by refine(Kd.S_reads' (e:=28) (base:=w.heap.size) (ok:=fun k_=>some k_≠(.slice c5 a3.length b6:Value).ownBlock) (n:=a2.length) (c:=b5) ?_).2.2;exact(by(with_reducible repeat(first|apply Kd.S_alloc|apply Kd.S_drewN|apply Kd.S_drew));exact(Kd.S_mono (Kd.S_far (p:=⟨a1,1,none⟩) (Kd.S_far (p:=⟨a1,0,none⟩) (Kd.S_types a4.out a0.out (by decide)) (fun _ hk=>hk.2) (.slice b9 a2.length b5)) (fun _ hk=>hk.2) (.slice c5 a3.length b6)) (fun _ h_=>h_.1)))):p:=h
theorem zq89 (h:p:=by refine(Kd.S_reads' (e:=28) (base:=w.heap.size) (ok:=fun k_=>some k_≠(.slice c8 a3.length b8:Value).ownBlock) (n:=a2.length) (c:=d1) ?_).2.2;exact(by(with_reducible repeat(first|apply Kd.S_alloc|apply Kd.S_drewN|apply Kd.S_drew));exact(Kd.S_mono (Kd.S_far (p:=⟨a1,1,none⟩) (Kd.S_far (p:=⟨a1,0,none⟩) (Kd.S_types a4.out a0.out (by decide)) (fun _ hk=>hk.2) (.slice d5 a2.length d1)) (fun _ hk=>hk.2) (.slice c8 a3.length b8)) (fun _ h_=>h_.1)))):p:=h
theorem zq90 (h:p:=by refine(Kd.S_reads' (e:=28) (base:=w.heap.size) (ok:=fun k_=>some k_≠(.slice b2 a3.length b0:Value).ownBlock) (n:=a2.length) (c:=b1) ?_).2.2;exact(by(with_reducible repeat(first|apply Kd.S_alloc|apply Kd.S_drewN|apply Kd.S_drew));exact(Kd.S_mono (Kd.S_far (p:=⟨a1,1,none⟩) (Kd.S_far (p:=⟨a1,0,none⟩) (Kd.S_types a4.out a0.out (by decide)) (fun _ hk=>hk.2) (.slice b3 a2.length b1)) (fun _ hk=>hk.2) (.slice b2 a3.length b0)) (fun _ h_=>h_.1)))):p:=h
theorem zq91 (h:p:=by repeat(first|(with_reducible first|exact HB.out|apply below_alloc|apply pw_below_drewN|apply below_drew1|refine below_set ?_ b8.out)|exact HB.out)):p:=h
theorem zq92 (h:p:=by (with_reducible repeat(first|refine blk_drewN ?_ _|refine blk_drew ?_|refine blk_alloc ?_ _));refine blk_put (cs:= #[.slice b3 a2.length b1,.slice none 0 0]) ?_ 1 _ rfl;(with_reducible repeat(first|refine blk_drewN ?_ _|refine blk_drew ?_|refine blk_alloc ?_ _));refine blk_put (cs:= #[.slice none 0 0,.slice none 0 0]) ?_ 0 _ rfl;(with_reducible repeat(first|refine blk_drewN ?_ _|refine blk_drew ?_|refine blk_alloc ?_ _));exact a0.out):p:=h
theorem zq93 (h:p:=by (with_reducible repeat(first|refine blk_drewN ?_ _|refine blk_drew ?_|refine blk_alloc ?_ _));refine blk_put (cs:= #[.slice d5 a2.length d1,.slice none 0 0]) ?_ 1 _ rfl;(with_reducible repeat(first|refine blk_drewN ?_ _|refine blk_drew ?_|refine blk_alloc ?_ _));refine blk_put (cs:= #[.slice none 0 0,.slice none 0 0]) ?_ 0 _ rfl;(with_reducible repeat(first|refine blk_drewN ?_ _|refine blk_drew ?_|refine blk_alloc ?_ _));exact a0.out):p:=h
theorem zq94 (h:p:=by (with_reducible repeat(first|refine blk_drewN ?_ _|refine blk_drew ?_|refine blk_alloc ?_ _));refine blk_put (cs:= #[.slice b9 a2.length b5,.slice none 0 0]) ?_ 1 _ rfl;(with_reducible repeat(first|refine blk_drewN ?_ _|refine blk_drew ?_|refine blk_alloc ?_ _));refine blk_put (cs:= #[.slice none 0 0,.slice none 0 0]) ?_ 0 _ rfl;(with_reducible repeat(first|refine blk_drewN ?_ _|refine blk_drew ?_|refine blk_alloc ?_ _));exact a0.out):p:=h
theorem zq96 (h:p:=by repeat(first|exact(Kd.C_below b2.out HB.out)|(with_reducible refine Kd.C_alloc ?_ _)|(with_reducible refine Kd.C_drewN ?_ _)|(with_reducible refine Kd.C_drew ?_))):p:=h
theorem zq97 (h:p:=by repeat(first|exact j3.out|(with_reducible refine Kd.C_alloc ?_ _)|(with_reducible refine Kd.C_drewN ?_ _)|(with_reducible refine Kd.C_drew ?_))):p:=h
theorem zq100 (h:p:=by (with_reducible repeat(first|refine blk_drewN ?_ _|refine blk_drew ?_|refine blk_alloc ?_ _));exact a5.out):p:=h
theorem zq106 (h:p:=by (with_reducible repeat(first|apply Kd.S_alloc|apply Kd.S_drewN|apply Kd.S_drew));exact HO_1052000.out):p:=h
theorem zq107 (h:p:=by (with_reducible repeat(first|apply Kd.Q_alloc|apply Kd.Q_drewN|apply Kd.Q_drew));exact HO_1052001.out):p:=h
theorem zq113 (h:p:=by refine(Kd.Q_reads' (e:=3) (base:=w.heap.size) (ok:=fun k_=>True) (n:=a3.length) (c:=b6) ?_).2.2;exact(by(with_reducible repeat(first|apply Kd.Q_alloc|apply Kd.Q_drewN|apply Kd.Q_drew));exact(Kd.Q_mono (Kd.Q_far (p:=⟨a1,1,none⟩) (Kd.Q_far (p:=⟨a1,0,none⟩) (Kd.Q_types a5.out a0.out (by decide)) (fun _ hk=>hk.2) (.slice b9 a2.length b5)) (fun _ hk=>hk.2) (.slice c5 a3.length b6)) (fun _ h_=>h_.1)))):p:=h
theorem zq114 (h:p:=by refine(Kd.Q_reads' (e:=3) (base:=w.heap.size) (ok:=fun k_=>True) (n:=a3.length) (c:=b8) ?_).2.2;exact(by(with_reducible repeat(first|apply Kd.Q_alloc|apply Kd.Q_drewN|apply Kd.Q_drew));exact(Kd.Q_mono (Kd.Q_far (p:=⟨a1,1,none⟩) (Kd.Q_far (p:=⟨a1,0,none⟩) (Kd.Q_types a5.out a0.out (by decide)) (fun _ hk=>hk.2) (.slice d5 a2.length d1)) (fun _ hk=>hk.2) (.slice c8 a3.length b8)) (fun _ h_=>h_.1)))):p:=h
theorem zq115 (h:p:=by refine(Kd.Q_reads' (e:=3) (base:=w.heap.size) (ok:=fun k_=>True) (n:=a3.length) (c:=b0) ?_).2.2;exact(by(with_reducible repeat(first|apply Kd.Q_alloc|apply Kd.Q_drewN|apply Kd.Q_drew));exact(Kd.Q_mono (Kd.Q_far (p:=⟨a1,1,none⟩) (Kd.Q_far (p:=⟨a1,0,none⟩) (Kd.Q_types a5.out a0.out (by decide)) (fun _ hk=>hk.2) (.slice b3 a2.length b1)) (fun _ hk=>hk.2) (.slice b2 a3.length b0)) (fun _ h_=>h_.1)))):p:=h
theorem zq121 (h:p:=by repeat(first|(with_reducible first|exact HB.out|apply below_alloc|apply pw_below_drewN|apply below_drew1|refine below_set ?_ (IsS87.ge a0.out)|refine below_set ?_ b3.out)|exact HB.out)):p:=h
theorem zq127 (h:p:=by repeat(first|exact(Kd.C_below b8.out HB.out)|(with_reducible refine Kd.C_alloc ?_ _)|(with_reducible refine Kd.C_drewN ?_ _)|(with_reducible refine Kd.C_drew ?_))):p:=h
theorem zq145 (h:p:=by (with_reducible repeat(first|apply Kd.Q_alloc|apply Kd.Q_drewN|apply Kd.Q_drew));exact(Kd.Q_mono (Kd.Q_far (p:=⟨a9,1,none⟩) (Kd.Q_far (p:=⟨a9,0,none⟩) (Kd.Q_types c2.out a5.out (by decide)) (fun _ hk=>hk.2) (.slice b7 a7.length b4)) (fun _ hk=>hk.2) (.slice b8 a8.length b5)) (fun _ h_=>h_.1))):p:=h
theorem zq147 (h:p:=by (with_reducible repeat(first|refine blk_drewN ?_ _|refine blk_drew ?_|refine blk_alloc ?_ _));refine blk_put (cs:= #[.slice b7 a7.length b4,.slice none 0 0]) ?_ 1 _ rfl;(with_reducible repeat(first|refine blk_drewN ?_ _|refine blk_drew ?_|refine blk_alloc ?_ _));refine blk_put (cs:= #[.slice none 0 0,.slice none 0 0]) ?_ 0 _ rfl;(with_reducible repeat(first|refine blk_drewN ?_ _|refine blk_drew ?_|refine blk_alloc ?_ _));exact a1.out):p:=h
theorem zq155 (h:p:=by repeat(first|exact(Kd.C_below b4.out HB.out)|(with_reducible refine Kd.C_alloc ?_ _)|(with_reducible refine Kd.C_drewN ?_ _)|(with_reducible refine Kd.C_drew ?_))):p:=h
theorem zq181 (h:p:=by (with_reducible repeat(first|apply Kd.Q_alloc|apply Kd.Q_drewN|apply Kd.Q_drew));exact Kd.Q_mono (Kd.Q_far (p:=⟨a4,1,none⟩) (Kd.Q_far (p:=⟨a4,0,none⟩) (Kd.Q_types HO_1025001.out a1.out (by decide)) (fun _ hk=>hk.2) (.slice b7 a7.length b4)) (fun _ hk=>hk.2) (.slice b8 a8.length b5)) (fun _ hk=>trivial)):p:=h
theorem zq182 (h:p:=by (with_reducible repeat(first|apply Kd.S_alloc|apply Kd.S_drewN|apply Kd.S_drew));exact Kd.S_mono (Kd.S_far (p:=⟨a4,1,none⟩) (Kd.S_far (p:=⟨a4,0,none⟩) (Kd.S_types HO_1025000.out a1.out (by decide)) (fun _ hk=>hk.2) (.slice b7 a7.length b4)) (fun _ hk=>hk.2) (.slice b8 a8.length b5)) (fun _ hk=>hk.1.2)):p:=h
theorem zq183 (h:p:=by first|exact Kd.own_blk (Kd.R_ne HO_6.out a1.out (by decide))|(rw [add_block];exact Kd.own_blk (Kd.R_ne HO_6.out a1.out (by decide)))|(show (Addr.add _ _).block≠_;rw [add_block];exact Kd.own_blk (Kd.R_ne HO_6.out a1.out (by decide)))|(dsimp only;exact Kd.own_blk (Kd.R_ne HO_6.out a1.out (by decide)))):p:=h
theorem zq226 (h:p:=by (with_reducible repeat(first|apply Kd.S_alloc|apply Kd.S_drewN|apply Kd.S_drew));exact(Kd.S_mono (Kd.S_far (p:=⟨a9,1,none⟩) (Kd.S_far (p:=⟨a9,0,none⟩) (Kd.S_types c9.out a5.out (by decide)) (fun _ hk=>hk.2) (.slice b7 a7.length b4)) (fun _ hk=>hk.2) (.slice b8 a8.length b5)) (fun _ h_=>h_.1))):p:=h
theorem zq284 (h:p:=by repeat(first|exact HB3.out|apply pw_below_drewN|apply below_drew1)):p:=h
theorem zq290 (h:p:=by repeat(first|exact(Kd.S_reads' HO_1052000.out).2.2|(with_reducible refine Kd.C_alloc ?_ _)|(with_reducible refine Kd.C_drewN ?_ _)|(with_reducible refine Kd.C_drew ?_))):p:=h
theorem zq291 (h:p:=by repeat(first|exact(Kd.Q_reads' HO_1052001.out).2.2|(with_reducible refine Kd.C_alloc ?_ _)|(with_reducible refine Kd.C_drewN ?_ _)|(with_reducible refine Kd.C_drew ?_))):p:=h
theorem zq292 (h:p:=by repeat(first|exact(Kd.C_below a4.out HB.out)|(with_reducible refine Kd.C_alloc ?_ _)|(with_reducible refine Kd.C_drewN ?_ _)|(with_reducible refine Kd.C_drew ?_))):p:=h
theorem zq302 (h:p:=by (with_reducible repeat(first|apply Kd.R_alloc|apply Kd.R_drewN|apply Kd.R_drew));exact a7.out):p:=h
theorem zq303 (h:p:=by repeat(first|exact HB2.out|apply pw_below_drewN|apply below_drew1)):p:=h
theorem zq319 (h:p:=by (with_reducible repeat(first|apply Kd.S_alloc|apply Kd.S_drewN|apply Kd.S_drew));exact HO_1025000.out):p:=h
theorem zq320 (h:p:=by (with_reducible repeat(first|apply Kd.Q_alloc|apply Kd.Q_drewN|apply Kd.Q_drew));exact HO_1025001.out):p:=h
theorem zq336 (h:p:=by repeat(first|exact Below.refl _ _|apply pw_below_drewN|apply below_drew1)):p:=h
theorem zq337 (h:p:=by repeat(first|(with_reducible exact f2.out)|(with_reducible refine Kd.C_alloc ?_ _)|(with_reducible refine Kd.C_drewN ?_ _)|(with_reducible refine Kd.C_drew ?_)|exact f2.out)):p:=h
theorem zq338 (h:p:=by repeat(first|(with_reducible exact e8.out)|(with_reducible refine Kd.C_alloc ?_ _)|(with_reducible refine Kd.C_drewN ?_ _)|(with_reducible refine Kd.C_drew ?_)|exact e8.out)):p:=h
theorem zq340 (h:p:=by (try simp only [List.map_toArray, List.map_cons, List.map_nil]); first | done | rfl):p:=h
theorem zq341 (h:p:=by repeat(first|exact(Kd.C_below a7.out HB.out)|(with_reducible refine Kd.C_alloc ?_ _)|(with_reducible refine Kd.C_drewN ?_ _)|(with_reducible refine Kd.C_drew ?_))):p:=h
theorem zq342 (h:p:=by repeat(first|(with_reducible first|exact a0.out|apply IsS87.alloc|apply IsS87.drewN|apply IsS87.drew|apply IsS87.set_1|refine IsS87.far ?_ a2.out _)|exact a0.out)):p:=h
theorem zq347 (h:p:=by repeat(first|exact(Kd.C_below e1.out HB.out)|(with_reducible refine Kd.C_alloc ?_ _)|(with_reducible refine Kd.C_drewN ?_ _)|(with_reducible refine Kd.C_drew ?_))):p:=h
theorem zq352 (h:p:=by first|rfl|(simp [errW_none,errW_some] <;> rfl)|(simp only [← d4];first|rfl|(simp [errW_none,errW_some] <;> rfl))|(simp [*,errW_none,errW_some] <;> rfl)):p:=h
theorem zq369 (h:p:=by have:=i4.out;have:=i5.out;have:=k3.out;omega):p:=h
theorem zq370 (h:p:=by have:=c8.out;have:=d7.out;have:=d8.out;omega):p:=h
theorem zq374 (h:p:=by (with_reducible repeat(first|apply Kd.S_alloc|apply Kd.S_drewN|apply Kd.S_drew));exact Kd.S_mono c9.out (fun _ hk=>⟨hk.2,hk.1⟩)):p:=h
theorem zq376 (h:p:=by (with_reducible repeat(first|apply Kd.R_alloc|apply Kd.R_drewN|apply Kd.R_drew));exact Kd.R_mono d3.out (fun _ hk=>hk.2)):p:=h
theorem zq377 (h:p:=by (with_reducible repeat(first|apply Kd.Q_alloc|apply Kd.Q_drewN|apply Kd.Q_drew));exact Kd.Q_mono c2.out (fun _ hk=>hk.2)):p:=h
theorem zq378 (h:p:=by have:=i4.out;have:=i5.out;first|omega|exact Nat.le_refl _):p:=h
theorem zq389 (h:p:=by (with_reducible repeat(first|apply Kd.R_alloc|apply Kd.R_drewN|apply Kd.R_drew));exact e3.out):p:=h
theorem zq390 (h:p:=by (with_reducible repeat(first|apply Kd.S_alloc|apply Kd.S_drewN|apply Kd.S_drew));exact c9.out):p:=h
theorem zq396 (h:p:=by (with_reducible repeat(first|apply Kd.Q_alloc|apply Kd.Q_drewN|apply Kd.Q_drew));exact c2.out):p:=h
theorem zq405 (h:p:=by first | (rw [← HSI.out]; exact HJj.out) | (rw [← HSI.out]; exact HD.out _ _ _ HJj.out)):p:=h
theorem zq415 (h:p:=by first|exact e2|exact zqo|(have e_:=(Kd.S_reads' HO_1052000.out).1;omega)):p:=h
theorem zq416 (h:p:=by first|exact e5|exact zqo|(have e_:=(Kd.S_reads' HO_1052000.out).1;omega)):p:=h
end Go.Proofs.Ytdoomkcgdcfmlaa
end
section
namespace Oml
universe u
namespace OL
variable {α : Type u} (L : OL α)
theorem join_eq_r (a b : α) : L.join a b = b ↔ L.le a b := by
  constructor
  · intro h; rw [← h]; exact L.join_l _ _
  · intro h; exact L.le_antisymm _ _ (L.join_le _ _ _ h (L.le_refl _)) (L.join_r _ _)
theorem join_self (a : α) : L.join a a = a := (L.join_eq_r a a).2 (L.le_refl _)
theorem neg_top : L.neg L.top = L.bot := L.neg_neg _
def Keeps : Prop := ∀ a b, L.le a b → L.join a (L.meet b (L.neg a)) = b
variable {L}
structure State (L : OL α) (s : α → Bool) : Prop where
  top : s L.top = true
  neg : ∀ a, s (L.neg a) = !s a
  join : ∀ a b, L.le a (L.neg b) → s (L.join a b) = (s a || s b) ∧ (s a && s b) = false
theorem State.up (K : L.Keeps) {s : α → Bool} (S : L.State s) {a b : α} (h : L.le a b) (ha : s a = true) : s b = true := by
  have e := K a b h
  have := (S.join a (L.meet b (L.neg a)) (by rw [L.neg_meet, L.neg_neg]; exact L.join_r _ _)).1
  rw [e, ha] at this
  simpa using this
end OL
end Oml
end
section
namespace Oml
theorem allN_false {n : Nat} {p : Nat → Bool} : allN n p = false ↔ ∃ i, i < n ∧ p i = false := by
  rw [← Bool.not_eq_true,allN_iff]
  constructor
  · intro h
    apply Classical.byContradiction
    intro k
    exact h fun i hi => by
      cases e:p i
      · exact absurd ⟨i,hi,e⟩ k
      · rfl
  · rintro ⟨i, hi, e⟩ h
    rw [h i hi] at e
    exact absurd e (by simp)
section
variable {U : List (List Int)} {N : List Int} (L : Logic U N)
theorem Logic.ng_eq (a : Fin U.length) : at1 N a = ((L.ng a).1 : Int) := by
  have := L.ran a a.2
  show at1 N a = (((at1 N a).toNat : Nat) : Int)
  omega
include L in
end
end Oml
end
section
namespace Go.Proofs.Ytdoomkcgdcfmlaa.Print
open Go.RowKit Go.Proofs.YtdoomkcgdcfmlaaW.PrintWords Go.Proofs.YtdoomkcgdcfmlaaW.PrintLast Go.Proofs.YtdoomkcgdcfmlaaW.PrintMore
open Oml
def inR (n : Nat) (a : Int) : Bool := decide (0 ≤ a) && decide (a < (n : Int))
theorem inR_iff {U : List (List Int)} {a : Int} : inR U.length a = true ↔ In U a := by simp [inR, In]
def leI (U : List (List Int)) (a b : Int) : Bool := leB U a.toNat b.toNat
section
variable {U : List (List Int)} {N : List Int} (L : Logic U N)
include L
theorem _root_.Oml.Logic.in_and {a b : Int} (ha : In U a) (hb : In U b) : In U (andI U a b) := by
  obtain⟨m,hm⟩:=Option.isSome_iff_exists.1 (L.meets a.toNat b.toNat (by have:=ha.1;have:=ha.2;omega) (by have:=hb.1;have:=hb.2;omega))
  have:=(findN_some hm).1
  unfold In andI mI;rw [hm];simp only [optI];omega
theorem _root_.Oml.Logic.in_or {a b : Int} (ha : In U a) (hb : In U b) : In U (orI U a b) := by
  obtain⟨m,hm⟩:=Option.isSome_iff_exists.1 (L.joins a.toNat b.toNat (by have:=ha.1;have:=ha.2;omega) (by have:=hb.1;have:=hb.2;omega))
  have:=(findN_some hm).1
  unfold In orI jI;rw [hm];simp only [optI];omega
theorem _root_.Oml.Logic.in_not {a : Int} (ha : In U a) : In U (notI N a) := L.ran a.toNat (by have := ha.1; have := ha.2; omega)
theorem _root_.Oml.Logic.in_no : In U (noI U) := by
  obtain ⟨m, hm⟩ := L.least_some
  have := (findN_some hm).1
  unfold In noI; rw [hm]; simp only [optI]; omega
theorem _root_.Oml.Logic.in_yes : In U (yesI U N) := L.in_not L.in_no
theorem _root_.Oml.Logic.le_val {a b : Int} (ha : In U a) (hb : In U b) : at2 U a.toNat b.toNat = if leI U a b = true then 1 else 0 :=
  L.toOrder.val (by have := ha.1; have := ha.2; omega) (by have := hb.1; have := hb.2; omega)
end
namespace View
section
variable {W W1 : World} {g : Nat} {U : List (List Int)} {N : List Int} {v : Adr} (h : View W g U N v)
include h
theorem f5 : W.cell? ⟨g, 5, none⟩ = some (.int .i64 (yesI U N)) := (blk_cell h.blk 5).trans rfl
end
end View
end Go.Proofs.Ytdoomkcgdcfmlaa.Print
end
section
namespace Go.Proofs.Ytdoomkcgdcfmlaa.Print
open Go.RowKit Go.Proofs.YtdoomkcgdcfmlaaW.PrintWords Go.Proofs.YtdoomkcgdcfmlaaW.PrintLast Go.Proofs.YtdoomkcgdcfmlaaW.PrintMore
open Oml
theorem goesV_ {P : Program} {ops : Array Oper} {Q : Exit → Act → World → Prop} {rest : List Oper} {oi : Oper} {a : Act} {w : World} (N : Option Tmp) (hd : oi.dst = N) (hg : oi.guard = none) {f : FuncId} {fn : Func} {x : Operand} {xo : Array Operand} {ts : Array TypeId} {cs : Array Value}
    (hf : P.funcs[f]? = some fn) (hname : (fn.name == "runtime.NumGoroutine") = false) (hb : fn.body.isSome = true) (args : Array Value)
    (hop : oi.op = .call { callee := .value x, args := xo, argTypes := ts }) (hx : a.eval x = .func (.func f) #[] cs) (hargs : xo.map a.eval = args)
    (h : Calls P f (args ++ cs) w fun e w' => ∃ v, e = .returned v ∧ wpList P ops Q rest (a.put N v) w') : wpList P ops Q (oi :: rest) a w := by
  refine wpList_plain hg fun K hK => ?_
  have he := enters_ hf hname hb (args ++ cs) w
  have hrun : (execOp a.eval oi).run P w = .ok (.enter f (args ++ cs)) w := by
    unfold execOp
    simp [hop, resolve, Deferred.ofValue, invoke, hx, hargs, he]
  unfold Oper.wp
  rw [hrun, Oper.upon_enter]
  refine h.mono fun e w'' hh => ?_
  obtain ⟨v, rfl, hk⟩ := hh
  subst hd
  exact hK _ _ hk
set_option maxHeartbeats 1000000 in
set_option maxRecDepth 100000 in
theorem every_calls (g : Nat) (U : List (List Int)) (N : List Int) (v : Adr) (w : World) (hs : U.length ≤ 12) (fv : Nat) (fn : Func) (cs : Array Value) (hf : Try.prog.funcs[fv]? = some fn) (hname : (fn.name == "runtime.NumGoroutine") = false) (hb : fn.body.isSome = true)
    (p : Nat → Nat → Bool) (J : Nat → World → Prop) (hV : ∀ i w', J i w' → View w' g U N v) (hD : ∀ i w' n, J i w' → J i (w'.drewN n)) (h0 : J 0 w)
    (step : ∀ a b : Nat, a < U.length → b < U.length → ∀ w', J (a * U.length + b) w' → Calls Try.prog fv (#[.int .i64 a, .int .i64 b] ++ cs) w' fun e w'' => e = .returned (.bool (p a b)) ∧ J (a * U.length + b + 1) w'') :
    Calls Try.prog 87 #[.pointer (some ⟨g, 0, none⟩), .func (.func fv) #[] cs] w fun e w' =>
      e = .returned (.bool (allN U.length fun a => allN U.length fun b => p a b)) ∧ ∃ i, J i w' ∧ ((allN U.length fun a => allN U.length fun b => p a b) = true → i = U.length * U.length) := by
  obtain ⟨r, hr⟩ : ∃ r, r = allN U.length fun a => allN U.length fun b => p a b := ⟨_, rfl⟩
  rw [← hr]
  have hu70 := Try.underlying70
  have HF := Aside0.mk hf
  have HNM := Aside0.mk hname
  have HBD := Aside0.mk hb
  have HV := Aside0.mk hV
  have HD := Aside0.mk hD
  have HJ0 := Aside0.mk h0
  have HST := Aside0.mk step
  have HR := Aside0.mk hr
  have hf0 := (hV 0 w h0).f0
  clear hf hname hb hV hD h0 step hr
  go_enter Try.func87, Try.ntmps87
  go_wp2_with fail
  go_loopg [12] (U.length + 1) (fun kq v12 W => ∃ i s : Nat, v12 = .int .i64 i ∧ Aside0 (i + kq = U.length + 1) ∧ Aside0 (i ≤ U.length) ∧ Aside0 (s = i * U.length) ∧ Aside0 (∀ a, a < i → ∀ b, b < U.length → p a b = true) ∧ Aside0 (J s W))
  case atStart => exact ⟨0, 0, rfl, ⟨by omega⟩, ⟨by omega⟩, ⟨by simp⟩, ⟨fun j hj => absurd hj (by omega)⟩, ⟨by first | exact HJ0.out | exact HD.out _ _ _ HJ0.out⟩⟩
  case round =>
    clear hf0
    obtain ⟨i, s, rfl, HK, HK2, HSI, HS, HJ⟩ := hrel
    have hf0 := (HV.out _ _ HJ.out).f0
    cases gk with
    | zero => exact absurd HK.out (by have := HK2.out; omega)
    | succ kn =>
    by_cases hlt : i < U.length
    · have hlt' : decide (i < U.length) = true := decide_eq_true hlt
      have HLT := Aside0.mk hlt
      clear hlt
      go_wp2_with fail
      go_loopg [20] (U.length + 1) (fun kq v20 W => ∃ j : Nat, v20 = .int .i64 j ∧ Aside0 (j + kq = U.length + 1) ∧ Aside0 (j ≤ U.length) ∧ Aside0 (∀ b, b < j → p i b = true) ∧ Aside0 (J (s + j) W))
      case atStart => exact ⟨0, rfl, ⟨by omega⟩, ⟨by omega⟩, ⟨fun j hj => absurd hj (by omega)⟩, ⟨by first | exact HJ.out | exact HD.out _ _ _ HJ.out⟩⟩
      case round =>
        clear hf0
        obtain ⟨j, rfl, HKj, HKj2, HSj, HJj⟩ := hrel
        cases gk with
        | zero => exact absurd HKj.out (by have := HKj2.out; omega)
        | succ kj =>
        by_cases hlj : j < U.length
        · have hlj' : decide (j < U.length) = true := decide_eq_true hlj
          have HLJ := Aside0.mk hlj
          clear hlj
          cases hp : p i j with
          | true =>
            have HP := Aside0.mk hp
            clear hp
            go_wp2_with (refine goesV_ (some 26) rfl rfl HF.out HNM.out HBD.out #[.int .i64 i, .int .i64 j] rfl rfl zq340 ?_; refine (HST.out i j HLT.out HLJ.out _ ?sJ).mono ?_; (case sJ => exact zq405); rintro e w1 ⟨he, hj⟩; rw [HP.out] at he; subst he; refine ⟨_, rfl, ?_⟩; have HJ1 := Aside0.mk hj; clear hj)
            go_roundg kj
            case measure => omega
            case rel => exact ⟨j + 1, by first | go_num | (rw [wrap_small (by omega) (by have := HLJ.out; omega)]; go_num), ⟨by have := HKj.out; omega⟩, ⟨by have := HLJ.out; omega⟩, ⟨fun b hb => by
              rcases Nat.lt_or_ge b j with h | h
              · exact HSj.out b h
              · obtain rfl : b = j := by omega
                exact HP.out⟩, ⟨by have h1 := HJ1.out; rw [← HSI.out, Nat.add_assoc] at h1; first | exact h1 | exact HD.out _ _ _ h1⟩⟩
          | false =>
            have HP := Aside0.mk hp
            clear hp
            have hrf : r = false := by
              rw [HR.out]
              exact allN_false.2 ⟨i, HLT.out, allN_false.2 ⟨j, HLJ.out, HP.out⟩⟩
            subst hrf
            go_wp2_with (refine goesV_ (some 26) rfl rfl HF.out HNM.out HBD.out #[.int .i64 i, .int .i64 j] rfl rfl zq340 ?_; refine (HST.out i j HLT.out HLJ.out _ ?sJ).mono ?_; (case sJ => exact zq405); rintro e w1 ⟨he, hj⟩; rw [HP.out] at he; subst he; refine ⟨_, rfl, ?_⟩; have HJ1 := Aside0.mk hj; clear hj)
            go_ret
            exact ⟨rfl, _, by first | exact HJ1.out | exact HD.out _ _ _ HJ1.out, fun h => by cases h⟩
        · have hlj' : decide (j < U.length) = false := decide_eq_false hlj
          obtain rfl : j = U.length := by have := HKj2.out; omega
          clear hlj
          go_wp2_with fail
          go_roundg kn
          case measure => omega
          case rel => exact ⟨i + 1, s + U.length, by first | go_num | (rw [wrap_small (by omega) (by have := HLT.out; omega)]; go_num), ⟨by have := HK.out; omega⟩, ⟨by have := HLT.out; omega⟩, ⟨by rw [Nat.succ_mul, HSI.out]⟩, ⟨fun a ha => by
            rcases Nat.lt_or_ge a i with h | h
            · exact HS.out a h
            · obtain rfl : a = i := by omega
              exact HSj.out⟩, ⟨by first | exact HJj.out | exact HD.out _ _ _ HJj.out⟩⟩
    · have hlt' : decide (i < U.length) = false := decide_eq_false hlt
      obtain rfl : i = U.length := by have := HK2.out; omega
      have hrt : r = true := by
        rw [HR.out, allN_iff]
        intro a ha
        exact allN_iff.2 (HS.out a ha)
      subst hrt
      clear hlt
      go_wp2_with fail
      go_ret
      have hj := HJ.out
      rw [HSI.out] at hj
      exact ⟨rfl, by first | exact hj | exact HD.out _ _ _ hj⟩
theorem every_pure (g : Nat) (U : List (List Int)) (N : List Int) (v : Adr) (w : World) (hs : U.length ≤ 12) (hV : View w g U N v) (fv : Nat) (fn : Func) (cs : Array Value) (hf : Try.prog.funcs[fv]? = some fn) (hname : (fn.name == "runtime.NumGoroutine") = false) (hb : fn.body.isSome = true)
    (p : Nat → Nat → Bool) (step : ∀ a b : Nat, a < U.length → b < U.length → ∀ W, Below w.heap.size w W → Calls Try.prog fv (#[.int .i64 a, .int .i64 b] ++ cs) W fun e w'' => e = .returned (.bool (p a b)) ∧ Below W.heap.size W w'') :
    Calls Try.prog 87 #[.pointer (some ⟨g, 0, none⟩), .func (.func fv) #[] cs] w fun e w' => e = .returned (.bool (allN U.length fun a => allN U.length fun b => p a b)) ∧ Below w.heap.size w w' := by
  refine (every_calls g U N v w hs fv fn cs hf hname hb p (fun _ W => Below w.heap.size w W) (fun _ W h => hV.below h) (fun _ W n h => pw_below_drewN h n) (Below.refl _ _) (fun a b ha hb' W hW => ?_)).mono ?_
  · refine (step a b ha hb' W hW).mono ?_
    rintro e w2 ⟨rfl, h2⟩
    exact ⟨rfl, below_step hW h2⟩
  · rintro e w2 ⟨rfl, i, h2, _⟩
    exact ⟨rfl, h2⟩
def filI (n : Nat) (p : Nat → Bool) : List Int := ((List.range n).filter p).map fun (a : Nat) => (a : Int)
theorem filI_zero (p : Nat → Bool) : filI 0 p = [] := rfl
theorem filI_succ (n : Nat) (p : Nat → Bool) : filI (n + 1) p = if p n = true then filI n p ++ [(n : Int)] else filI n p := by
  unfold filI
  rw [List.range_succ, List.filter_append, List.map_append]
  cases h : p n <;> simp [h]
theorem filI_length (n : Nat) (p : Nat → Bool) : (filI n p).length ≤ n := by
  unfold filI
  rw [List.length_map]
  exact Nat.le_trans (List.length_filter_le _ _) (by simp)
end Go.Proofs.Ytdoomkcgdcfmlaa.Print
end
section
namespace Go.Proofs.Ytdoomkcgdcfmlaa.Print
open Go.RowKit Go.Proofs.YtdoomkcgdcfmlaaW.PrintWords Go.Proofs.YtdoomkcgdcfmlaaW.PrintLast Go.Proofs.YtdoomkcgdcfmlaaW.PrintMore
def spec_l2Both.f (k : Nat) (l0_0 : List (List Int)) (l0_1 : List Int) (a1 : Int) (a2 : Int) : Option (Bool) := (spec_LogicOk.f k l0_0 l0_1).bind fun t601 => (if t601 = true then ((spec_l1In.f a1 0 (wrap64 ((l0_1.length : Int) - 1))).bind fun t602 => (if t602 = true then ((spec_l1In.f a2 0 (wrap64 ((l0_1.length : Int) - 1))).bind fun t603 => (some t603)) else (some false))) else (some false))
set_option maxHeartbeats 8000000 in
set_option maxRecDepth 100000 in
theorem spec_l2Both.calls (k : Nat) (A0_0 : Option Addr) (c0_0 : Nat) (l0_0 : List (List Int)) (A0_1 : Option Addr) (c0_1 : Nat) (l0_1 : List Int) (a1 : Int) (a2 : Int) (r : Bool) (w : World) (hr0_0 : Kd.C (Kd.slice 3 (Kd.int .i64)) w A0_0 l0_0.length l0_0) (hc0_0 : l0_0.length ≤ c0_0) (hr0_1 : Kd.C (Kd.int .i64) w A0_1 l0_1.length l0_1) (hc0_1 : l0_1.length ≤ c0_1) (h : spec_l2Both.f k l0_0 l0_1 a1 a2 = some r) :
  Calls Try.prog 80 #[.agg #[.slice A0_0 l0_0.length c0_0, .slice A0_1 l0_1.length c0_1], .int .i64 a1, .int .i64 a2] w fun e w' => e = .returned (.bool r) ∧ Below w.heap.size w w' := by
 have hu30:=Try.underlying30;have a8:=zqm hr0_0;have a9:=zqm hc0_0;clear hr0_0 hc0_0;have b0:=zqm hr0_1;have b1:=zqm hc0_1;clear hr0_1 hc0_1;have HB:=zqm (Below.refl w.heap.size w);have H:((spec_LogicOk.f k l0_0 l0_1).bind fun b2=>(if b2=true then((spec_l1In.f a1 0 (wrap64 ((l0_1.length:Int) - 1))).bind fun a6=>(if a6=true then((spec_l1In.f a2 0 (wrap64 ((l0_1.length:Int) - 1))).bind fun a4=>(some a4)) else(some false))) else(some false)))=some r:=h;clear h;replace H:=Option.bind_eq_some_iff.mp H;obtain⟨b2,b4,H⟩:=H;replace H:(if b2=true then((spec_l1In.f a1 0 (wrap64 ((l0_1.length:Int) - 1))).bind fun a6=>(if a6=true then((spec_l1In.f a2 0 (wrap64 ((l0_1.length:Int) - 1))).bind fun a4=>(some a4)) else(some false))) else(some false))=some r:=H;have A4:=zqm b4;clear b4
 by_cases c5:b2=true
 ·subst c5;(have H1:((spec_l1In.f a1 0 (wrap64 ((l0_1.length:Int) - 1))).bind fun a6=>(if a6=true then((spec_l1In.f a2 0 (wrap64 ((l0_1.length:Int) - 1))).bind fun a4=>(some a4)) else(some false)))=some r:=by rw [if_pos rfl] at H;exact H);clear H;have H:=H1;clear H1;replace H:=Option.bind_eq_some_iff.mp H;obtain⟨a6,b5,H⟩:=H;replace H:(if a6=true then((spec_l1In.f a2 0 (wrap64 ((l0_1.length:Int) - 1))).bind fun a4=>(some a4)) else(some false))=some r:=H;have A6:=zqm b5;clear b5
  by_cases c7:a6=true
  ·subst c7;(have H1:((spec_l1In.f a2 0 (wrap64 ((l0_1.length:Int) - 1))).bind fun a4=>(some a4))=some r:=by rw [if_pos rfl] at H;exact H);clear H;have H:=H1;clear H1;replace H:=Option.bind_eq_some_iff.mp H;obtain⟨a4,b6,H⟩:=H;replace H:(some a4)=some r:=H;have A8:=zqm b6;clear b6;obtain rfl:=Option.some.inj H
   go_enter Try.func80,Try.ntmps80
   go_wp2_with (first|((with_reducible refine gate_dst (N:=3) rfl ?_);(try(refine gate_guard (by rfl) ?_;dsimp only));refine box_event ?hg (N:=3) ?hd (cs:= #[.slice A0_0 l0_0.length c0_0,.slice A0_1 l0_1.length c0_1]) (t:=30) ?hr ?_;(case hd=>rfl);(case hg=>rfl);(case hr=>first|(go_simp;done)|(go_simp;rfl));intro a3 hg w9 hbox hb;have a7:=zqm (below_step zq0 hb);have a0:=zqm (hbox);have b3:=zqm ((by rw [hg];exact(below_size zq0):w.heap.size≤a3));have a5:=zqm ((by rw [hg];exact(below_size zq0):w.heap.size≤a3));clear HB;have HB:=a7;clear a7 hb hbox hg;have c1:w9.cell? ⟨a3,0,none⟩=some (.slice A0_0 l0_0.length c0_0):=(blk_cell a0.out 0).trans rfl;have c2:w9.cell? ⟨a3,1,none⟩=some (.slice A0_1 l0_1.length c0_1):=(blk_cell a0.out 1).trans rfl;have c3:=blk_frozen a0.out 0;have c4:=blk_frozen a0.out 1)|((with_reducible refine gate_callee (f:=42) rfl ?_);refine goesL_ (some 8) rfl rfl Try.func42 zqk rfl #[.agg #[.slice A0_0 l0_0.length c0_0,.slice A0_1 l0_1.length c0_1]] rfl zq1 ?_;(with_reducible refine(spec_LogicOk.calls k _ _ l0_0 _ _ l0_1 true _ ?side1 ?side2 ?side3 ?side4 A4.out).mono ?_);(case side1=> exact zq26);(case side2=>exact a9.out);(case side3=> exact zq45);(case side4=>exact b1.out);rintro e b7 ⟨rfl,hb⟩;refine⟨_,rfl,?_⟩;replace a0:=zqm (blk_below (g:=a3) (o:= .cells #[.slice A0_0 l0_0.length c0_0,.slice A0_1 l0_1.length c0_1] 30 (0,0)) zq2 hb);replace HB:=zqm (below_step zq18 hb);clear hb;have c6:b7.cell? ⟨a3,0,none⟩=some (.slice A0_0 l0_0.length c0_0):=(blk_cell a0.out 0).trans rfl;have c8:b7.cell? ⟨a3,1,none⟩=some (.slice A0_1 l0_1.length c0_1):=(blk_cell a0.out 1).trans rfl;have c9:=blk_frozen a0.out 0;have d0:=blk_frozen a0.out 1)|(go_at_call 94;(with_reducible refine(spec_l1In.calls a1 0 (wrap64 ((l0_1.length:Int) - 1)) true _ A6.out).mono ?_);rintro e w' ⟨rfl,⟨nd,rfl⟩⟩)|(go_at_call 94;(with_reducible refine(spec_l1In.calls a2 0 (wrap64 ((l0_1.length:Int) - 1)) a4 _ A8.out).mono ?_);rintro e w' ⟨rfl,⟨nd,rfl⟩⟩))
   go_ret
   exact⟨zq11,zq18⟩
  ·replace c7:=Bool.eq_false_iff.mpr c7;subst c7;(have H1:(some false)=some r:=by rw [if_neg (show¬(false=true) by decide)] at H;exact H);clear H;have H:=H1;clear H1;obtain rfl:=Option.some.inj H
   go_enter Try.func80,Try.ntmps80
   go_wp2_with (first|((with_reducible refine gate_dst (N:=3) rfl ?_);(try(refine gate_guard (by rfl) ?_;dsimp only));refine box_event ?hg (N:=3) ?hd (cs:= #[.slice A0_0 l0_0.length c0_0,.slice A0_1 l0_1.length c0_1]) (t:=30) ?hr ?_;(case hd=>rfl);(case hg=>rfl);(case hr=>first|(go_simp;done)|(go_simp;rfl));intro a3 hg b8 hbox hb;have a7:=zqm (below_step zq0 hb);have a0:=zqm (hbox);have b3:=zqm ((by rw [hg];exact(below_size zq0):w.heap.size≤a3));have a5:=zqm ((by rw [hg];exact(below_size zq0):w.heap.size≤a3));clear HB;have HB:=a7;clear a7 hb hbox hg;have d1:b8.cell? ⟨a3,0,none⟩=some (.slice A0_0 l0_0.length c0_0):=(blk_cell a0.out 0).trans rfl;have d2:b8.cell? ⟨a3,1,none⟩=some (.slice A0_1 l0_1.length c0_1):=(blk_cell a0.out 1).trans rfl;have d3:=blk_frozen a0.out 0;have d4:=blk_frozen a0.out 1)|((with_reducible refine gate_callee (f:=42) rfl ?_);refine goesL_ (some 8) rfl rfl Try.func42 zqk rfl #[.agg #[.slice A0_0 l0_0.length c0_0,.slice A0_1 l0_1.length c0_1]] rfl zq1 ?_;(with_reducible refine(spec_LogicOk.calls k _ _ l0_0 _ _ l0_1 true _ ?side1 ?side2 ?side3 ?side4 A4.out).mono ?_);(case side1=> exact zq26);(case side2=>exact a9.out);(case side3=> exact zq45);(case side4=>exact b1.out);rintro e b9 ⟨rfl,hb⟩;refine⟨_,rfl,?_⟩;replace a0:=zqm (blk_below (g:=a3) (o:= .cells #[.slice A0_0 l0_0.length c0_0,.slice A0_1 l0_1.length c0_1] 30 (0,0)) zq2 hb);replace HB:=zqm (below_step zq18 hb);clear hb;have d5:b9.cell? ⟨a3,0,none⟩=some (.slice A0_0 l0_0.length c0_0):=(blk_cell a0.out 0).trans rfl;have d6:b9.cell? ⟨a3,1,none⟩=some (.slice A0_1 l0_1.length c0_1):=(blk_cell a0.out 1).trans rfl;have d7:=blk_frozen a0.out 0;have d8:=blk_frozen a0.out 1)|(go_at_call 94;(with_reducible refine(spec_l1In.calls a1 0 (wrap64 ((l0_1.length:Int) - 1)) false _ A6.out).mono ?_);rintro e w' ⟨rfl,⟨nd,rfl⟩⟩))
   go_ret
   exact⟨zq11,zq18⟩
 ·replace c5:=Bool.eq_false_iff.mpr c5;subst c5;(have H1:(some false)=some r:=by rw [if_neg (show¬(false=true) by decide)] at H;exact H);clear H;have H:=H1;clear H1;obtain rfl:=Option.some.inj H
  go_enter Try.func80,Try.ntmps80
  go_wp2_with (first|((with_reducible refine gate_dst (N:=3) rfl ?_);(try(refine gate_guard (by rfl) ?_;dsimp only));refine box_event ?hg (N:=3) ?hd (cs:= #[.slice A0_0 l0_0.length c0_0,.slice A0_1 l0_1.length c0_1]) (t:=30) ?hr ?_;(case hd=>rfl);(case hg=>rfl);(case hr=>first|(go_simp;done)|(go_simp;rfl));intro a3 hg c0 hbox hb;have a7:=zqm (below_step zq0 hb);have a0:=zqm (hbox);have b3:=zqm ((by rw [hg];exact(below_size zq0):w.heap.size≤a3));have a5:=zqm ((by rw [hg];exact(below_size zq0):w.heap.size≤a3));clear HB;have HB:=a7;clear a7 hb hbox hg;have d9:c0.cell? ⟨a3,0,none⟩=some (.slice A0_0 l0_0.length c0_0):=(blk_cell a0.out 0).trans rfl;have e0:c0.cell? ⟨a3,1,none⟩=some (.slice A0_1 l0_1.length c0_1):=(blk_cell a0.out 1).trans rfl;have e1:=blk_frozen a0.out 0;have e2:=blk_frozen a0.out 1)|((with_reducible refine gate_callee (f:=42) rfl ?_);refine goesL_ (some 8) rfl rfl Try.func42 zqk rfl #[.agg #[.slice A0_0 l0_0.length c0_0,.slice A0_1 l0_1.length c0_1]] rfl zq1 ?_;(with_reducible refine(spec_LogicOk.calls k _ _ l0_0 _ _ l0_1 false _ ?side1 ?side2 ?side3 ?side4 A4.out).mono ?_);(case side1=> exact zq26);(case side2=>exact a9.out);(case side3=> exact zq45);(case side4=>exact b1.out);rintro e e3 ⟨rfl,hb⟩;refine⟨_,rfl,?_⟩;replace a0:=zqm (blk_below (g:=a3) (o:= .cells #[.slice A0_0 l0_0.length c0_0,.slice A0_1 l0_1.length c0_1] 30 (0,0)) zq2 hb);replace HB:=zqm (below_step zq18 hb);clear hb))
  go_ret
  exact⟨zq11,zq18⟩
end Go.Proofs.Ytdoomkcgdcfmlaa.Print
end
section
namespace Go.Proofs.Ytdoomkcgdcfmlaa.Print
open Go.RowKit Go.Proofs.YtdoomkcgdcfmlaaW.PrintWords Go.Proofs.YtdoomkcgdcfmlaaW.PrintLast Go.Proofs.YtdoomkcgdcfmlaaW.PrintMore
open Oml
theorem spec_l2Both.ev (U : List (List Int)) (N : List Int) (a b : Int) : Ev (fun k => spec_l2Both.f k U N a b) (logicB U N && (inR U.length a && inR U.length b)) := by
  unfold spec_l2Both.f
  refine Ev.bind (spec_LogicOk.ev U N) ?_
  cases hl:logicB U N with
  | false => repeat (first | ((with_reducible refine Ev.ite_pos ?_ ?_); (first | assumption | (focus omega) | (focus (simp; done)))) | ((with_reducible refine Ev.ite_neg ?_ ?_); (first | assumption | (focus omega) | (focus (simp; done)))))
             exact Ev.now _
  | true =>
    have L:=logicB_iff.1 hl
    have hs:=L.small
    have hp:=L.pos
    have hln:=L.len
    have e : ∀ c : Int, (decide (0 ≤ c) && decide (c ≤ wrap64 ((N.length : Int) - 1))) = inR U.length c := by
      intro c
      unfold inR
      rw [wrap_small (by omega) (by omega)]
      congr 1
      rw [decide_eq_decide];omega
    repeat(first|((with_reducible refine Ev.ite_pos ?_ ?_);(first|assumption|(focus omega)|(focus (simp;done))))|((with_reducible refine Ev.ite_neg ?_ ?_);(first|assumption|(focus omega)|(focus (simp;done)))))
    simp only [l1In_eq,e]
    refine Ev.pbind rfl ?_
    cases ha:inR U.length a with
    | false => repeat (first | ((with_reducible refine Ev.ite_pos ?_ ?_); (first | assumption | (focus omega) | (focus (simp; done)))) | ((with_reducible refine Ev.ite_neg ?_ ?_); (first | assumption | (focus omega) | (focus (simp; done)))))
               exact Ev.eq (Ev.now _) (by simp)
    | true => repeat (first | ((with_reducible refine Ev.ite_pos ?_ ?_); (first | assumption | (focus omega) | (focus (simp; done)))) | ((with_reducible refine Ev.ite_neg ?_ ?_); (first | assumption | (focus omega) | (focus (simp; done)))))
              exact Ev.eq (Ev.now _) (by simp)
end Go.Proofs.Ytdoomkcgdcfmlaa.Print
end
section
namespace Go.Proofs.Ytdoomkcgdcfmlaa.Print
open Go.RowKit Go.Proofs.YtdoomkcgdcfmlaaW.PrintWords Go.Proofs.YtdoomkcgdcfmlaaW.PrintLast Go.Proofs.YtdoomkcgdcfmlaaW.PrintMore
def spec_NotOf.f (k : Nat) (l0_0 : List (List Int)) (l0_1 : List Int) (a1 : Int) : Option (Int) := (spec_l2Both.f k l0_0 l0_1 a1 a1).bind fun t849 => (if t849 = true then (if 0 ≤ a1 then (if a1 < (l0_1.length : Int) then (some (rd l0_1 a1)) else (none)) else (none)) else (some (-1)))
set_option maxHeartbeats 8000000 in
set_option maxRecDepth 100000 in
theorem spec_NotOf.calls (k : Nat) (A0_0 : Option Addr) (c0_0 : Nat) (l0_0 : List (List Int)) (A0_1 : Option Addr) (c0_1 : Nat) (l0_1 : List Int) (a1 : Int) (r : Int) (w : World) (hr0_0 : Kd.C (Kd.slice 3 (Kd.int .i64)) w A0_0 l0_0.length l0_0) (hc0_0 : l0_0.length ≤ c0_0) (hr0_1 : Kd.C (Kd.int .i64) w A0_1 l0_1.length l0_1) (hc0_1 : l0_1.length ≤ c0_1) (h : spec_NotOf.f k l0_0 l0_1 a1 = some r) :
  Calls Try.prog 96 #[.agg #[.slice A0_0 l0_0.length c0_0, .slice A0_1 l0_1.length c0_1], .int .i64 a1] w fun e w' => e = .returned (.int .i64 r) ∧ Below w.heap.size w w' := by
 have hu30:=Try.underlying30;have b0:=zqm hr0_0;have b1:=zqm hc0_0;clear hr0_0 hc0_0;have a5:=zqm hr0_1;have b2:=zqm hc0_1;clear hr0_1 hc0_1;have HB:=zqm (Below.refl w.heap.size w);have H:((spec_l2Both.f k l0_0 l0_1 a1 a1).bind fun a6=>(if a6=true then(if 0≤a1 then(if a1<(l0_1.length:Int) then(some (rd l0_1 a1)) else(none)) else(none)) else(some (-1))))=some r:=h;clear h;replace H:=Option.bind_eq_some_iff.mp H;obtain⟨a6,b4,H⟩:=H;replace H:(if a6=true then(if 0≤a1 then(if a1<(l0_1.length:Int) then(some (rd l0_1 a1)) else(none)) else(none)) else(some (-1)))=some r:=H;have A3:=zqm b4;clear b4
 by_cases c4:a6=true
 ·subst c4;(have H1:(if 0≤a1 then(if a1<(l0_1.length:Int) then(some (rd l0_1 a1)) else(none)) else(none))=some r:=by rw [if_pos rfl] at H;exact H);clear H;have H:=H1;clear H1
  by_cases c5:0≤a1
  ·rw [if_pos c5] at H;have d3:decide (0≤a1)=true:=decide_eq_true c5;clear c5
   by_cases c6:a1<(l0_1.length:Int)
   ·rw [if_pos c6] at H;have d4:decide (a1<(l0_1.length:Int))=true:=decide_eq_true c6;clear c6;obtain rfl:=Option.some.inj H
    go_enter Try.func96,Try.ntmps96
    go_wp2_with (first|((with_reducible refine gate_dst (N:=2) rfl ?_);refine box_event ?hg (N:=2) ?hd (cs:= #[.slice A0_0 l0_0.length c0_0,.slice A0_1 l0_1.length c0_1]) (t:=30) ?hr ?_;(case hd=>rfl);(case hg=>rfl);(case hr=>first|(go_simp;done)|(go_simp;rfl));intro a2 hg w7 hbox hb;have a7:=zqm (below_step zq0 hb);have a0:=zqm (hbox);have b3:=zqm ((by rw [hg];exact(below_size zq0):w.heap.size≤a2));have a3:=zqm ((by rw [hg];exact(below_size zq0):w.heap.size≤a2));clear HB;have HB:=a7;clear a7 hb hbox hg;have c8:w7.cell? ⟨a2,0,none⟩=some (.slice A0_0 l0_0.length c0_0):=(blk_cell a0.out 0).trans rfl;have c9:w7.cell? ⟨a2,1,none⟩=some (.slice A0_1 l0_1.length c0_1):=(blk_cell a0.out 1).trans rfl;have d0:=blk_frozen a0.out 0;have d1:=blk_frozen a0.out 1)|((with_reducible refine gate_callee (f:=80) rfl ?_);refine goesL_ (some 8) rfl rfl Try.func80 zqk rfl #[.agg #[.slice A0_0 l0_0.length c0_0,.slice A0_1 l0_1.length c0_1],.int .i64 a1,.int .i64 a1] rfl zq1 ?_;(with_reducible refine(spec_l2Both.calls k _ _ l0_0 _ _ l0_1 a1 a1 true _ ?side1 ?side2 ?side3 ?side4 A3.out).mono ?_);(case side1=> exact zq45);(case side2=>exact b1.out);(case side3=> exact zq38);(case side4=>exact b2.out);rintro e w9 ⟨rfl,hb⟩;refine⟨_,rfl,?_⟩;replace a0:=zqm (blk_below (g:=a2) (o:= .cells #[.slice A0_0 l0_0.length c0_0,.slice A0_1 l0_1.length c0_1] 30 (0,0)) zq2 hb);replace HB:=zqm (below_step zq21 hb);clear hb;have b7:w9.cell? ⟨a2,0,none⟩=some (.slice A0_0 l0_0.length c0_0):=(blk_cell a0.out 0).trans rfl;have b8:w9.cell? ⟨a2,1,none⟩=some (.slice A0_1 l0_1.length c0_1):=(blk_cell a0.out 1).trans rfl;have b9:=blk_frozen a0.out 0;have c0:=blk_frozen a0.out 1;have a8:0≤(a1:Int):=zqo;have a9:a1<(l0_1.length:Int):=zqo;obtain⟨d2,b6,a4⟩:=Kd.at_int a5.out a1 a8 a9;cases b6;replace a4:=(HB.out.cell (World.block_lt_of_cell? w _ a4)).trans a4;replace a8:=eq_true a8;replace a9:=eq_true a9))
    go_ret
    exact⟨zq11,zq21⟩
   ·rw [if_neg c6] at H;exact absurd H (by simp)
  ·rw [if_neg c5] at H;exact absurd H (by simp)
 ·replace c4:=Bool.eq_false_iff.mpr c4;subst c4;(have H1:(some (-1))=some r:=by rw [if_neg (show¬(false=true) by decide)] at H;exact H);clear H;have H:=H1;clear H1;obtain rfl:=Option.some.inj H
  go_enter Try.func96,Try.ntmps96
  go_wp2_with (first|((with_reducible refine gate_dst (N:=2) rfl ?_);refine box_event ?hg (N:=2) ?hd (cs:= #[.slice A0_0 l0_0.length c0_0,.slice A0_1 l0_1.length c0_1]) (t:=30) ?hr ?_;(case hd=>rfl);(case hg=>rfl);(case hr=>first|(go_simp;done)|(go_simp;rfl));intro a2 hg b5 hbox hb;have a7:=zqm (below_step zq0 hb);have a0:=zqm (hbox);have b3:=zqm ((by rw [hg];exact(below_size zq0):w.heap.size≤a2));have a3:=zqm ((by rw [hg];exact(below_size zq0):w.heap.size≤a2));clear HB;have HB:=a7;clear a7 hb hbox hg;have c1:b5.cell? ⟨a2,0,none⟩=some (.slice A0_0 l0_0.length c0_0):=(blk_cell a0.out 0).trans rfl;have c2:b5.cell? ⟨a2,1,none⟩=some (.slice A0_1 l0_1.length c0_1):=(blk_cell a0.out 1).trans rfl;have c3:=blk_frozen a0.out 0;have c7:=blk_frozen a0.out 1)|((with_reducible refine gate_callee (f:=80) rfl ?_);refine goesL_ (some 8) rfl rfl Try.func80 zqk rfl #[.agg #[.slice A0_0 l0_0.length c0_0,.slice A0_1 l0_1.length c0_1],.int .i64 a1,.int .i64 a1] rfl zq1 ?_;(with_reducible refine(spec_l2Both.calls k _ _ l0_0 _ _ l0_1 a1 a1 false _ ?side1 ?side2 ?side3 ?side4 A3.out).mono ?_);(case side1=> exact zq45);(case side2=>exact b1.out);(case side3=> exact zq38);(case side4=>exact b2.out);rintro e d5 ⟨rfl,hb⟩;refine⟨_,rfl,?_⟩;replace a0:=zqm (blk_below (g:=a2) (o:= .cells #[.slice A0_0 l0_0.length c0_0,.slice A0_1 l0_1.length c0_1] 30 (0,0)) zq2 hb);replace HB:=zqm (below_step zq21 hb);clear hb))
  go_ret
  exact⟨zq11,zq21⟩
end Go.Proofs.Ytdoomkcgdcfmlaa.Print
end
section
namespace Go.Proofs.Ytdoomkcgdcfmlaa.Print
open Go.RowKit Go.Proofs.YtdoomkcgdcfmlaaW.PrintWords Go.Proofs.YtdoomkcgdcfmlaaW.PrintLast Go.Proofs.YtdoomkcgdcfmlaaW.PrintMore
open Oml
theorem spec_NotOf.ev (U : List (List Int)) (N : List Int) (a : Int) : Ev (fun k => spec_NotOf.f k U N a) (if logicB U N = true then (if inR U.length a = true then notI N a else -1) else -1) := by
  unfold spec_NotOf.f
  refine Ev.bind (spec_l2Both.ev U N a a) ?_
  cases hl:logicB U N with
  | false => repeat (first | ((with_reducible refine Ev.ite_pos ?_ ?_); (first | assumption | (focus omega) | (focus (simp; done)))) | ((with_reducible refine Ev.ite_neg ?_ ?_); (first | assumption | (focus omega) | (focus (simp; done)))))
             exact Ev.now _
  | true =>
    have L:=logicB_iff.1 hl
    cases ha:inR U.length a with
    | false => repeat (first | ((with_reducible refine Ev.ite_pos ?_ ?_); (first | assumption | (focus omega) | (focus (simp; done)))) | ((with_reducible refine Ev.ite_neg ?_ ?_); (first | assumption | (focus omega) | (focus (simp; done)))))
               exact Ev.now _
    | true =>
      have ia:=inR_iff.1 ha
      have h0:=ia.1
      have h1:=ia.2
      have hl2:=L.len
      obtain⟨x,rfl⟩: ∃x:Nat,a=x:=⟨a.toNat,by omega⟩
      repeat(first|((with_reducible refine Ev.ite_pos ?_ ?_);(first|assumption|(focus omega)|(focus (simp;done))))|((with_reducible refine Ev.ite_neg ?_ ?_);(first|assumption|(focus omega)|(focus (simp;done)))))
      exact Ev.eq (Ev.now _) (by rw [rd_nat];rfl)
end Go.Proofs.Ytdoomkcgdcfmlaa.Print
end
section
namespace Go.Proofs.Ytdoomkcgdcfmlaa.Print
open Go.RowKit Go.Proofs.YtdoomkcgdcfmlaaW.PrintWords Go.Proofs.YtdoomkcgdcfmlaaW.PrintLast Go.Proofs.YtdoomkcgdcfmlaaW.PrintMore
open Oml
section
variable {U : List (List Int)} {N : List Int} (L : Logic U N)
include L
theorem meet_in {a b : Int} (ha : In U a) (hb : In U b) : Ev (fun k => spec_l1Meet.f k U a b) (andI U a b) := by
  obtain⟨x,rfl⟩: ∃x:Nat,a=x:=⟨a.toNat,by have:=ha.1;omega⟩
  obtain⟨y,rfl⟩: ∃y:Nat,b=y:=⟨b.toNat,by have:=hb.1;omega⟩
  exact spec_l1Meet.ev L.toOrder (by have:=ha.2;omega) (by have:=hb.2;omega)
theorem join_in {a b : Int} (ha : In U a) (hb : In U b) : Ev (fun k => spec_l1Join.f k U a b) (orI U a b) := by
  obtain⟨x,rfl⟩: ∃x:Nat,a=x:=⟨a.toNat,by have:=ha.1;omega⟩
  obtain⟨y,rfl⟩: ∃y:Nat,b=y:=⟨b.toNat,by have:=hb.1;omega⟩
  exact spec_l1Join.ev L.toOrder (by have:=ha.2;omega) (by have:=hb.2;omega)
end
end Go.Proofs.Ytdoomkcgdcfmlaa.Print
end
section
namespace Go.Proofs.Ytdoomkcgdcfmlaa.Print
open Go.RowKit Go.Proofs.YtdoomkcgdcfmlaaW.PrintWords Go.Proofs.YtdoomkcgdcfmlaaW.PrintLast Go.Proofs.YtdoomkcgdcfmlaaW.PrintMore
open Oml
section
variable {U : List (List Int)} {N : List Int} (L : Logic U N)
theorem fin_of_nat {i : Nat} (h : i < U.length) : ∃ x : Fin U.length, i = x.1 := ⟨⟨i, h⟩, rfl⟩
theorem fin_inj {x y : Fin U.length} : (((x.1 : Nat) : Int) = ((y.1 : Nat) : Int)) ↔ x = y := by
  constructor
  · intro h; exact Fin.ext (by omega)
  · intro h; rw [h]
theorem fin_beq (x y : Fin U.length) : (((x.1 : Nat) : Int) == ((y.1 : Nat) : Int)) = decide (x = y) := by
  rw [Bool.eq_iff_iff, beq_iff_eq, decide_eq_true_eq]; exact fin_inj
theorem and_fin (x y : Fin U.length) : andI U x.1 y.1 = (((L.ol.meet x y).1 : Nat) : Int) := by
  show mI U ((x.1 : Nat) : Int).toNat ((y.1 : Nat) : Int).toNat = _
  unfold mI; rw [Int.toNat_natCast, Int.toNat_natCast, L.mt_eq]; rfl
theorem or_fin (x y : Fin U.length) : orI U x.1 y.1 = (((L.ol.join x y).1 : Nat) : Int) := by
  show jI U ((x.1 : Nat) : Int).toNat ((y.1 : Nat) : Int).toNat = _
  unfold jI; rw [Int.toNat_natCast, Int.toNat_natCast, L.jn_eq]; rfl
theorem not_fin (x : Fin U.length) : notI N x.1 = (((L.ol.neg x).1 : Nat) : Int) := by
  show at1 N ((x.1 : Nat) : Int).toNat = _
  rw [Int.toNat_natCast, L.ng_eq]; rfl
theorem no_fin : noI U = (((L.ol.bot).1 : Nat) : Int) := by
  unfold noI; rw [L.no_eq]; rfl
theorem yes_fin : yesI U N = (((L.ol.top).1 : Nat) : Int) := by
  unfold yesI; rw [no_fin L, not_fin L]; rfl
theorem le_fin (x y : Fin U.length) : leI U x.1 y.1 = true ↔ L.ol.le x y := by
  show leB U ((x.1 : Nat) : Int).toNat ((y.1 : Nat) : Int).toNat = true ↔ _
  rw [Int.toNat_natCast, Int.toNat_natCast]; rfl
theorem leB_fin (x y : Fin U.length) : leB U x.1 y.1 = true ↔ L.ol.le x y := Iff.rfl
theorem allN_fin {n : Nat} {p : Nat → Bool} : allN n p = true ↔ ∀ x : Fin n, p x.1 = true := by
  rw [allN_iff]
  exact ⟨fun h x => h x.1 x.2, fun h i hi => h ⟨i, hi⟩⟩
end
end Go.Proofs.Ytdoomkcgdcfmlaa.Print
end
section
namespace Go.Proofs.Ytdoomkcgdcfmlaa.Print
open Go.RowKit Go.Proofs.YtdoomkcgdcfmlaaW.PrintWords Go.Proofs.YtdoomkcgdcfmlaaW.PrintLast Go.Proofs.YtdoomkcgdcfmlaaW.PrintMore
open Oml
def impl_YesOf.f (l0_0 : List (List Int)) (l0_1 : List Int) : Option (Int) := some (if logicB l0_0 l0_1 = true then (yesI l0_0 l0_1) else (-1))
set_option maxHeartbeats 1000000 in
theorem impl_YesOf.calls (A0_0 : Option Addr) (c0_0 : Nat) (l0_0 : List (List Int)) (A0_1 : Option Addr) (c0_1 : Nat) (l0_1 : List Int) (r : Int) (w : World) (hr0_0 : Kd.C (Kd.slice 3 (Kd.int .i64)) w A0_0 l0_0.length l0_0) (hc0_0 : l0_0.length ≤ c0_0) (hr0_1 : Kd.C (Kd.int .i64) w A0_1 l0_1.length l0_1) (hc0_1 : l0_1.length ≤ c0_1) (h : impl_YesOf.f l0_0 l0_1 = some r) :
    Calls Try.prog 34 #[.agg #[.slice A0_0 l0_0.length c0_0,.slice A0_1 l0_1.length c0_1]] w fun e w'=>e= .returned (.int .i64 r)∧Below w.heap.size w w':=by
  obtain⟨k,hF⟩:=told_facts l0_0
  have hu30:=Try.underlying30
  have hu70:=Try.underlying70
  have HF:=Aside0.mk hF
  have HR0:=Aside0.mk hr0_0
  have HC0:=Aside0.mk hc0_0
  have HR1:=Aside0.mk hr0_1
  have HC1:=Aside0.mk hc0_1
  simp only [impl_YesOf.f,Option.some.injEq] at h
  clear hr0_0 hc0_0 hr0_1 hc0_1 hF
  cases hL:logicB l0_0 l0_1 with
  | false =>
    rw [hL] at h
    have hr_:(-1)=r:=by simpa using h
    subst hr_
    have HLB:=Aside0.mk hL
    clear h hL
    go_enter Try.func34,Try.ntmps34
    go_wp2_with (first|((with_reducible refine gate_dst (N:=1) rfl ?_);refine box_event ?hg (N:=1) ?hd (cs:= #[.slice A0_0 l0_0.length c0_0,.slice A0_1 l0_1.length c0_1]) (t:=30) ?hr ?_;(case hd=>rfl);(case hg=>rfl);(case hr=>first|(go_simp;done)|(go_simp;rfl));intro gb hg_ w1 hbox hb;have HB:=Aside0.mk hb;have hx0:w1.cell? ⟨gb,0,none⟩=some (.slice A0_0 l0_0.length c0_0):=(blk_cell hbox 0).trans rfl;have hx1:w1.cell? ⟨gb,1,none⟩=some (.slice A0_1 l0_1.length c0_1):=(blk_cell hbox 1).trans rfl;have HX:=Aside0.mk hbox;clear hbox hb hg_)|(go_at_call 77;(with_reducible refine(told_n k _ _ l0_0 _ _ l0_1 _ ?s1 ?s2 ?s3 ?s4 HF.out HLB.out).mono ?_);(case s1=>exact Kd.C_below HR0.out HB.out);(case s2=>exact HC0.out);(case s3=>exact Kd.C_below HR1.out HB.out);(case s4=>exact HC1.out);rintro e w2 ⟨rfl,hb⟩;have HB2:=Aside0.mk (below_step HB.out hb);clear hb hx0 hx1 HX HB))
    go_ret
    exact⟨rfl,HB2.out⟩
  | true =>
    rw [hL] at h
    have hr_:(yesI l0_0 l0_1)=r:=by simpa using h
    subst hr_
    have HLB:=Aside0.mk hL
    have HLg:=Aside0.mk (logicB_iff.1 hL)
    clear h hL
    go_enter Try.func34,Try.ntmps34
    go_wp2_with (first|((with_reducible refine gate_dst (N:=1) rfl ?_);refine box_event ?hg (N:=1) ?hd (cs:= #[.slice A0_0 l0_0.length c0_0,.slice A0_1 l0_1.length c0_1]) (t:=30) ?hr ?_;(case hd=>rfl);(case hg=>rfl);(case hr=>first|(go_simp;done)|(go_simp;rfl));intro gb hg_ w1 hbox hb;have HB:=Aside0.mk hb;have hx0:w1.cell? ⟨gb,0,none⟩=some (.slice A0_0 l0_0.length c0_0):=(blk_cell hbox 0).trans rfl;have hx1:w1.cell? ⟨gb,1,none⟩=some (.slice A0_1 l0_1.length c0_1):=(blk_cell hbox 1).trans rfl;have HX:=Aside0.mk hbox;clear hbox hb hg_)|(go_at_call 77;(with_reducible refine(told_y k _ _ l0_0 _ _ l0_1 _ ?s1 ?s2 ?s3 ?s4 HF.out HLB.out).mono ?_);(case s1=>exact Kd.C_below HR0.out HB.out);(case s2=>exact HC0.out);(case s3=>exact Kd.C_below HR1.out HB.out);(case s4=>exact HC1.out);rintro e w2 ⟨g,v,rfl,hv,hge,hb⟩;have HB2:=Aside0.mk (below_step HB.out hb);have HV:=Aside0.mk hv;clear hv hge hb hx0 hx1 HX HB;have hf_:=HV.out.f5))
    go_ret
    exact⟨rfl,HB2.out⟩
end Go.Proofs.Ytdoomkcgdcfmlaa.Print
end
section
namespace Go.Proofs.Ytdoomkcgdcfmlaa.Print
open Go.RowKit Go.Proofs.YtdoomkcgdcfmlaaW.PrintWords Go.Proofs.YtdoomkcgdcfmlaaW.PrintLast Go.Proofs.YtdoomkcgdcfmlaaW.PrintMore
mutual
def spec_KeepsOk.l0 : Nat → Int → List (List Int) → List Int → Option (Bool)
 | 0, _, _, _ => none
 | k + 1, x3, x610000, x610001 => if x3 < (x610001.length : Int) then ((spec_LogicOk.f k x610000 x610001).bind fun t610 => (spec_KeepsOk.j1 k x3 t610 x610000 x610001)) else (spec_KeepsOk.j1 k x3 false x610000 x610001)
def spec_KeepsOk.j1 : Nat → Int → Bool → List (List Int) → List Int → Option (Bool)
 | 0, _, _, _, _ => none
 | k + 1, x3, x13, x610000, x610001 => if x13 = true then (spec_KeepsOk.l1 k x3 0 x610000 x610001) else ((spec_LogicOk.f k x610000 x610001).bind fun t611 => (some t611))
def spec_KeepsOk.l1 : Nat → Int → Int → List (List Int) → List Int → Option (Bool)
 | 0, _, _, _, _ => none
 | k + 1, x3, x4, x610000, x610001 => if x4 < (x610001.length : Int) then (if 0 ≤ x3 then (if x3 < (x610000.length : Int) then (if 0 ≤ x4 then (if x4 < ((rd_L3 x610000 x3).length : Int) then (if (rd (rd_L3 x610000 x3) x4) = 1 then (if x3 < (x610001.length : Int) then ((spec_l1Meet.f k x610000 x4 (rd x610001 x3)).bind fun t615 => ((spec_l1Join.f k x610000 x3 t615).bind fun t616 => (if t616 = x4 then (spec_KeepsOk.l1 k x3 (wrap64 (x4 + 1)) x610000 x610001) else (some false)))) else (none)) else (spec_KeepsOk.l1 k x3 (wrap64 (x4 + 1)) x610000 x610001)) else (none)) else (none)) else (none)) else (none)) else (spec_KeepsOk.l0 k (wrap64 (x3 + 1)) x610000 x610001)
end
def spec_KeepsOk.f (k : Nat) (l0_0 : List (List Int)) (l0_1 : List Int) : Option (Bool) := spec_KeepsOk.l0 k 0 l0_0 l0_1
set_option maxHeartbeats 8000000 in
set_option maxRecDepth 100000 in
theorem spec_KeepsOk.calls (k : Nat) (A0_0 : Option Addr) (c0_0 : Nat) (l0_0 : List (List Int)) (A0_1 : Option Addr) (c0_1 : Nat) (l0_1 : List Int) (r : Bool) (w : World) (hr0_0 : Kd.C (Kd.slice 3 (Kd.int .i64)) w A0_0 l0_0.length l0_0) (hc0_0 : l0_0.length ≤ c0_0) (hr0_1 : Kd.C (Kd.int .i64) w A0_1 l0_1.length l0_1) (hc0_1 : l0_1.length ≤ c0_1) (h : spec_KeepsOk.f k l0_0 l0_1 = some r) :
  Calls Try.prog 22 #[.agg #[.slice A0_0 l0_0.length c0_0, .slice A0_1 l0_1.length c0_1]] w fun e w' => e = .returned (.bool r) ∧ Below w.heap.size w w' := by
 have hu30:=Try.underlying30;have a5:=zqm hr0_0;have a6:=zqm hc0_0;clear hr0_0 hc0_0;have b8:=zqm hr0_1;have c0:=zqm hc0_1;clear hr0_1 hc0_1;have HB:=zqm (Below.refl w.heap.size w);have H:(spec_KeepsOk.l0 k 0 l0_0 l0_1)=some r:=h;clear h;have H':=zqm H;clear H
 go_enter Try.func22,Try.ntmps22
 go_wp2_with (first|((with_reducible refine gate_dst (N:=1) rfl ?_);refine box_event ?hg (N:=1) ?hd (cs:= #[.slice A0_0 l0_0.length c0_0,.slice A0_1 l0_1.length c0_1]) (t:=30) ?hr ?_;(case hd=>rfl);(case hg=>rfl);(case hr=>first|(go_simp;done)|(go_simp;rfl));intro a3 hg w2 hbox hb;have c7:=zqm (below_step zq0 hb);have a0:=zqm (hbox);have f4:=zqm ((by rw [hg];exact(below_size zq0):w.heap.size≤a3));have a4:=zqm ((by rw [hg];exact(below_size zq0):w.heap.size≤a3));clear HB;have HB:=c7;clear c7 hb hbox hg))
 repeat(go_quiet (first|((with_reducible refine gate_dst (N:=1) rfl ?_);refine box_event ?hg (N:=1) ?hd (cs:= #[.slice A0_0 l0_0.length c0_0,.slice A0_1 l0_1.length c0_1]) (t:=30) ?hr ?_;(case hd=>rfl);(case hg=>rfl);(case hr=>first|(go_simp;done)|(go_simp;rfl));intro a3 hg w2 hbox hb;have c7:=zqm (below_step zq0 hb);have a0:=zqm (hbox);have f4:=zqm ((by rw [hg];exact(below_size zq0):w.heap.size≤a3));have a4:=zqm ((by rw [hg];exact(below_size zq0):w.heap.size≤a3));clear HB;have HB:=c7;clear c7 hb hbox hg));try go_wp2_with (first|((with_reducible refine gate_dst (N:=1) rfl ?_);refine box_event ?hg (N:=1) ?hd (cs:= #[.slice A0_0 l0_0.length c0_0,.slice A0_1 l0_1.length c0_1]) (t:=30) ?hr ?_;(case hd=>rfl);(case hg=>rfl);(case hr=>first|(go_simp;done)|(go_simp;rfl));intro a3 hg w2 hbox hb;have c7:=zqm (below_step zq0 hb);have a0:=zqm (hbox);have f4:=zqm ((by rw [hg];exact(below_size zq0):w.heap.size≤a3));have a4:=zqm ((by rw [hg];exact(below_size zq0):w.heap.size≤a3));clear HB;have HB:=c7;clear c7 hb hbox hg)))
 go_loopg [3] k (fun kq v3 w'=> ∃(a1:Int),v3= .int .i64 a1∧Aside0 (spec_KeepsOk.l0 kq a1 l0_0 l0_1=some r)∧Aside0 (kq≤k)∧Aside0 (w'.heap[a3]? =some (.cells #[(.slice A0_0 l0_0.length c0_0),(.slice A0_1 l0_1.length c0_1)] 30 (0,0)))∧Aside0 (Below w.heap.size w w'))
 case atStart=>exact⟨(0),(by first|rfl|(simp;done)|(simp [*];done)),H',⟨Nat.le_refl _⟩,⟨zq2⟩,⟨zq8⟩⟩
 case round=>
  clear H';(try clear c2);(try clear p2);obtain⟨a1,rfl,HA,c8,a0,HB⟩:=hrel
  cases gk with
  |zero=>exact absurd HA.out (by simp [spec_KeepsOk.l0])
  |succ k1=>
   have H:=HA.out;clear HA;simp only [spec_KeepsOk.l0] at H;have g2:=zqm H;clear H
   go_upto_region 2 with (fail)
   repeat(go_quiet (fail);go_upto_region 2 with (fail))
   go_cut [13] (fun j6 wc=> ∃(kq:Nat) (d0:Bool),j6= .bool d0∧Aside0 (spec_KeepsOk.j1 kq a1 d0 l0_0 l0_1=some r)∧Aside0 (kq≤k1)∧Aside0 (wc.heap[a3]? =some (.cells #[(.slice A0_0 l0_0.length c0_0),(.slice A0_1 l0_1.length c0_1)] 30 (0,0)))∧Aside0 (Below w.heap.size w wc))
   case first=>
    have H:=g2.out;clear g2
    by_cases c4:a1<(l0_1.length:Int)
    ·rw [if_pos c4] at H;have c1:decide (a1<(l0_1.length:Int))=true:=decide_eq_true c4;clear c4;(first|rw [c1]|(simp only [i64_w,i32_w];rw [c1])|skip);replace H:=Option.bind_eq_some_iff.mp H;obtain⟨d1,h3,H⟩:=H;replace H:(spec_KeepsOk.j1 k1 a1 d1 l0_0 l0_1)=some r:=H;have A5:=zqm h3;clear h3;have H':=zqm H;clear H;have e3:wr.cell? ⟨a3,0,none⟩=some (.slice A0_0 l0_0.length c0_0):=(blk_cell a0.out 0).trans rfl;have e4:wr.cell? ⟨a3,1,none⟩=some (.slice A0_1 l0_1.length c0_1):=(blk_cell a0.out 1).trans rfl;have e5:=blk_frozen a0.out 0;have e6:=blk_frozen a0.out 1
     go_wp2_with (first|(go_at_call 42;(with_reducible refine(spec_LogicOk.calls k1 _ _ l0_0 _ _ l0_1 d1 _ ?side1 ?side2 ?side3 ?side4 A5.out).mono ?_);(case side1=> exact zq38);(case side2=>exact a6.out);(case side3=> exact zq127);(case side4=>exact c0.out);rintro e w7 ⟨rfl,hb⟩;replace a0:=zqm (blk_below (g:=a3) (o:= .cells #[.slice A0_0 l0_0.length c0_0,.slice A0_1 l0_1.length c0_1] 30 (0,0)) zq2 hb);replace HB:=zqm (below_step zq8 hb);clear hb))
     repeat(go_quiet (first|(go_at_call 42;(with_reducible refine(spec_LogicOk.calls k1 _ _ l0_0 _ _ l0_1 d1 _ ?side1 ?side2 ?side3 ?side4 A5.out).mono ?_);(case side1=> exact zq38);(case side2=>exact a6.out);(case side3=> exact zq127);(case side4=>exact c0.out);rintro e w7 ⟨rfl,hb⟩;replace a0:=zqm (blk_below (g:=a3) (o:= .cells #[.slice A0_0 l0_0.length c0_0,.slice A0_1 l0_1.length c0_1] 30 (0,0)) zq2 hb);replace HB:=zqm (below_step zq8 hb);clear hb));try go_wp2_with (first|(go_at_call 42;(with_reducible refine(spec_LogicOk.calls k1 _ _ l0_0 _ _ l0_1 d1 _ ?side1 ?side2 ?side3 ?side4 A5.out).mono ?_);(case side1=> exact zq38);(case side2=>exact a6.out);(case side3=> exact zq127);(case side4=>exact c0.out);rintro e w7 ⟨rfl,hb⟩;replace a0:=zqm (blk_below (g:=a3) (o:= .cells #[.slice A0_0 l0_0.length c0_0,.slice A0_1 l0_1.length c0_1] 30 (0,0)) zq2 hb);replace HB:=zqm (below_step zq8 hb);clear hb)))
     go_meet
     case rel=>exact⟨_,(d1),(by first|rfl|(simp;done)|(simp [*];done)),H',⟨by have:=c8.out;first|omega|exact Nat.le_refl _⟩,⟨zq2⟩,⟨zq8⟩⟩
    ·rw [if_neg c4] at H;have c1:decide (a1<(l0_1.length:Int))=false:=decide_eq_false c4;clear c4;(first|rw [c1]|(simp only [i64_w,i32_w];rw [c1])|skip);have H':=zqm H;clear H;have e7:wr.cell? ⟨a3,0,none⟩=some (.slice A0_0 l0_0.length c0_0):=(blk_cell a0.out 0).trans rfl;have e8:wr.cell? ⟨a3,1,none⟩=some (.slice A0_1 l0_1.length c0_1):=(blk_cell a0.out 1).trans rfl;have e9:=blk_frozen a0.out 0;have f0:=blk_frozen a0.out 1
     go_wp2
     repeat(go_quiet (fail);try go_wp2)
     go_meet
     case rel=>exact⟨_,(false),(by first|rfl|(simp;done)|(simp [*];done)),H',⟨by have:=c8.out;first|omega|exact Nat.le_refl _⟩,⟨zq2⟩,⟨zq8⟩⟩
   case rest=>
    clear g2;(try clear c2);(try clear p2);(try clear c4);(try clear c1);(try clear e3);(try clear e4);(try clear e7);(try clear e8);(try clear e5);(try clear e6);(try clear e9);(try clear f0);(try clear p2);obtain⟨kq,d0,rfl,HA,d7,a0,HB⟩:=hcut
    cases kq with
    |zero=>exact absurd HA.out (by simp [spec_KeepsOk.j1])
    |succ d2=>
     have H:=HA.out;clear HA;simp only [spec_KeepsOk.j1] at H
     by_cases c9:d0=true
     ·subst c9;(have H1:(spec_KeepsOk.l1 d2 a1 0 l0_0 l0_1)=some r:=by rw [if_pos rfl] at H;exact H);clear H;have H:=H1;clear H1;have H':=zqm H;clear H
      go_wp2
      repeat(go_quiet (fail);try go_wp2)
      go_loopg [4] d2 (fun kq v4 w'=> ∃(a2:Int),v4= .int .i64 a2∧Aside0 (spec_KeepsOk.l1 kq a1 a2 l0_0 l0_1=some r)∧Aside0 (kq≤d2)∧Aside0 (w'.heap[a3]? =some (.cells #[(.slice A0_0 l0_0.length c0_0),(.slice A0_1 l0_1.length c0_1)] 30 (0,0)))∧Aside0 (Below w.heap.size w w'))
      case atStart=>exact⟨(0),(by first|rfl|(simp;done)|(simp [*];done)),H',⟨Nat.le_refl _⟩,⟨zq2⟩,⟨zq8⟩⟩
      case round=>
       clear H';(try clear c2);(try clear p2);(try clear c4);(try clear c1);(try clear c9);(try clear e3);(try clear e4);(try clear e7);(try clear e8);(try clear e5);(try clear e6);(try clear e9);(try clear f0);(try clear p2);obtain⟨a2,rfl,HA,d8,a0,HB⟩:=hrel
       cases gk with
       |zero=>exact absurd HA.out (by simp [spec_KeepsOk.l1])
       |succ k3=>
        have H:=HA.out;clear HA;simp only [spec_KeepsOk.l1] at H
        by_cases d9:a2<(l0_1.length:Int)
        ·rw [if_pos d9] at H;have g7:decide (a2<(l0_1.length:Int))=true:=decide_eq_true d9;clear d9
         by_cases f5:0≤a1
         ·rw [if_pos f5] at H;have j7:decide (0≤a1)=true:=decide_eq_true f5;clear f5
          by_cases f6:a1<(l0_0.length:Int)
          ·rw [if_pos f6] at H;have j8:decide (a1<(l0_0.length:Int))=true:=decide_eq_true f6;clear f6
           by_cases f7:0≤a2
           ·rw [if_pos f7] at H;have j9:decide (0≤a2)=true:=decide_eq_true f7;clear f7
            by_cases f8:a2<((rd_L3 l0_0 a1).length:Int)
            ·rw [if_pos f8] at H;have k0:decide (a2<((rd_L3 l0_0 a1).length:Int))=true:=decide_eq_true f8;clear f8
             by_cases d3:(rd (rd_L3 l0_0 a1) a2)=1
             ·rw [if_pos d3] at H;have g8:((rd (rd_L3 l0_0 a1) a2)==1)=true:=beq_iff_eq.mpr d3;have g9:((rd (rd_L3 l0_0 a1) a2) !=1)=false:=bne_eq_false_iff_eq.mpr d3;clear d3
              by_cases f9:a1<(l0_1.length:Int)
              ·rw [if_pos f9] at H;have k2:decide (a1<(l0_1.length:Int))=true:=decide_eq_true f9;clear f9;replace H:=Option.bind_eq_some_iff.mp H;obtain⟨b2,g3,H⟩:=H;replace H:((spec_l1Join.f k3 l0_0 a1 b2).bind fun b1=>(if b1=a2 then(spec_KeepsOk.l1 k3 a1 (wrap64 (a2+1)) l0_0 l0_1) else(some false)))=some r:=H;have e0:=zqm g3;clear g3;replace H:=Option.bind_eq_some_iff.mp H;obtain⟨b1,g4,H⟩:=H;replace H:(if b1=a2 then(spec_KeepsOk.l1 k3 a1 (wrap64 (a2+1)) l0_0 l0_1) else(some false))=some r:=H;have e1:=zqm g4;clear g4
               by_cases d4:b1=a2
               ·rw [if_pos d4] at H;have h0:(b1==a2)=true:=beq_iff_eq.mpr d4;have h1:(b1 !=a2)=false:=bne_eq_false_iff_eq.mpr d4;clear d4;have H':=zqm H;clear H;have h5:wr.cell? ⟨a3,0,none⟩=some (.slice A0_0 l0_0.length c0_0):=(blk_cell a0.out 0).trans rfl;have h6:wr.cell? ⟨a3,1,none⟩=some (.slice A0_1 l0_1.length c0_1):=(blk_cell a0.out 1).trans rfl;have h7:=blk_frozen a0.out 0;have h8:=blk_frozen a0.out 1;have b4:0≤(a1:Int):=zqo;have b5:a1<(l0_0.length:Int):=zqo;obtain⟨g0,f1,f2,d5,a7,a9,b0⟩:=at_L3 a5.out a1 b4 b5
                cases d5
                replace a7:=(HB.out.cell (World.block_lt_of_cell? w _ a7)).trans a7;have b9:=zqm b0;have e2:=zqm a9;clear b0 a9;replace b4:=eq_true b4;replace b5:=eq_true b5;have b6:0≤(a2:Int):=zqo;have b7:a2<((rd_L3 l0_0 a1).length:Int):=zqo;obtain⟨g1,d6,a8⟩:=Kd.at_int b9.out a2 b6 b7
                cases d6
                replace a8:=(HB.out.cell (World.block_lt_of_cell? w _ a8)).trans a8;replace b6:=eq_true b6;replace b7:=eq_true b7;have c3:0≤(a1:Int):=zqo;have c5:a1<(l0_1.length:Int):=zqo;obtain⟨h2,f3,b3⟩:=Kd.at_int b8.out a1 c3 c5
                cases f3
                replace b3:=(HB.out.cell (World.block_lt_of_cell? w _ b3)).trans b3;replace c3:=eq_true c3;replace c5:=eq_true c5
                go_wp2_with (first|(go_at_call 81;(with_reducible refine(spec_l1Meet.calls k3 _ _ l0_0 a2 (rd l0_1 a1) b2 _ ?side1 ?side2 e0.out).mono ?_);(case side1=> exact zq38);(case side2=>exact a6.out);rintro e w' ⟨rfl,⟨nd,rfl⟩⟩;(try first|exact⟨rfl,_,World.drewN_drewN _ _ _⟩|exact⟨rfl,_,Eq.trans (World.drewN_drewN _ _ _) (congrArg (World.drewN _) (Nat.add_assoc _ _ _))⟩))|(go_at_call 82;(with_reducible refine(spec_l1Join.calls k3 _ _ l0_0 a1 b2 b1 _ ?side1 ?side2 e1.out).mono ?_);(case side1=> exact zq62);(case side2=>exact a6.out);rintro e w' ⟨rfl,⟨nd,rfl⟩⟩;(try first|exact⟨rfl,_,World.drewN_drewN _ _ _⟩|exact⟨rfl,_,Eq.trans (World.drewN_drewN _ _ _) (congrArg (World.drewN _) (Nat.add_assoc _ _ _))⟩)))
                repeat(go_quiet (first|(go_at_call 81;(with_reducible refine(spec_l1Meet.calls k3 _ _ l0_0 a2 (rd l0_1 a1) b2 _ ?side1 ?side2 e0.out).mono ?_);(case side1=> exact zq38);(case side2=>exact a6.out);rintro e w' ⟨rfl,⟨nd,rfl⟩⟩;(try first|exact⟨rfl,_,World.drewN_drewN _ _ _⟩|exact⟨rfl,_,Eq.trans (World.drewN_drewN _ _ _) (congrArg (World.drewN _) (Nat.add_assoc _ _ _))⟩))|(go_at_call 82;(with_reducible refine(spec_l1Join.calls k3 _ _ l0_0 a1 b2 b1 _ ?side1 ?side2 e1.out).mono ?_);(case side1=> exact zq62);(case side2=>exact a6.out);rintro e w' ⟨rfl,⟨nd,rfl⟩⟩;(try first|exact⟨rfl,_,World.drewN_drewN _ _ _⟩|exact⟨rfl,_,Eq.trans (World.drewN_drewN _ _ _) (congrArg (World.drewN _) (Nat.add_assoc _ _ _))⟩)));try go_wp2_with (first|(go_at_call 81;(with_reducible refine(spec_l1Meet.calls k3 _ _ l0_0 a2 (rd l0_1 a1) b2 _ ?side1 ?side2 e0.out).mono ?_);(case side1=> exact zq38);(case side2=>exact a6.out);rintro e w' ⟨rfl,⟨nd,rfl⟩⟩;(try first|exact⟨rfl,_,World.drewN_drewN _ _ _⟩|exact⟨rfl,_,Eq.trans (World.drewN_drewN _ _ _) (congrArg (World.drewN _) (Nat.add_assoc _ _ _))⟩))|(go_at_call 82;(with_reducible refine(spec_l1Join.calls k3 _ _ l0_0 a1 b2 b1 _ ?side1 ?side2 e1.out).mono ?_);(case side1=> exact zq62);(case side2=>exact a6.out);rintro e w' ⟨rfl,⟨nd,rfl⟩⟩;(try first|exact⟨rfl,_,World.drewN_drewN _ _ _⟩|exact⟨rfl,_,Eq.trans (World.drewN_drewN _ _ _) (congrArg (World.drewN _) (Nat.add_assoc _ _ _))⟩))))
                go_roundg k3
                (case measure=> exact zq370);case rel=>exact⟨(wrap64 (a2+1)),(by first|rfl|(simp;done)|(simp [*];done)),H',⟨zq370⟩,⟨zq2⟩,⟨zq8⟩⟩
               ·rw [if_neg d4] at H;have h0:(b1==a2)=false:=beq_eq_false_iff_ne.mpr d4;have h1:(b1 !=a2)=true:=bne_iff_ne.mpr d4;obtain rfl:=Option.some.inj H;have h9:wr.cell? ⟨a3,0,none⟩=some (.slice A0_0 l0_0.length c0_0):=(blk_cell a0.out 0).trans rfl;have i0:wr.cell? ⟨a3,1,none⟩=some (.slice A0_1 l0_1.length c0_1):=(blk_cell a0.out 1).trans rfl;have i1:=blk_frozen a0.out 0;have i2:=blk_frozen a0.out 1;have b4:0≤(a1:Int):=zqo;have b5:a1<(l0_0.length:Int):=zqo;obtain⟨g0,f1,f2,d5,a7,a9,b0⟩:=at_L3 a5.out a1 b4 b5
                cases d5
                replace a7:=(HB.out.cell (World.block_lt_of_cell? w _ a7)).trans a7;have b9:=zqm b0;have e2:=zqm a9;clear b0 a9;replace b4:=eq_true b4;replace b5:=eq_true b5;have b6:0≤(a2:Int):=zqo;have b7:a2<((rd_L3 l0_0 a1).length:Int):=zqo;obtain⟨g1,d6,a8⟩:=Kd.at_int b9.out a2 b6 b7
                cases d6
                replace a8:=(HB.out.cell (World.block_lt_of_cell? w _ a8)).trans a8;replace b6:=eq_true b6;replace b7:=eq_true b7;have c3:0≤(a1:Int):=zqo;have c5:a1<(l0_1.length:Int):=zqo;obtain⟨h2,f3,b3⟩:=Kd.at_int b8.out a1 c3 c5
                cases f3
                replace b3:=(HB.out.cell (World.block_lt_of_cell? w _ b3)).trans b3;replace c3:=eq_true c3;replace c5:=eq_true c5
                go_wp2_with (first|(go_at_call 81;(with_reducible refine(spec_l1Meet.calls k3 _ _ l0_0 a2 (rd l0_1 a1) b2 _ ?side1 ?side2 e0.out).mono ?_);(case side1=> exact zq38);(case side2=>exact a6.out);rintro e w' ⟨rfl,⟨nd,rfl⟩⟩;(try first|exact⟨rfl,_,World.drewN_drewN _ _ _⟩|exact⟨rfl,_,Eq.trans (World.drewN_drewN _ _ _) (congrArg (World.drewN _) (Nat.add_assoc _ _ _))⟩))|(go_at_call 82;(with_reducible refine(spec_l1Join.calls k3 _ _ l0_0 a1 b2 b1 _ ?side1 ?side2 e1.out).mono ?_);(case side1=> exact zq62);(case side2=>exact a6.out);rintro e w' ⟨rfl,⟨nd,rfl⟩⟩;(try first|exact⟨rfl,_,World.drewN_drewN _ _ _⟩|exact⟨rfl,_,Eq.trans (World.drewN_drewN _ _ _) (congrArg (World.drewN _) (Nat.add_assoc _ _ _))⟩)))
                repeat(go_quiet (first|(go_at_call 81;(with_reducible refine(spec_l1Meet.calls k3 _ _ l0_0 a2 (rd l0_1 a1) b2 _ ?side1 ?side2 e0.out).mono ?_);(case side1=> exact zq38);(case side2=>exact a6.out);rintro e w' ⟨rfl,⟨nd,rfl⟩⟩;(try first|exact⟨rfl,_,World.drewN_drewN _ _ _⟩|exact⟨rfl,_,Eq.trans (World.drewN_drewN _ _ _) (congrArg (World.drewN _) (Nat.add_assoc _ _ _))⟩))|(go_at_call 82;(with_reducible refine(spec_l1Join.calls k3 _ _ l0_0 a1 b2 b1 _ ?side1 ?side2 e1.out).mono ?_);(case side1=> exact zq62);(case side2=>exact a6.out);rintro e w' ⟨rfl,⟨nd,rfl⟩⟩;(try first|exact⟨rfl,_,World.drewN_drewN _ _ _⟩|exact⟨rfl,_,Eq.trans (World.drewN_drewN _ _ _) (congrArg (World.drewN _) (Nat.add_assoc _ _ _))⟩)));try go_wp2_with (first|(go_at_call 81;(with_reducible refine(spec_l1Meet.calls k3 _ _ l0_0 a2 (rd l0_1 a1) b2 _ ?side1 ?side2 e0.out).mono ?_);(case side1=> exact zq38);(case side2=>exact a6.out);rintro e w' ⟨rfl,⟨nd,rfl⟩⟩;(try first|exact⟨rfl,_,World.drewN_drewN _ _ _⟩|exact⟨rfl,_,Eq.trans (World.drewN_drewN _ _ _) (congrArg (World.drewN _) (Nat.add_assoc _ _ _))⟩))|(go_at_call 82;(with_reducible refine(spec_l1Join.calls k3 _ _ l0_0 a1 b2 b1 _ ?side1 ?side2 e1.out).mono ?_);(case side1=> exact zq62);(case side2=>exact a6.out);rintro e w' ⟨rfl,⟨nd,rfl⟩⟩;(try first|exact⟨rfl,_,World.drewN_drewN _ _ _⟩|exact⟨rfl,_,Eq.trans (World.drewN_drewN _ _ _) (congrArg (World.drewN _) (Nat.add_assoc _ _ _))⟩))))
                go_ret
                exact⟨zq11,zq8⟩
              ·rw [if_neg f9] at H;exact absurd H (by simp)
             ·rw [if_neg d3] at H;have g8:((rd (rd_L3 l0_0 a1) a2)==1)=false:=beq_eq_false_iff_ne.mpr d3;have g9:((rd (rd_L3 l0_0 a1) a2) !=1)=true:=bne_iff_ne.mpr d3;have H':=zqm H;clear H;have i3:wr.cell? ⟨a3,0,none⟩=some (.slice A0_0 l0_0.length c0_0):=(blk_cell a0.out 0).trans rfl;have i4:wr.cell? ⟨a3,1,none⟩=some (.slice A0_1 l0_1.length c0_1):=(blk_cell a0.out 1).trans rfl;have i5:=blk_frozen a0.out 0;have i6:=blk_frozen a0.out 1;have b4:0≤(a1:Int):=zqo;have b5:a1<(l0_0.length:Int):=zqo;obtain⟨g0,f1,f2,d5,a7,a9,b0⟩:=at_L3 a5.out a1 b4 b5
              cases d5
              replace a7:=(HB.out.cell (World.block_lt_of_cell? w _ a7)).trans a7;have b9:=zqm b0;have e2:=zqm a9;clear b0 a9;replace b4:=eq_true b4;replace b5:=eq_true b5;have b6:0≤(a2:Int):=zqo;have b7:a2<((rd_L3 l0_0 a1).length:Int):=zqo;obtain⟨g1,d6,a8⟩:=Kd.at_int b9.out a2 b6 b7
              cases d6
              replace a8:=(HB.out.cell (World.block_lt_of_cell? w _ a8)).trans a8;replace b6:=eq_true b6;replace b7:=eq_true b7
              go_wp2
              repeat(go_quiet (fail);try go_wp2)
              go_roundg k3
              (case measure=> exact zq370);case rel=>exact⟨(wrap64 (a2+1)),(by first|rfl|(simp;done)|(simp [*];done)),H',⟨zq370⟩,⟨zq2⟩,⟨zq8⟩⟩
            ·rw [if_neg f8] at H;exact absurd H (by simp)
           ·rw [if_neg f7] at H;exact absurd H (by simp)
          ·rw [if_neg f6] at H;exact absurd H (by simp)
         ·rw [if_neg f5] at H;exact absurd H (by simp)
        ·rw [if_neg d9] at H;have g7:decide (a2<(l0_1.length:Int))=false:=decide_eq_false d9;clear d9;have H':=zqm H;clear H;have i7:wr.cell? ⟨a3,0,none⟩=some (.slice A0_0 l0_0.length c0_0):=(blk_cell a0.out 0).trans rfl;have i8:wr.cell? ⟨a3,1,none⟩=some (.slice A0_1 l0_1.length c0_1):=(blk_cell a0.out 1).trans rfl;have i9:=blk_frozen a0.out 0;have j0:=blk_frozen a0.out 1
         go_wp2
         repeat(go_quiet (fail);try go_wp2)
         go_roundg k3
         (case measure=> exact zq370);case rel=>exact⟨(wrap64 (a1+1)),(by first|rfl|(simp;done)|(simp [*];done)),H',⟨zq370⟩,⟨zq2⟩,⟨zq8⟩⟩
     ·replace c9:=Bool.eq_false_iff.mpr c9;subst c9;(have H1:((spec_LogicOk.f d2 l0_0 l0_1).bind fun c6=>(some c6))=some r:=by rw [if_neg (show¬(false=true) by decide)] at H;exact H);clear H;have H:=H1;clear H1;replace H:=Option.bind_eq_some_iff.mp H;obtain⟨c6,g5,H⟩:=H;replace H:(some c6)=some r:=H;have g6:=zqm g5;clear g5;obtain rfl:=Option.some.inj H;have j2:wc.cell? ⟨a3,0,none⟩=some (.slice A0_0 l0_0.length c0_0):=(blk_cell a0.out 0).trans rfl;have j3:wc.cell? ⟨a3,1,none⟩=some (.slice A0_1 l0_1.length c0_1):=(blk_cell a0.out 1).trans rfl;have j4:=blk_frozen a0.out 0;have j5:=blk_frozen a0.out 1
      go_wp2_with (first|(go_at_call 42;(with_reducible refine(spec_LogicOk.calls d2 _ _ l0_0 _ _ l0_1 c6 _ ?side1 ?side2 ?side3 ?side4 g6.out).mono ?_);(case side1=> exact zq38);(case side2=>exact a6.out);(case side3=> exact zq127);(case side4=>exact c0.out);rintro e h4 ⟨rfl,hb⟩;replace a0:=zqm (blk_below (g:=a3) (o:= .cells #[.slice A0_0 l0_0.length c0_0,.slice A0_1 l0_1.length c0_1] 30 (0,0)) zq2 hb);replace HB:=zqm (below_step zq8 hb);clear hb))
      repeat(go_quiet (first|(go_at_call 42;(with_reducible refine(spec_LogicOk.calls d2 _ _ l0_0 _ _ l0_1 c6 _ ?side1 ?side2 ?side3 ?side4 g6.out).mono ?_);(case side1=> exact zq38);(case side2=>exact a6.out);(case side3=> exact zq127);(case side4=>exact c0.out);rintro e h4 ⟨rfl,hb⟩;replace a0:=zqm (blk_below (g:=a3) (o:= .cells #[.slice A0_0 l0_0.length c0_0,.slice A0_1 l0_1.length c0_1] 30 (0,0)) zq2 hb);replace HB:=zqm (below_step zq8 hb);clear hb));try go_wp2_with (first|(go_at_call 42;(with_reducible refine(spec_LogicOk.calls d2 _ _ l0_0 _ _ l0_1 c6 _ ?side1 ?side2 ?side3 ?side4 g6.out).mono ?_);(case side1=> exact zq38);(case side2=>exact a6.out);(case side3=> exact zq127);(case side4=>exact c0.out);rintro e h4 ⟨rfl,hb⟩;replace a0:=zqm (blk_below (g:=a3) (o:= .cells #[.slice A0_0 l0_0.length c0_0,.slice A0_1 l0_1.length c0_1] 30 (0,0)) zq2 hb);replace HB:=zqm (below_step zq8 hb);clear hb)))
      go_ret
      exact⟨zq11,zq8⟩
end Go.Proofs.Ytdoomkcgdcfmlaa.Print
end
section
namespace Go.Proofs.Ytdoomkcgdcfmlaa.Print
open Go.RowKit Go.Proofs.YtdoomkcgdcfmlaaW.PrintWords Go.Proofs.YtdoomkcgdcfmlaaW.PrintLast Go.Proofs.YtdoomkcgdcfmlaaW.PrintMore
open Oml
theorem Drawn0.quiet {P : Program} {f : FuncId} {args : Array Value} {w : World} {n : Nat} {v : Value}
    (h:Calls P f args (w.drewN n) fun e w'=>e= .returned v∧Drawn0 (w.drewN n) w'):Calls P f args (w.drewN n) fun e w''=>e= .returned v∧ ∃m,w''=w.drewN m:=
  h.mono fun _ _ ⟨he,⟨⟨m,hm⟩⟩⟩=>⟨he,n+m,by rw [hm,World.drewN_drewN]⟩
theorem Drawn0.quiet2 {P : Program} {f : FuncId} {args : Array Value} {w : World} {a n : Nat} {v : Value}
    (h:Calls P f args (w.drewN (a+n)) fun e w'=>e= .returned v∧Drawn0 (w.drewN (a+n)) w'):Calls P f args (w.drewN (a+n)) fun e w''=>e= .returned v∧ ∃m,w''=w.drewN (a+m):=
  h.mono fun _ _ ⟨he,⟨⟨m,hm⟩⟩⟩=>⟨he,n+m,by rw [hm,World.drewN_drewN,Nat.add_assoc]⟩
def keepT (U : List (List Int)) (N : List Int) (a b : Int) : Bool := (at2 U a.toNat b.toNat == 0) || (orI U a (andI U b (notI N a)) == b)
def keepB (U : List (List Int)) (N : List Int) : Bool := allN U.length fun a => allN U.length fun b => keepT U N a b
end Go.Proofs.Ytdoomkcgdcfmlaa.Print
end
section
namespace Go.Proofs.Ytdoomkcgdcfmlaa.Print
open Go.RowKit Go.Proofs.YtdoomkcgdcfmlaaW.PrintWords Go.Proofs.YtdoomkcgdcfmlaaW.PrintLast Go.Proofs.YtdoomkcgdcfmlaaW.PrintMore
open Oml
theorem spec_KeepsOk.ev (U : List (List Int)) (N : List Int) : Ev (fun k => spec_KeepsOk.f k U N) (if logicB U N = true then keepB U N else false) := by
  unfold spec_KeepsOk.f
  have hlo:=spec_LogicOk.ev U N
  cases hg:logicB U N with
  | false =>
    rw [hg] at hlo
    rw [if_neg (by simp)]
    refine Ev.succ ?_
    simp only [spec_KeepsOk.l0]
    have hj : Ev (fun k => spec_KeepsOk.j1 k 0 false U N) false := by
      refine Ev.succ ?_
      simp only [spec_KeepsOk.j1]
      exact Ev.ite_neg (by simp) (Ev.bind hlo (Ev.now _))
    by_cases h0:(0:Int)<(N.length:Int)
    · exact Ev.ite_pos h0 (Ev.bind hlo hj)
    · exact Ev.ite_neg h0 hj
  | true =>
    rw [hg] at hlo
    have L:=logicB_iff.1 hg
    have hlen:=L.len
    have hsm:=L.small
    rw [if_pos rfl]
    unfold keepB
    refine Ev.eq (Ev.all (g:=fun k i=>spec_KeepsOk.l0 k i U N) (n:=U.length) (fun a=>allN U.length fun b=>keepT U N a b) (go:=true) (stop:=false) (by omega) (fun _=>?_) (fun i hi _ R hR=>?_)) (by cases allN U.length _ <;> rfl)
    · refine Ev.succ ?_
      simp only [spec_KeepsOk.l0]
      refine Ev.ite_neg (by omega) (Ev.succ ?_)
      simp only [spec_KeepsOk.j1]
      exact Ev.ite_neg (by simp) (Ev.bind hlo (Ev.now _))
    · refine Ev.succ ?_
      simp only [spec_KeepsOk.l0]
      refine Ev.ite_pos (by omega) (Ev.bind hlo (Ev.succ ?_))
      simp only [spec_KeepsOk.j1]
      refine Ev.ite_pos (by simp) ?_
      have hrow:=L.row i hi
      have hran:=L.ran i hi
      refine Ev.all (g:=fun k j=>spec_KeepsOk.l1 k (i:Int) j U N) (n:=U.length) (fun b=>keepT U N i b) (go:=R) (stop:=false) (by omega) (fun hall=>?_) (fun j hj _ R' hR'=>?_)
      · refine Ev.succ ?_
        simp only [spec_KeepsOk.l1]
        exact Ev.ite_neg (by omega) (hR (allN_iff.2 hall))
      · refine Ev.succ ?_
        simp only [spec_KeepsOk.l1,rdL_nat,rd_nat,rd_row,hrow]
        refine Ev.ite_pos (by omega) (Ev.ite_pos (by omega) (Ev.ite_pos (by omega) (Ev.ite_pos (by omega) (Ev.ite_pos (by omega) ?_))))
        have hk : keepT U N i j = ((at2 U i j == 0) || (orI U i (andI U j (notI N i)) == (j : Int))) := by
          unfold keepT;rw [Int.toNat_natCast,Int.toNat_natCast]
        rcases L.bit i j hi hj with e|e
        · rw [hk, e] at hR' ⊢
          exact Ev.ite_neg (by omega) (hR' rfl)
        · have iI : In U ((i : Nat) : Int) := ⟨by omega, by omega⟩
          have iJ:In U ((j:Nat):Int):=⟨by omega,by omega⟩
          have hn:at1 N i=notI N (i:Int):=by unfold notI;rw [Int.toNat_natCast]
          rw [hk,e] at hR' ⊢
          rw [hn]
          refine Ev.ite_pos (by simp) (Ev.ite_pos (by omega) (Ev.bind (meet_in L iJ (L.in_not iI)) (Ev.bind (join_in L iI (L.in_and iJ (L.in_not iI))) ?_)))
          by_cases c:orI U i (andI U j (notI N i))=(j:Int)
          · have c2 : ((1 : Int) == 0 || (orI U i (andI U j (notI N i)) == (j : Int))) = true := by rw [c]; simp
            rw [c2] at hR' ⊢
            exact Ev.ite_pos c (hR' rfl)
          · have c2 : ((1 : Int) == 0 || (orI U i (andI U j (notI N i)) == (j : Int))) = false := by
              rw [Bool.or_eq_false_iff];exact⟨rfl,beq_eq_false_iff_ne.2 c⟩
            rw [c2]
            exact Ev.ite_neg c (Ev.now _)
section
variable {U : List (List Int)} {N : List Int} (L : Logic U N)
include L
theorem at2_fin (x y : Fin U.length) : (at2 U x.1 y.1 = 1 ↔ L.ol.le x y) ∧ (at2 U x.1 y.1 = 0 ↔ ¬ L.ol.le x y) := by
  have h : L.ol.le x y ↔ at2 U x.1 y.1 = 1 := by
    rw [← leB_fin L]; unfold leB; exact beq_iff_eq
  refine ⟨h.symm, ?_⟩
  rw [h]
  rcases L.bit x.1 y.1 x.2 y.2 with e | e <;> omega
theorem keepB_iff : keepB U N = true ↔ L.ol.Keeps := by
  unfold keepB OL.Keeps
  rw [allN_fin]
  have key : ∀ x y : Fin U.length, keepT U N x.1 y.1 = true ↔ (L.ol.le x y → L.ol.join x (L.ol.meet y (L.ol.neg x)) = y) := fun x y => by
    unfold keepT
    rw [Int.toNat_natCast,Int.toNat_natCast,not_fin L,and_fin L,or_fin L,fin_beq,Bool.or_eq_true,beq_iff_eq,decide_eq_true_eq,(at2_fin L x y).2]
    exact⟨fun h k=>h.resolve_left (fun n=>n k),fun h=>(Classical.em (L.ol.le x y)).elim (fun k=> .inr (h k)) .inl⟩
  constructor
  · intro h x y
    exact(key x y).1 (allN_fin.1 (h x) y)
  · intro h x
    exact allN_fin.2 fun y=>(key x y).2 (h x y)
end
end Go.Proofs.Ytdoomkcgdcfmlaa.Print
end
section
namespace Go.Proofs.Ytdoomkcgdcfmlaa.Print
open Go.RowKit Go.Proofs.YtdoomkcgdcfmlaaW.PrintWords Go.Proofs.YtdoomkcgdcfmlaaW.PrintLast Go.Proofs.YtdoomkcgdcfmlaaW.PrintMore
mutual
def spec_l9State.l0 : Nat → Int → Int → List (List Int) → List Int → Option (Bool)
 | 0, _, _, _, _ => none
 | k + 1, x1, x7, x995000, x995001 => if x7 < (x995001.length : Int) then (if 0 ≤ x7 then (if 0 ≤ (rd x995001 x7) then (if (wrap64 ((Int.tmod (shr .i64 x1 x7) 2) + (Int.tmod (shr .i64 x1 (rd x995001 x7)) 2))) = 1 then (spec_l9State.l1 k x1 x7 0 x995000 x995001) else (some false)) else (none)) else (none)) else (some true)
def spec_l9State.l1 : Nat → Int → Int → Int → List (List Int) → List Int → Option (Bool)
 | 0, _, _, _, _, _ => none
 | k + 1, x1, x7, x8, x995000, x995001 => if x8 < x7 then (if 0 ≤ x7 then (if x7 < (x995000.length : Int) then (if 0 ≤ x8 then (if x8 < (x995001.length : Int) then (if 0 ≤ (rd x995001 x8) then (if (rd x995001 x8) < ((rd_L3 x995000 x7).length : Int) then (if (rd (rd_L3 x995000 x7) (rd x995001 x8)) = 1 then ((spec_l1Join.f k x995000 x7 x8).bind fun t999 => (if 0 ≤ t999 then (if (wrap64 ((Int.tmod (shr .i64 x1 x7) 2) + (Int.tmod (shr .i64 x1 x8) 2))) = (Int.tmod (shr .i64 x1 t999) 2) then (spec_l9State.l1 k x1 x7 (wrap64 (x8 + 1)) x995000 x995001) else (some false)) else (none))) else (spec_l9State.l1 k x1 x7 (wrap64 (x8 + 1)) x995000 x995001)) else (none)) else (none)) else (none)) else (none)) else (none)) else (none)) else (spec_l9State.l0 k x1 (wrap64 (x7 + 1)) x995000 x995001)
end
def spec_l9State.f (k : Nat) (l0_0 : List (List Int)) (l0_1 : List Int) (a1 : Int) (a2 : Int) : Option (Bool) := if 0 ≤ a2 then (if (Int.tmod (shr .i64 a1 a2) 2) = 0 then (some false) else (spec_l9State.l0 k a1 0 l0_0 l0_1)) else (none)
def spec_l9State.T6 : Bool × List (List Nat × List Nat) := (true, [([], []), ([], []), ([0, 1], [0, 1]), ([2], [2]), ([], []), ([], []), ([5], [5]), ([], []), ([6, 7], [6, 7]), ([8], [8]), ([4, 9], [4, 9]), ([10], [10]), ([3, 11], [3, 11]), ([12], [12])])
def spec_l9State.B6 : List Nat := [0, 0, 3, 7, 0, 0, 32, 0, 224, 480, 1008, 2032, 4095, 8191]
theorem spec_l9State.tab6 : rtab .any (opsOf Try.f105 6) = spec_l9State.T6 := by kernel_rfl
theorem spec_l9State.bits6 : waitsOk spec_l9State.T6.2 spec_l9State.B6 = true := by kernel_rfl
def spec_l9State.T11 : Bool × List (List Nat × List Nat) := (true, [([], []), ([0], [0]), ([], []), ([1, 2], [1, 2]), ([3], [3]), ([], []), ([5], [5]), ([], []), ([6, 7], [6, 7]), ([8], [8]), ([4, 9], [4, 9]), ([10], [10]), ([11], [11]), ([12], [12]), ([13], [13]), ([13], [13]), ([14, 15, 13], [13, 14, 15]), ([16, 13], [13, 16]), ([13], [13]), ([13], [13]), ([18, 19, 13], [13, 18, 19]), ([20, 13], [13, 20]), ([17, 21, 13], [13, 17, 21]), ([13], [13]), ([13], [13]), ([24, 13], [13, 24]), ([13], [13]), ([13], [13]), ([25, 26, 27, 13, 13], [13, 25, 26, 27]), ([23, 28, 13], [13, 23, 28]), ([29, 13], [13, 29]), ([22, 30, 13], [13, 22, 30]), ([13, 31], [13, 31])])
def spec_l9State.B11 : List Nat := [0, 1, 0, 7, 15, 0, 32, 0, 224, 480, 1023, 2047, 4095, 8191, 16383, 16383, 65535, 131071, 16383, 16383, 802815, 1851391, 4194303, 16383, 16383, 16793599, 16383, 16383, 251674623, 528498687, 1065369599, 2147483647, 4294967295]
theorem spec_l9State.tab11 : rtab .any (opsOf Try.f105 11) = spec_l9State.T11 := by kernel_rfl
theorem spec_l9State.bits11 : waitsOk spec_l9State.T11.2 spec_l9State.B11 = true := by kernel_rfl
set_option maxHeartbeats 8000000 in
set_option maxRecDepth 100000 in
theorem spec_l9State.calls (k : Nat) (A0_0 : Option Addr) (c0_0 : Nat) (l0_0 : List (List Int)) (A0_1 : Option Addr) (c0_1 : Nat) (l0_1 : List Int) (a1 : Int) (a2 : Int) (r : Bool) (w : World) (hr0_0 : Kd.C (Kd.slice 3 (Kd.int .i64)) w A0_0 l0_0.length l0_0) (hc0_0 : l0_0.length ≤ c0_0) (hr0_1 : Kd.C (Kd.int .i64) w A0_1 l0_1.length l0_1) (hc0_1 : l0_1.length ≤ c0_1) (h : spec_l9State.f k l0_0 l0_1 a1 a2 = some r) :
  Calls Try.prog 105 #[.agg #[.slice A0_0 l0_0.length c0_0, .slice A0_1 l0_1.length c0_1], .int .i64 a1, .int .i64 a2] w fun e w' => e = .returned (.bool r) ∧ Below w.heap.size w w' := by
 have hu30:=Try.underlying30;have e1:=zqm hr0_0;have g8:=zqm hc0_0;clear hr0_0 hc0_0;have e2:=zqm hr0_1;have k7:=zqm hc0_1;clear hr0_1 hc0_1;have HB:=zqm (Below.refl w.heap.size w);have H:(if 0≤a2 then(if(Int.tmod (shr .i64 a1 a2) 2)=0 then(some false) else(spec_l9State.l0 k a1 0 l0_0 l0_1)) else(none))=some r:=h;clear h
 by_cases c4:0≤a2
 ·rw [if_pos c4] at H;have h9:=eq_true c4;have i0:decide (0≤a2)=true:=decide_eq_true c4;clear c4;obtain⟨e5,d4⟩: ∃j_:Int,(shr .i64 a1 a2)=j_:=⟨_,rfl⟩;(replace H:(if(Int.tmod (e5) 2)=0 then(some false) else(spec_l9State.l0 k a1 0 l0_0 l0_1))=some r:=by first|(rw [d4] at H;exact H)|(simp only [d4] at H ⊢;exact H));have k8:(a1 / 2 ^ min a2.toNat 64)=e5:=d4;have hji5z:a2≤64→(a1 / 2 ^ a2.toNat)=e5:=shr_small d4
  by_cases c6:(Int.tmod (e5) 2)=0
  ·rw [if_pos c6] at H;have g5:((Int.tmod (e5) 2)==0)=true:=beq_iff_eq.mpr c6;have g6:((Int.tmod (e5) 2) !=0)=false:=bne_eq_false_iff_eq.mpr c6;clear c6;obtain rfl:=Option.some.inj H
   go_enter Try.func105,Try.ntmps105
   go_wp2_with (first|((with_reducible refine gate_dst (N:=3) rfl ?_);refine box_event ?hg (N:=3) ?hd (cs:= #[.slice A0_0 l0_0.length c0_0,.slice A0_1 l0_1.length c0_1]) (t:=30) ?hr ?_;(case hd=>rfl);(case hg=>rfl);(case hr=>first|(go_simp;done)|(go_simp;rfl));intro a8 hg w7 hbox hb;have g2:=zqm (below_step zq0 hb);have a4:=zqm (hbox);have i4:=zqm ((by rw [hg];exact(below_size zq0):w.heap.size≤a8));have b8:=zqm ((by rw [hg];exact(below_size zq0):w.heap.size≤a8));clear HB;have HB:=g2;clear g2 hb hbox hg))
   go_ret
   exact⟨zq352,zq91⟩
  ·rw [if_neg c6] at H;have g5:((Int.tmod (e5) 2)==0)=false:=beq_eq_false_iff_ne.mpr c6;have g6:((Int.tmod (e5) 2) !=0)=true:=bne_iff_ne.mpr c6;have H':=zqm H;clear H
   go_enter Try.func105,Try.ntmps105
   go_wp2_with (first|((with_reducible refine gate_dst (N:=3) rfl ?_);refine box_event ?hg (N:=3) ?hd (cs:= #[.slice A0_0 l0_0.length c0_0,.slice A0_1 l0_1.length c0_1]) (t:=30) ?hr ?_;(case hd=>rfl);(case hg=>rfl);(case hr=>first|(go_simp;done)|(go_simp;rfl));intro a8 hg w8 hbox hb;have g2:=zqm (below_step zq0 hb);have a4:=zqm (hbox);have i4:=zqm ((by rw [hg];exact(below_size zq0):w.heap.size≤a8));have b8:=zqm ((by rw [hg];exact(below_size zq0):w.heap.size≤a8));clear HB;have HB:=g2;clear g2 hb hbox hg))
   go_loopg [7] k (fun kq v7 w'=> ∃(a0:Int),v7= .int .i64 a0∧Aside0 (spec_l9State.l0 kq a1 a0 l0_0 l0_1=some r)∧Aside0 (kq≤k)∧Aside0 (w'.heap[a8]? =some (.cells #[(.slice A0_0 l0_0.length c0_0),(.slice A0_1 l0_1.length c0_1)] 30 (0,0)))∧Aside0 (Below w.heap.size w w'))
   case atStart=>exact⟨(0),(by first|rfl|(simp;done)|(simp [*];done)),H',⟨Nat.le_refl _⟩,⟨zq13⟩,⟨zq91⟩⟩
   case round=>
    clear H';(try clear c1);(try clear p2);(try clear c4);(try clear h9);(try clear i0);(try clear c6);(try clear g5);(try clear g6);obtain⟨a0,rfl,HA,f4,a4,HB⟩:=hrel
    cases gk with
    |zero=>exact absurd HA.out (by simp [spec_l9State.l0])
    |succ k1=>
     have H:=HA.out;clear HA;simp only [spec_l9State.l0] at H
     by_cases c9:a0<(l0_1.length:Int)
     ·rw [if_pos c9] at H;have i1:decide (a0<(l0_1.length:Int))=true:=decide_eq_true c9;clear c9
      by_cases f5:0≤a0
      ·rw [if_pos f5] at H;have i5:=eq_true f5;have i6:decide (0≤a0)=true:=decide_eq_true f5;clear f5;obtain⟨b6,d3⟩: ∃j_:Int,(shr .i64 a1 a0)=j_:=⟨_,rfl⟩;(replace H:(if 0≤(rd l0_1 a0) then(if(wrap64 ((Int.tmod (b6) 2)+(Int.tmod (shr .i64 a1 (rd l0_1 a0)) 2)))=1 then(spec_l9State.l1 k1 a1 a0 0 l0_0 l0_1) else(some false)) else(none))=some r:=by first|(rw [d3] at H;exact H)|(simp only [d3] at H ⊢;exact H));have k0:(a1 / 2 ^ min a0.toNat 64)=b6:=d3;have hji11z:a0≤64→(a1 / 2 ^ a0.toNat)=b6:=shr_small d3
       by_cases f6:0≤(rd l0_1 a0)
       ·rw [if_pos f6] at H;have i7:=eq_true f6;have i8:decide (0≤(rd l0_1 a0))=true:=decide_eq_true f6;clear f6;obtain⟨c0,d8⟩: ∃j_:Int,(shr .i64 a1 (rd l0_1 a0))=j_:=⟨_,rfl⟩;(replace H:(if(wrap64 ((Int.tmod (b6) 2)+(Int.tmod (c0) 2)))=1 then(spec_l9State.l1 k1 a1 a0 0 l0_0 l0_1) else(some false))=some r:=by first|(rw [d8] at H;exact H)|(simp only [d8] at H ⊢;exact H));have k3:(a1 / 2 ^ min (rd l0_1 a0).toNat 64)=c0:=d8;have hji13z:(rd l0_1 a0)≤64→(a1 / 2 ^ (rd l0_1 a0).toNat)=c0:=shr_small d8
        by_cases e6:(wrap64 ((Int.tmod (b6) 2)+(Int.tmod (c0) 2)))=1
        ·rw [if_pos e6] at H;have e7:((wrap64 ((Int.tmod (b6) 2)+(Int.tmod (c0) 2)))==1)=true:=beq_iff_eq.mpr e6;(have c14w0:((IntKind.i64.wrap ((Int.tmod (b6) 2)+(Int.tmod (c0) 2)))==1)=true:=by simp only [i64_w];exact e7);have e8:((wrap64 ((Int.tmod (b6) 2)+(Int.tmod (c0) 2))) !=1)=false:=bne_eq_false_iff_eq.mpr e6;(have c14w1:((IntKind.i64.wrap ((Int.tmod (b6) 2)+(Int.tmod (c0) 2))) !=1)=false:=by simp only [i64_w];exact e8);clear e6;have H':=zqm H;clear H;have h5:wr.cell? ⟨a8,0,none⟩=some (.slice A0_0 l0_0.length c0_0):=(blk_cell a4.out 0).trans rfl;have h6:wr.cell? ⟨a8,1,none⟩=some (.slice A0_1 l0_1.length c0_1):=(blk_cell a4.out 1).trans rfl;have h7:=blk_frozen a4.out 0;have h8:=blk_frozen a4.out 1;(try go_wp2);replace a4:=zqm (blk_drew a4.out);replace HB:=zqm (below_drew1 HB.out);have d5:0≤(a0:Int):=zqo;have d6:a0<(l0_1.length:Int):=zqo;obtain⟨b0,g7,a9⟩:=Kd.at_int e2.out a0 d5 d6;have hw995_0:=a9
         cases g7
         replace a9:=(HB.out.cell (World.block_lt_of_cell? w _ a9)).trans a9;replace d5:=eq_true d5;replace d6:=eq_true d6;refine start_ (n:=14) (S:=fun w'=>w'.cell? ⟨a8,0,none⟩=some (.slice A0_0 l0_0.length c0_0)∧w'.cell? ⟨a8,1,none⟩=some (.slice (some b0) l0_1.length c0_1)∧w'.cell? (b0.add (a0).toNat)=some (.int .i64 (rd l0_1 a0))) (ds:= []) (zqb 14 0) zqk rfl rfl ⟨(blk_cell a4.out 0).trans rfl,(blk_cell a4.out 1).trans rfl,((HB.out.cell (World.block_lt_of_cell? w _ hw995_0)).trans hw995_0)⟩ (fun hHeld=>?_);refine with_tabW spec_l9State.tab6 spec_l9State.bits6 (fun HT_ HW_=>?_);generalize wr.drew=m1 at a4 HB a9 hHeld ⊢;refine pure_ (i:=0) (N:=some 21) (v:=?_) (a':=?_) (zqb 14 1) rfl rfl (any_of HT_.out zqk) (fun _ _ _ h=>h) (Or.inl ⟨by rfl,?_⟩) ?_ ?_;rotate_left
         ·exact zqt
         rotate_left
         ·exact zqs
         refine pure_ (i:=1) (N:=some 22) (v:=?_) (a':=?_) (zqb 14 3) rfl rfl (any_of HT_.out zqk) (fun _ _ _ h=>h) (Or.inl ⟨by rfl,?_⟩) ?_ ?_;rotate_left
         ·exact zqt
         rotate_left
         ·exact zqs
         refine pure_ (i:=2) (N:=some 23) (v:=?_) (a':=?_) (zqb 14 7) rfl rfl (any_of HT_.out zqk) (fun _ _ _ h=>h) (Or.inl ⟨by rfl,?_⟩) ?_ ?_;rotate_left
         ·exact zqt
         rotate_left
         ·exact zqs
         refine pure_ (i:=3) (N:=some 24) (v:=?_) (a':=?_) (zqb 14 15) rfl rfl (any_of HT_.out zqk) (fun _ _ _ h=>h) (Or.inl ⟨by rfl,?_⟩) ?_ ?_;rotate_left
         ·exact zqt
         rotate_left
         ·exact zqs
         refine pure_ (i:=4) (N:=some 25) (v:=?_) (a':=?_) (zqb 14 31) rfl rfl (any_of HT_.out zqk) (fun _ _ _ h=>h) (Or.inl ⟨by rfl,?_⟩) ?_ ?_;rotate_left
         ·exact zqt
         rotate_left
         ·exact zqs
         refine pure_ (i:=5) (N:=some 26) (v:=?_) (a':=?_) (zqb 14 63) rfl rfl (any_of HT_.out zqk) (fun _ _ _ h=>h) (Or.inl ⟨by rfl,?_⟩) ?_ ?_;rotate_left
         ·exact zqt
         rotate_left
         ·exact zqs
         refine pure_ (i:=7) (N:=some 28) (v:=?_) (a':=?_) (zqb 14 191) rfl rfl (any_of HT_.out zqk) (fun _ _ _ h=>h) (Or.inl ⟨by rfl,?_⟩) ?_ ?_;rotate_left
         ·exact zqt
         rotate_left
         ·exact zqs
         refine take_ (i:=6) (N:=some 27) (v:=?_) (a':=?_) (zqb 14 255) rfl rfl (take_ofW HT_.out HW_.out zqk) (fun _ _ _ h=>h) (Or.inl ⟨by rfl,?_⟩) hHeld ?_ ?_;rotate_left
         ·rintro w' ⟨s0,s1,s2⟩;go_simp;with_reducible rfl
         rotate_left
         ·exact zqs
         refine pure_ (i:=8) (N:=some 29) (v:=?_) (a':=?_) (zqb 14 511) rfl rfl (any_of HT_.out zqk) (fun _ _ _ h=>h) (Or.inl ⟨by rfl,?_⟩) ?_ ?_;rotate_left
         ·exact zqt
         rotate_left
         ·exact zqs
         refine take_ (i:=9) (N:=some 30) (v:=?_) (a':=?_) (zqb 14 1023) rfl rfl (take_ofW HT_.out HW_.out zqk) (fun _ _ _ h=>h) (Or.inl ⟨by rfl,?_⟩) hHeld ?_ ?_;rotate_left
         ·rintro w' ⟨s0,s1,s2⟩;go_simp;with_reducible rfl
         rotate_left
         ·exact zqs
         refine pure_ (i:=10) (N:=some 31) (v:=?_) (a':=?_) (zqb 14 2047) rfl rfl (any_of HT_.out zqk) (fun _ _ _ h=>h) (Or.inl ⟨by rfl,?_⟩) ?_ ?_;rotate_left
         ·exact zqt
         rotate_left
         ·exact zqs
         refine pure_ (i:=11) (N:=some 32) (v:=?_) (a':=?_) (zqb 14 4095) rfl rfl (any_of HT_.out zqk) (fun _ _ _ h=>h) (Or.inl ⟨by rfl,?_⟩) ?_ ?_;rotate_left
         ·exact zqt
         rotate_left
         ·exact zqs
         refine pure_ (i:=12) (N:=some 33) (v:=?_) (a':=?_) (zqb 14 8191) rfl rfl (any_of HT_.out zqk) (fun _ _ _ h=>h) (Or.inl ⟨by rfl,?_⟩) ?_ ?_;rotate_left
         ·exact zqt
         rotate_left
         ·exact zqs
         refine pure_ (i:=13) (N:=some 34) (v:=?_) (a':=?_) (zqb 14 16383) rfl rfl (any_of HT_.out zqk) (fun _ _ _ h=>h) (Or.inl ⟨by rfl,?_⟩) ?_ ?_;rotate_left
         ·exact zqt
         rotate_left
         ·exact zqs
         refine done_ (done_of HT_.out zqk) ?_;try go_wp2
         go_loopg [8] k1 (fun kq v8 w'=> ∃(a3:Int),v8= .int .i64 a3∧Aside0 (spec_l9State.l1 kq a1 a0 a3 l0_0 l0_1=some r)∧Aside0 (kq≤k1)∧Aside0 (w'.heap[a8]? =some (.cells #[(.slice A0_0 l0_0.length c0_0),(.slice (some b0) l0_1.length c0_1)] 30 (0,0)))∧Aside0 (Below w.heap.size w w'))
         case atStart=>exact⟨(0),(by first|rfl|(simp;done)|(simp [*];done)),H',⟨Nat.le_refl _⟩,⟨zq13⟩,⟨zq91⟩⟩
         case round=>
          clear H';(try clear c1);(try clear p2);(try clear c4);(try clear h9);(try clear i0);(try clear c6);(try clear g5);(try clear g6);(try clear p6);(try clear c9);(try clear i1);(try clear p9);(try clear q9);(try clear m2);(try clear f5);(try clear i5);(try clear i6);(try clear f6);(try clear i7);(try clear i8);(try clear e6);(try clear e7);(try clear e8);(try clear h5);(try clear h6);(try clear h7);(try clear h8);(try clear a9);(try clear p2);(try clear d5);(try clear d6);obtain⟨a3,rfl,HA,f7,a4,HB⟩:=hrel
          cases gk with
          |zero=>exact absurd HA.out (by simp [spec_l9State.l1])
          |succ k2=>
           have H:=HA.out;clear HA;simp only [spec_l9State.l1] at H
           by_cases f8:a3<a0
           ·rw [if_pos f8] at H;have i9:decide (a3<a0)=true:=decide_eq_true f8;clear f8
            by_cases g9:0≤a0
            ·rw [if_pos g9] at H;have k9:decide (0≤a0)=true:=decide_eq_true g9;clear g9
             by_cases h0:a0<(l0_0.length:Int)
             ·rw [if_pos h0] at H;have l2:decide (a0<(l0_0.length:Int))=true:=decide_eq_true h0;clear h0
              by_cases h1:0≤a3
              ·rw [if_pos h1] at H;have l3:decide (0≤a3)=true:=decide_eq_true h1;clear h1
               by_cases h2:a3<(l0_1.length:Int)
               ·rw [if_pos h2] at H;have l4:decide (a3<(l0_1.length:Int))=true:=decide_eq_true h2;clear h2
                by_cases h3:0≤(rd l0_1 a3)
                ·rw [if_pos h3] at H;have l5:decide (0≤(rd l0_1 a3))=true:=decide_eq_true h3;clear h3
                 by_cases h4:(rd l0_1 a3)<((rd_L3 l0_0 a0).length:Int)
                 ·rw [if_pos h4] at H;have l6:decide ((rd l0_1 a3)<((rd_L3 l0_0 a0).length:Int))=true:=decide_eq_true h4;clear h4
                  by_cases e9:(rd (rd_L3 l0_0 a0) (rd l0_1 a3))=1
                  ·rw [if_pos e9] at H;have j0:((rd (rd_L3 l0_0 a0) (rd l0_1 a3))==1)=true:=beq_iff_eq.mpr e9;have j1:((rd (rd_L3 l0_0 a0) (rd l0_1 a3)) !=1)=false:=bne_eq_false_iff_eq.mpr e9;clear e9;have l7:=eq_true (zqo:0≤a0);obtain⟨b1,d9⟩: ∃j_:Int,(shr .i64 a1 a0)=j_:=⟨_,rfl⟩;(first|(obtain rfl:b1=b6:=d9.symm.trans d3)|skip);(replace H:((spec_l1Join.f k2 l0_0 a0 a3).bind fun b2=>(if 0≤b2 then(if(wrap64 ((Int.tmod (b1) 2)+(Int.tmod (shr .i64 a1 a3) 2)))=(Int.tmod (shr .i64 a1 b2) 2) then(spec_l9State.l1 k2 a1 a0 (wrap64 (a3+1)) l0_0 l0_1) else(some false)) else(none)))=some r:=by first|(rw [d9] at H;exact H)|(simp only [d9] at H ⊢;exact H));have k4:(a1 / 2 ^ min a0.toNat 64)=b1:=d9;have hji26z:a0≤64→(a1 / 2 ^ a0.toNat)=b1:=shr_small d9;have l8:=eq_true (zqo:0≤a3);obtain⟨b7,e3⟩: ∃j_:Int,(shr .i64 a1 a3)=j_:=⟨_,rfl⟩;(replace H:((spec_l1Join.f k2 l0_0 a0 a3).bind fun b2=>(if 0≤b2 then(if(wrap64 ((Int.tmod (b1) 2)+(Int.tmod (b7) 2)))=(Int.tmod (shr .i64 a1 b2) 2) then(spec_l9State.l1 k2 a1 a0 (wrap64 (a3+1)) l0_0 l0_1) else(some false)) else(none)))=some r:=by first|(rw [e3] at H;exact H)|(simp only [e3] at H ⊢;exact H));have k5:(a1 / 2 ^ min a3.toNat 64)=b7:=e3;have hji28z:a3≤64→(a1 / 2 ^ a3.toNat)=b7:=shr_small e3;replace H:=Option.bind_eq_some_iff.mp H;obtain⟨b2,i2,H⟩:=H;replace H:(if 0≤b2 then(if(wrap64 ((Int.tmod (b1) 2)+(Int.tmod (b7) 2)))=(Int.tmod (shr .i64 a1 b2) 2) then(spec_l9State.l1 k2 a1 a0 (wrap64 (a3+1)) l0_0 l0_1) else(some false)) else(none))=some r:=H;have i3:=zqm i2;clear i2
                   by_cases g3:0≤b2
                   ·rw [if_pos g3] at H;have l9:=eq_true g3;have m0:decide (0≤b2)=true:=decide_eq_true g3;clear g3;obtain⟨c2,e0⟩: ∃j_:Int,(shr .i64 a1 b2)=j_:=⟨_,rfl⟩;(replace H:(if(wrap64 ((Int.tmod (b1) 2)+(Int.tmod (b7) 2)))=(Int.tmod (c2) 2) then(spec_l9State.l1 k2 a1 a0 (wrap64 (a3+1)) l0_0 l0_1) else(some false))=some r:=by first|(rw [e0] at H;exact H)|(simp only [e0] at H ⊢;exact H));(try rw [e0] at i3);have k6:(a1 / 2 ^ min b2.toNat 64)=c2:=e0;have hji31z:b2≤64→(a1 / 2 ^ b2.toNat)=c2:=shr_small e0
                    by_cases f0:(wrap64 ((Int.tmod (b1) 2)+(Int.tmod (b7) 2)))=(Int.tmod (c2) 2)
                    ·rw [if_pos f0] at H;have g0:((wrap64 ((Int.tmod (b1) 2)+(Int.tmod (b7) 2)))==(Int.tmod (c2) 2))=true:=beq_iff_eq.mpr f0;(have c32w0:((IntKind.i64.wrap ((Int.tmod (b1) 2)+(Int.tmod (b7) 2)))==(Int.tmod (c2) 2))=true:=by simp only [i64_w];exact g0);have g1:((wrap64 ((Int.tmod (b1) 2)+(Int.tmod (b7) 2))) !=(Int.tmod (c2) 2))=false:=bne_eq_false_iff_eq.mpr f0;(have c32w1:((IntKind.i64.wrap ((Int.tmod (b1) 2)+(Int.tmod (b7) 2))) !=(Int.tmod (c2) 2))=false:=by simp only [i64_w];exact g1);clear f0;have H':=zqm H;clear H;(try go_wp2);replace a4:=zqm (blk_drew a4.out);replace HB:=zqm (below_drew1 HB.out);have c3:0≤(a0:Int):=zqo;have c5:a0<(l0_0.length:Int):=zqo;obtain⟨b9,g4,d7,f1,a5,b3,b4⟩:=at_L3 e1.out a0 c3 c5;have hw996_0:=a5
                     cases f1
                     replace a5:=(HB.out.cell (World.block_lt_of_cell? w _ a5)).trans a5;have b5:=zqm b4;have f9:=zqm b3;clear b4 b3;replace c3:=eq_true c3;replace c5:=eq_true c5;have c7:0≤(a3:Int):=zqo;have c8:a3<(l0_1.length:Int):=zqo;obtain⟨e4,f2,a6⟩:=Kd.at_int e2.out a3 c7 c8;have hw997_0:=a6;obtain rfl:b0=e4:=(by injection f2);replace a6:=(HB.out.cell (World.block_lt_of_cell? w _ a6)).trans a6;replace c7:=eq_true c7;replace c8:=eq_true c8;have d0:0≤((rd l0_1 a3):Int):=zqo;have d1:(rd l0_1 a3)<((rd_L3 l0_0 a0).length:Int):=zqo;obtain⟨d2,f3,a7⟩:=Kd.at_int b5.out (rd l0_1 a3) d0 d1;have hw998_0:=a7
                     cases f3
                     replace a7:=(HB.out.cell (World.block_lt_of_cell? w _ a7)).trans a7;replace d0:=eq_true d0;replace d1:=eq_true d1;refine start_ (n:=33) (S:=fun w'=>w'.cell? ⟨a8,0,none⟩=some (.slice (some b9) l0_0.length c0_0)∧w'.cell? ⟨a8,1,none⟩=some (.slice (some b0) l0_1.length c0_1)∧w'.cell? (b9.add (a0).toNat)=some (.slice (some d2) (rd_L3 l0_0 a0).length d7)∧w'.cell? (b0.add (a3).toNat)=some (.int .i64 (rd l0_1 a3))∧w'.cell? (d2.add ((rd l0_1 a3)).toNat)=some (.int .i64 (rd (rd_L3 l0_0 a0) (rd l0_1 a3)))) (ds:= []) (zqb 33 0) zqk rfl rfl ⟨(blk_cell a4.out 0).trans rfl,(blk_cell a4.out 1).trans rfl,((HB.out.cell (World.block_lt_of_cell? w _ hw996_0)).trans hw996_0),((HB.out.cell (World.block_lt_of_cell? w _ hw997_0)).trans hw997_0),((HB.out.cell (World.block_lt_of_cell? w _ hw998_0)).trans hw998_0)⟩ (fun hHeld=>?_);refine with_tabW spec_l9State.tab11 spec_l9State.bits11 (fun HT_ HW_=>?_);generalize wr.drew=m3 at a4 HB b5 a5 a6 a7 hHeld ⊢;refine pure_ (i:=0) (N:=some 40) (v:=?_) (a':=?_) (zqb 33 1) rfl rfl (any_of HT_.out zqk) (fun _ _ _ h=>h) (Or.inl ⟨by rfl,?_⟩) ?_ ?_;rotate_left
                     ·exact zqt
                     rotate_left
                     ·exact zqs
                     refine pure_ (i:=2) (N:=some 42) (v:=?_) (a':=?_) (zqb 33 5) rfl rfl (any_of HT_.out zqk) (fun _ _ _ h=>h) (Or.inl ⟨by rfl,?_⟩) ?_ ?_;rotate_left
                     ·exact zqt
                     rotate_left
                     ·exact zqs
                     refine pure_ (i:=5) (N:=some 45) (v:=?_) (a':=?_) (zqb 33 37) rfl rfl (any_of HT_.out zqk) (fun _ _ _ h=>h) (Or.inl ⟨by rfl,?_⟩) ?_ ?_;rotate_left
                     ·exact zqt
                     rotate_left
                     ·exact zqs
                     refine pure_ (i:=7) (N:=some 47) (v:=?_) (a':=?_) (zqb 33 165) rfl rfl (any_of HT_.out zqk) (fun _ _ _ h=>h) (Or.inl ⟨by rfl,?_⟩) ?_ ?_;rotate_left
                     ·exact zqt
                     rotate_left
                     ·exact zqs
                     refine take_ (i:=1) (N:=some 41) (v:=?_) (a':=?_) (zqb 33 167) rfl rfl (take_ofW HT_.out HW_.out zqk) (fun _ _ _ h=>h) (Or.inl ⟨by rfl,?_⟩) hHeld ?_ ?_;rotate_left
                     ·rintro w' ⟨s0,s1,s2,s3,s4⟩;go_simp;with_reducible rfl
                     rotate_left
                     ·exact zqs
                     refine pure_ (i:=3) (N:=some 43) (v:=?_) (a':=?_) (zqb 33 175) rfl rfl (any_of HT_.out zqk) (fun _ _ _ h=>h) (Or.inl ⟨by rfl,?_⟩) ?_ ?_;rotate_left
                     ·exact zqt
                     rotate_left
                     ·exact zqs
                     refine take_ (i:=4) (N:=some 44) (v:=?_) (a':=?_) (zqb 33 191) rfl rfl (take_ofW HT_.out HW_.out zqk) (fun _ _ _ h=>h) (Or.inl ⟨by rfl,?_⟩) hHeld ?_ ?_;rotate_left
                     ·rintro w' ⟨s0,s1,s2,s3,s4⟩;go_simp;with_reducible rfl
                     rotate_left
                     ·exact zqs
                     refine take_ (i:=6) (N:=some 46) (v:=?_) (a':=?_) (zqb 33 255) rfl rfl (take_ofW HT_.out HW_.out zqk) (fun _ _ _ h=>h) (Or.inl ⟨by rfl,?_⟩) hHeld ?_ ?_;rotate_left
                     ·rintro w' ⟨s0,s1,s2,s3,s4⟩;go_simp;with_reducible rfl
                     rotate_left
                     ·exact zqs
                     refine pure_ (i:=8) (N:=some 48) (v:=?_) (a':=?_) (zqb 33 511) rfl rfl (any_of HT_.out zqk) (fun _ _ _ h=>h) (Or.inl ⟨by rfl,?_⟩) ?_ ?_;rotate_left
                     ·exact zqt
                     rotate_left
                     ·exact zqs
                     refine take_ (i:=9) (N:=some 49) (v:=?_) (a':=?_) (zqb 33 1023) rfl rfl (take_ofW HT_.out HW_.out zqk) (fun _ _ _ h=>h) (Or.inl ⟨by rfl,?_⟩) hHeld ?_ ?_;rotate_left
                     ·rintro w' ⟨s0,s1,s2,s3,s4⟩;go_simp;with_reducible rfl
                     rotate_left
                     ·exact zqs
                     refine pure_ (i:=10) (N:=some 50) (v:=?_) (a':=?_) (zqb 33 2047) rfl rfl (any_of HT_.out zqk) (fun _ _ _ h=>h) (Or.inl ⟨by rfl,?_⟩) ?_ ?_;rotate_left
                     ·exact zqt
                     rotate_left
                     ·exact zqs
                     refine take_ (i:=11) (N:=some 51) (v:=?_) (a':=?_) (zqb 33 4095) rfl rfl (take_ofW HT_.out HW_.out zqk) (fun _ _ _ h=>h) (Or.inl ⟨by rfl,?_⟩) hHeld ?_ ?_;rotate_left
                     ·rintro w' ⟨s0,s1,s2,s3,s4⟩;go_simp;with_reducible rfl
                     rotate_left
                     ·exact zqs
                     refine pure_ (i:=12) (N:=some 52) (v:=?_) (a':=?_) (zqb 33 8191) rfl rfl (any_of HT_.out zqk) (fun _ _ _ h=>h) (Or.inl ⟨by rfl,?_⟩) ?_ ?_;rotate_left
                     ·exact zqt
                     rotate_left
                     ·exact zqs
                     refine pure_ (i:=13) (N:=some 53) (v:=?_) (a':=?_) (zqb 33 16383) rfl rfl (any_of HT_.out zqk) (fun _ _ _ h=>h) (Or.inl ⟨by rfl,?_⟩) ?_ ?_;rotate_left
                     ·exact zqt
                     rotate_left
                     ·exact zqs
                     refine pure_ (i:=14) (N:=some 54) (v:=?_) (a':=?_) (zqb 33 32767) rfl rfl (any_of HT_.out zqk) (fun _ _ _ h=>h) (Or.inl ⟨by rfl,?_⟩) ?_ ?_;rotate_left
                     ·exact zqt
                     rotate_left
                     ·exact zqs
                     refine pure_ (i:=15) (N:=some 55) (v:=?_) (a':=?_) (zqb 33 65535) rfl rfl (any_of HT_.out zqk) (fun _ _ _ h=>h) (Or.inl ⟨by rfl,?_⟩) ?_ ?_;rotate_left
                     ·exact zqt
                     rotate_left
                     ·exact zqs
                     refine pure_ (i:=16) (N:=some 56) (v:=?_) (a':=?_) (zqb 33 131071) rfl rfl (any_of HT_.out zqk) (fun _ _ _ h=>h) (Or.inl ⟨by rfl,?_⟩) ?_ ?_;rotate_left
                     ·exact zqt
                     rotate_left
                     ·exact zqs
                     refine pure_ (i:=17) (N:=some 57) (v:=?_) (a':=?_) (zqb 33 262143) rfl rfl (any_of HT_.out zqk) (fun _ _ _ h=>h) (Or.inl ⟨by rfl,?_⟩) ?_ ?_;rotate_left
                     ·exact zqt
                     rotate_left
                     ·exact zqs
                     refine pure_ (i:=18) (N:=some 58) (v:=?_) (a':=?_) (zqb 33 524287) rfl rfl (any_of HT_.out zqk) (fun _ _ _ h=>h) (Or.inl ⟨by rfl,?_⟩) ?_ ?_;rotate_left
                     ·exact zqt
                     rotate_left
                     ·exact zqs
                     refine pure_ (i:=19) (N:=some 59) (v:=?_) (a':=?_) (zqb 33 1048575) rfl rfl (any_of HT_.out zqk) (fun _ _ _ h=>h) (Or.inl ⟨by rfl,?_⟩) ?_ ?_;rotate_left
                     ·exact zqt
                     rotate_left
                     ·exact zqs
                     refine pure_ (i:=20) (N:=some 60) (v:=?_) (a':=?_) (zqb 33 2097151) rfl rfl (any_of HT_.out zqk) (fun _ _ _ h=>h) (Or.inl ⟨by rfl,?_⟩) ?_ ?_;rotate_left
                     ·exact zqt
                     rotate_left
                     ·exact zqs
                     refine pure_ (i:=21) (N:=some 61) (v:=?_) (a':=?_) (zqb 33 4194303) rfl rfl (any_of HT_.out zqk) (fun _ _ _ h=>h) (Or.inl ⟨by rfl,?_⟩) ?_ ?_;rotate_left
                     ·exact zqt
                     rotate_left
                     ·exact zqs
                     refine pure_ (i:=22) (N:=some 62) (v:=?_) (a':=?_) (zqb 33 8388607) rfl rfl (any_of HT_.out zqk) (fun _ _ _ h=>h) (Or.inl ⟨by rfl,?_⟩) ?_ ?_;rotate_left
                     ·exact zqt
                     rotate_left
                     ·exact zqs
                     refine pure_ (i:=23) (N:=some 63) (v:=?_) (a':=?_) (zqb 33 16777215) rfl rfl (any_of HT_.out zqk) (fun _ _ _ h=>h) (Or.inl ⟨by rfl,?_⟩) ?_ ?_;rotate_left
                     ·exact zqt
                     rotate_left
                     ·exact zqs
                     refine pure_ (i:=24) (N:=some 64) (v:=?_) (a':=?_) (zqb 33 33554431) rfl rfl (any_of HT_.out zqk) (fun _ _ _ h=>h) (Or.inl ⟨by rfl,?_⟩) ?_ ?_;rotate_left
                     ·exact zqt
                     rotate_left
                     ·exact zqs
                     refine pure_ (i:=26) (N:=some 66) (v:=?_) (a':=?_) (zqb 33 100663295) rfl rfl (any_of HT_.out zqk) (fun _ _ _ h=>h) (Or.inl ⟨by rfl,?_⟩) ?_ ?_;rotate_left
                     ·exact zqt
                     rotate_left
                     ·exact zqs
                     refine pure_ (i:=27) (N:=some 67) (v:=?_) (a':=?_) (zqb 33 234881023) rfl rfl (any_of HT_.out zqk) (fun _ _ _ h=>h) (Or.inl ⟨by rfl,?_⟩) ?_ ?_;rotate_left
                     ·exact zqt
                     rotate_left
                     ·exact zqs
                     refine take_ (i:=25) (N:=some 65) (v:=?_) (a':=?_) (zqb 33 268435455) rfl rfl (take_ofW HT_.out HW_.out zqk) (fun _ _ _ h=>h) (Or.inl ⟨by rfl,?_⟩) hHeld ?_ ?_;rotate_left
                     ·rintro w' ⟨s0,s1,s2,s3,s4⟩;go_simp;with_reducible rfl
                     rotate_left
                     ·exact zqs
                     refine one_ (i:=28) (N:=some 68) (zqb 33 536870911) rfl rfl (one_of HT_.out zqk) (by decide) (fun K hK=>?_);refine goes_ Try.func82 zqk rfl #[.slice (some b9) l0_0.length c0_0,.int .i64 a0,.int .i64 a3] (by rfl) rfl rfl zq1 ?_;(with_reducible refine(spec_l1Join.calls k2 _ _ l0_0 a0 a3 b2 _ ?side1 ?side2 i3.out).mono ?_);(case side1=> exact zq347);(case side2=>exact g8.out);rintro e w' ⟨rfl,⟨nd,rfl⟩⟩;refine⟨_,rfl,?_⟩;refine hK.out _ _ ⟨(blk_cell a4.out 0).trans rfl,(blk_cell a4.out 1).trans rfl,((HB.out.cell (World.block_lt_of_cell? w _ hw996_0)).trans hw996_0),((HB.out.cell (World.block_lt_of_cell? w _ hw997_0)).trans hw997_0),((HB.out.cell (World.block_lt_of_cell? w _ hw998_0)).trans hw998_0)⟩ (fun hHeld=>?_);clear hK K;refine norm_ (a':=?_) ?_ ?_;rotate_left
                     ·show Act.put _ (some 68) _=_;exact zqs
                     refine pure_ (i:=29) (N:=some 69) (v:=?_) (a':=?_) (zqb 33 1073741823) rfl rfl (any_of HT_.out zqk) (fun _ _ _ h=>h) (Or.inl ⟨by rfl,?_⟩) ?_ ?_;rotate_left
                     ·exact zqt
                     rotate_left
                     ·exact zqs
                     refine pure_ (i:=30) (N:=some 70) (v:=?_) (a':=?_) (zqb 33 2147483647) rfl rfl (any_of HT_.out zqk) (fun _ _ _ h=>h) (Or.inl ⟨by rfl,?_⟩) ?_ ?_;rotate_left
                     ·exact zqt
                     rotate_left
                     ·exact zqs
                     refine pure_ (i:=31) (N:=some 71) (v:=?_) (a':=?_) (zqb 33 4294967295) rfl rfl (any_of HT_.out zqk) (fun _ _ _ h=>h) (Or.inl ⟨by rfl,?_⟩) ?_ ?_;rotate_left
                     ·exact zqt
                     rotate_left
                     ·exact zqs
                     refine pure_ (i:=32) (N:=some 72) (v:=?_) (a':=?_) (zqb 33 8589934591) rfl rfl (any_of HT_.out zqk) (fun _ _ _ h=>h) (Or.inl ⟨by rfl,?_⟩) ?_ ?_;rotate_left
                     ·exact zqt
                     rotate_left
                     ·exact zqs
                     refine done_ (done_of HT_.out zqk) ?_;try go_wp2
                     go_roundg k2
                     (case measure=>have:=f4.out;have:=f7.out;omega);case rel=>exact⟨(wrap64 (a3+1)),(by first|rfl|(simp;done)|(simp [*];done)),H',⟨by have:=f4.out;have:=f7.out;omega⟩,⟨zq13⟩,⟨zq91⟩⟩
                    ·rw [if_neg f0] at H;have g0:((wrap64 ((Int.tmod (b1) 2)+(Int.tmod (b7) 2)))==(Int.tmod (c2) 2))=false:=beq_eq_false_iff_ne.mpr f0;(have c32w0:((IntKind.i64.wrap ((Int.tmod (b1) 2)+(Int.tmod (b7) 2)))==(Int.tmod (c2) 2))=false:=by simp only [i64_w];exact g0);have g1:((wrap64 ((Int.tmod (b1) 2)+(Int.tmod (b7) 2))) !=(Int.tmod (c2) 2))=true:=bne_iff_ne.mpr f0;(have c32w1:((IntKind.i64.wrap ((Int.tmod (b1) 2)+(Int.tmod (b7) 2))) !=(Int.tmod (c2) 2))=true:=by simp only [i64_w];exact g1);obtain rfl:=Option.some.inj H;(try go_wp2);replace a4:=zqm (blk_drew a4.out);replace HB:=zqm (below_drew1 HB.out);have c3:0≤(a0:Int):=zqo;have c5:a0<(l0_0.length:Int):=zqo;obtain⟨b9,g4,d7,f1,a5,b3,b4⟩:=at_L3 e1.out a0 c3 c5;have hw996_0:=a5
                     cases f1
                     replace a5:=(HB.out.cell (World.block_lt_of_cell? w _ a5)).trans a5;have b5:=zqm b4;have f9:=zqm b3;clear b4 b3;replace c3:=eq_true c3;replace c5:=eq_true c5;have c7:0≤(a3:Int):=zqo;have c8:a3<(l0_1.length:Int):=zqo;obtain⟨e4,f2,a6⟩:=Kd.at_int e2.out a3 c7 c8;have hw997_0:=a6;obtain rfl:b0=e4:=(by injection f2);replace a6:=(HB.out.cell (World.block_lt_of_cell? w _ a6)).trans a6;replace c7:=eq_true c7;replace c8:=eq_true c8;have d0:0≤((rd l0_1 a3):Int):=zqo;have d1:(rd l0_1 a3)<((rd_L3 l0_0 a0).length:Int):=zqo;obtain⟨d2,f3,a7⟩:=Kd.at_int b5.out (rd l0_1 a3) d0 d1;have hw998_0:=a7
                     cases f3
                     replace a7:=(HB.out.cell (World.block_lt_of_cell? w _ a7)).trans a7;replace d0:=eq_true d0;replace d1:=eq_true d1;refine start_ (n:=33) (S:=fun w'=>w'.cell? ⟨a8,0,none⟩=some (.slice (some b9) l0_0.length c0_0)∧w'.cell? ⟨a8,1,none⟩=some (.slice (some b0) l0_1.length c0_1)∧w'.cell? (b9.add (a0).toNat)=some (.slice (some d2) (rd_L3 l0_0 a0).length d7)∧w'.cell? (b0.add (a3).toNat)=some (.int .i64 (rd l0_1 a3))∧w'.cell? (d2.add ((rd l0_1 a3)).toNat)=some (.int .i64 (rd (rd_L3 l0_0 a0) (rd l0_1 a3)))) (ds:= []) (zqb 33 0) zqk rfl rfl ⟨(blk_cell a4.out 0).trans rfl,(blk_cell a4.out 1).trans rfl,((HB.out.cell (World.block_lt_of_cell? w _ hw996_0)).trans hw996_0),((HB.out.cell (World.block_lt_of_cell? w _ hw997_0)).trans hw997_0),((HB.out.cell (World.block_lt_of_cell? w _ hw998_0)).trans hw998_0)⟩ (fun hHeld=>?_);refine with_tabW spec_l9State.tab11 spec_l9State.bits11 (fun HT_ HW_=>?_);generalize wr.drew=m4 at a4 HB b5 a5 a6 a7 hHeld ⊢;refine pure_ (i:=0) (N:=some 40) (v:=?_) (a':=?_) (zqb 33 1) rfl rfl (any_of HT_.out zqk) (fun _ _ _ h=>h) (Or.inl ⟨by rfl,?_⟩) ?_ ?_;rotate_left
                     ·exact zqt
                     rotate_left
                     ·exact zqs
                     refine pure_ (i:=2) (N:=some 42) (v:=?_) (a':=?_) (zqb 33 5) rfl rfl (any_of HT_.out zqk) (fun _ _ _ h=>h) (Or.inl ⟨by rfl,?_⟩) ?_ ?_;rotate_left
                     ·exact zqt
                     rotate_left
                     ·exact zqs
                     refine pure_ (i:=5) (N:=some 45) (v:=?_) (a':=?_) (zqb 33 37) rfl rfl (any_of HT_.out zqk) (fun _ _ _ h=>h) (Or.inl ⟨by rfl,?_⟩) ?_ ?_;rotate_left
                     ·exact zqt
                     rotate_left
                     ·exact zqs
                     refine pure_ (i:=7) (N:=some 47) (v:=?_) (a':=?_) (zqb 33 165) rfl rfl (any_of HT_.out zqk) (fun _ _ _ h=>h) (Or.inl ⟨by rfl,?_⟩) ?_ ?_;rotate_left
                     ·exact zqt
                     rotate_left
                     ·exact zqs
                     refine take_ (i:=1) (N:=some 41) (v:=?_) (a':=?_) (zqb 33 167) rfl rfl (take_ofW HT_.out HW_.out zqk) (fun _ _ _ h=>h) (Or.inl ⟨by rfl,?_⟩) hHeld ?_ ?_;rotate_left
                     ·rintro w' ⟨s0,s1,s2,s3,s4⟩;go_simp;with_reducible rfl
                     rotate_left
                     ·exact zqs
                     refine pure_ (i:=3) (N:=some 43) (v:=?_) (a':=?_) (zqb 33 175) rfl rfl (any_of HT_.out zqk) (fun _ _ _ h=>h) (Or.inl ⟨by rfl,?_⟩) ?_ ?_;rotate_left
                     ·exact zqt
                     rotate_left
                     ·exact zqs
                     refine take_ (i:=4) (N:=some 44) (v:=?_) (a':=?_) (zqb 33 191) rfl rfl (take_ofW HT_.out HW_.out zqk) (fun _ _ _ h=>h) (Or.inl ⟨by rfl,?_⟩) hHeld ?_ ?_;rotate_left
                     ·rintro w' ⟨s0,s1,s2,s3,s4⟩;go_simp;with_reducible rfl
                     rotate_left
                     ·exact zqs
                     refine take_ (i:=6) (N:=some 46) (v:=?_) (a':=?_) (zqb 33 255) rfl rfl (take_ofW HT_.out HW_.out zqk) (fun _ _ _ h=>h) (Or.inl ⟨by rfl,?_⟩) hHeld ?_ ?_;rotate_left
                     ·rintro w' ⟨s0,s1,s2,s3,s4⟩;go_simp;with_reducible rfl
                     rotate_left
                     ·exact zqs
                     refine pure_ (i:=8) (N:=some 48) (v:=?_) (a':=?_) (zqb 33 511) rfl rfl (any_of HT_.out zqk) (fun _ _ _ h=>h) (Or.inl ⟨by rfl,?_⟩) ?_ ?_;rotate_left
                     ·exact zqt
                     rotate_left
                     ·exact zqs
                     refine take_ (i:=9) (N:=some 49) (v:=?_) (a':=?_) (zqb 33 1023) rfl rfl (take_ofW HT_.out HW_.out zqk) (fun _ _ _ h=>h) (Or.inl ⟨by rfl,?_⟩) hHeld ?_ ?_;rotate_left
                     ·rintro w' ⟨s0,s1,s2,s3,s4⟩;go_simp;with_reducible rfl
                     rotate_left
                     ·exact zqs
                     refine pure_ (i:=10) (N:=some 50) (v:=?_) (a':=?_) (zqb 33 2047) rfl rfl (any_of HT_.out zqk) (fun _ _ _ h=>h) (Or.inl ⟨by rfl,?_⟩) ?_ ?_;rotate_left
                     ·exact zqt
                     rotate_left
                     ·exact zqs
                     refine take_ (i:=11) (N:=some 51) (v:=?_) (a':=?_) (zqb 33 4095) rfl rfl (take_ofW HT_.out HW_.out zqk) (fun _ _ _ h=>h) (Or.inl ⟨by rfl,?_⟩) hHeld ?_ ?_;rotate_left
                     ·rintro w' ⟨s0,s1,s2,s3,s4⟩;go_simp;with_reducible rfl
                     rotate_left
                     ·exact zqs
                     refine pure_ (i:=12) (N:=some 52) (v:=?_) (a':=?_) (zqb 33 8191) rfl rfl (any_of HT_.out zqk) (fun _ _ _ h=>h) (Or.inl ⟨by rfl,?_⟩) ?_ ?_;rotate_left
                     ·exact zqt
                     rotate_left
                     ·exact zqs
                     refine pure_ (i:=13) (N:=some 53) (v:=?_) (a':=?_) (zqb 33 16383) rfl rfl (any_of HT_.out zqk) (fun _ _ _ h=>h) (Or.inl ⟨by rfl,?_⟩) ?_ ?_;rotate_left
                     ·exact zqt
                     rotate_left
                     ·exact zqs
                     refine pure_ (i:=14) (N:=some 54) (v:=?_) (a':=?_) (zqb 33 32767) rfl rfl (any_of HT_.out zqk) (fun _ _ _ h=>h) (Or.inl ⟨by rfl,?_⟩) ?_ ?_;rotate_left
                     ·exact zqt
                     rotate_left
                     ·exact zqs
                     refine pure_ (i:=15) (N:=some 55) (v:=?_) (a':=?_) (zqb 33 65535) rfl rfl (any_of HT_.out zqk) (fun _ _ _ h=>h) (Or.inl ⟨by rfl,?_⟩) ?_ ?_;rotate_left
                     ·exact zqt
                     rotate_left
                     ·exact zqs
                     refine pure_ (i:=16) (N:=some 56) (v:=?_) (a':=?_) (zqb 33 131071) rfl rfl (any_of HT_.out zqk) (fun _ _ _ h=>h) (Or.inl ⟨by rfl,?_⟩) ?_ ?_;rotate_left
                     ·exact zqt
                     rotate_left
                     ·exact zqs
                     refine pure_ (i:=17) (N:=some 57) (v:=?_) (a':=?_) (zqb 33 262143) rfl rfl (any_of HT_.out zqk) (fun _ _ _ h=>h) (Or.inl ⟨by rfl,?_⟩) ?_ ?_;rotate_left
                     ·exact zqt
                     rotate_left
                     ·exact zqs
                     refine pure_ (i:=18) (N:=some 58) (v:=?_) (a':=?_) (zqb 33 524287) rfl rfl (any_of HT_.out zqk) (fun _ _ _ h=>h) (Or.inl ⟨by rfl,?_⟩) ?_ ?_;rotate_left
                     ·exact zqt
                     rotate_left
                     ·exact zqs
                     refine pure_ (i:=19) (N:=some 59) (v:=?_) (a':=?_) (zqb 33 1048575) rfl rfl (any_of HT_.out zqk) (fun _ _ _ h=>h) (Or.inl ⟨by rfl,?_⟩) ?_ ?_;rotate_left
                     ·exact zqt
                     rotate_left
                     ·exact zqs
                     refine pure_ (i:=20) (N:=some 60) (v:=?_) (a':=?_) (zqb 33 2097151) rfl rfl (any_of HT_.out zqk) (fun _ _ _ h=>h) (Or.inl ⟨by rfl,?_⟩) ?_ ?_;rotate_left
                     ·exact zqt
                     rotate_left
                     ·exact zqs
                     refine pure_ (i:=21) (N:=some 61) (v:=?_) (a':=?_) (zqb 33 4194303) rfl rfl (any_of HT_.out zqk) (fun _ _ _ h=>h) (Or.inl ⟨by rfl,?_⟩) ?_ ?_;rotate_left
                     ·exact zqt
                     rotate_left
                     ·exact zqs
                     refine pure_ (i:=22) (N:=some 62) (v:=?_) (a':=?_) (zqb 33 8388607) rfl rfl (any_of HT_.out zqk) (fun _ _ _ h=>h) (Or.inl ⟨by rfl,?_⟩) ?_ ?_;rotate_left
                     ·exact zqt
                     rotate_left
                     ·exact zqs
                     refine pure_ (i:=23) (N:=some 63) (v:=?_) (a':=?_) (zqb 33 16777215) rfl rfl (any_of HT_.out zqk) (fun _ _ _ h=>h) (Or.inl ⟨by rfl,?_⟩) ?_ ?_;rotate_left
                     ·exact zqt
                     rotate_left
                     ·exact zqs
                     refine pure_ (i:=24) (N:=some 64) (v:=?_) (a':=?_) (zqb 33 33554431) rfl rfl (any_of HT_.out zqk) (fun _ _ _ h=>h) (Or.inl ⟨by rfl,?_⟩) ?_ ?_;rotate_left
                     ·exact zqt
                     rotate_left
                     ·exact zqs
                     refine pure_ (i:=26) (N:=some 66) (v:=?_) (a':=?_) (zqb 33 100663295) rfl rfl (any_of HT_.out zqk) (fun _ _ _ h=>h) (Or.inl ⟨by rfl,?_⟩) ?_ ?_;rotate_left
                     ·exact zqt
                     rotate_left
                     ·exact zqs
                     refine pure_ (i:=27) (N:=some 67) (v:=?_) (a':=?_) (zqb 33 234881023) rfl rfl (any_of HT_.out zqk) (fun _ _ _ h=>h) (Or.inl ⟨by rfl,?_⟩) ?_ ?_;rotate_left
                     ·exact zqt
                     rotate_left
                     ·exact zqs
                     refine take_ (i:=25) (N:=some 65) (v:=?_) (a':=?_) (zqb 33 268435455) rfl rfl (take_ofW HT_.out HW_.out zqk) (fun _ _ _ h=>h) (Or.inl ⟨by rfl,?_⟩) hHeld ?_ ?_;rotate_left
                     ·rintro w' ⟨s0,s1,s2,s3,s4⟩;go_simp;with_reducible rfl
                     rotate_left
                     ·exact zqs
                     refine one_ (i:=28) (N:=some 68) (zqb 33 536870911) rfl rfl (one_of HT_.out zqk) (by decide) (fun K hK=>?_);refine goes_ Try.func82 zqk rfl #[.slice (some b9) l0_0.length c0_0,.int .i64 a0,.int .i64 a3] (by rfl) rfl rfl zq1 ?_;(with_reducible refine(spec_l1Join.calls k2 _ _ l0_0 a0 a3 b2 _ ?side1 ?side2 i3.out).mono ?_);(case side1=> exact zq347);(case side2=>exact g8.out);rintro e w' ⟨rfl,⟨nd,rfl⟩⟩;refine⟨_,rfl,?_⟩;refine hK.out _ _ ⟨(blk_cell a4.out 0).trans rfl,(blk_cell a4.out 1).trans rfl,((HB.out.cell (World.block_lt_of_cell? w _ hw996_0)).trans hw996_0),((HB.out.cell (World.block_lt_of_cell? w _ hw997_0)).trans hw997_0),((HB.out.cell (World.block_lt_of_cell? w _ hw998_0)).trans hw998_0)⟩ (fun hHeld=>?_);clear hK K;refine norm_ (a':=?_) ?_ ?_;rotate_left
                     ·show Act.put _ (some 68) _=_;exact zqs
                     refine pure_ (i:=29) (N:=some 69) (v:=?_) (a':=?_) (zqb 33 1073741823) rfl rfl (any_of HT_.out zqk) (fun _ _ _ h=>h) (Or.inl ⟨by rfl,?_⟩) ?_ ?_;rotate_left
                     ·exact zqt
                     rotate_left
                     ·exact zqs
                     refine pure_ (i:=30) (N:=some 70) (v:=?_) (a':=?_) (zqb 33 2147483647) rfl rfl (any_of HT_.out zqk) (fun _ _ _ h=>h) (Or.inl ⟨by rfl,?_⟩) ?_ ?_;rotate_left
                     ·exact zqt
                     rotate_left
                     ·exact zqs
                     refine pure_ (i:=31) (N:=some 71) (v:=?_) (a':=?_) (zqb 33 4294967295) rfl rfl (any_of HT_.out zqk) (fun _ _ _ h=>h) (Or.inl ⟨by rfl,?_⟩) ?_ ?_;rotate_left
                     ·exact zqt
                     rotate_left
                     ·exact zqs
                     refine pure_ (i:=32) (N:=some 72) (v:=?_) (a':=?_) (zqb 33 8589934591) rfl rfl (any_of HT_.out zqk) (fun _ _ _ h=>h) (Or.inl ⟨by rfl,?_⟩) ?_ ?_;rotate_left
                     ·exact zqt
                     rotate_left
                     ·exact zqs
                     refine done_ (done_of HT_.out zqk) ?_;try go_wp2
                     go_ret
                     exact⟨by first|rfl|(simp [errW_none,errW_some] <;> rfl)|(simp only [← d4,← d3,← d8,← d9,← e3,← e0];first|rfl|(simp [errW_none,errW_some] <;> rfl))|(simp [*,errW_none,errW_some] <;> rfl),zq91⟩
                   ·rw [if_neg g3] at H;exact absurd H (by simp)
                  ·rw [if_neg e9] at H;have j0:((rd (rd_L3 l0_0 a0) (rd l0_1 a3))==1)=false:=beq_eq_false_iff_ne.mpr e9;have j1:((rd (rd_L3 l0_0 a0) (rd l0_1 a3)) !=1)=true:=bne_iff_ne.mpr e9;have H':=zqm H;clear H;(try go_wp2);replace a4:=zqm (blk_drew a4.out);replace HB:=zqm (below_drew1 HB.out);have c3:0≤(a0:Int):=zqo;have c5:a0<(l0_0.length:Int):=zqo;obtain⟨b9,g4,d7,f1,a5,b3,b4⟩:=at_L3 e1.out a0 c3 c5;have hw996_0:=a5
                   cases f1
                   replace a5:=(HB.out.cell (World.block_lt_of_cell? w _ a5)).trans a5;have b5:=zqm b4;have f9:=zqm b3;clear b4 b3;replace c3:=eq_true c3;replace c5:=eq_true c5;have c7:0≤(a3:Int):=zqo;have c8:a3<(l0_1.length:Int):=zqo;obtain⟨e4,f2,a6⟩:=Kd.at_int e2.out a3 c7 c8;have hw997_0:=a6;obtain rfl:b0=e4:=(by injection f2);replace a6:=(HB.out.cell (World.block_lt_of_cell? w _ a6)).trans a6;replace c7:=eq_true c7;replace c8:=eq_true c8;have d0:0≤((rd l0_1 a3):Int):=zqo;have d1:(rd l0_1 a3)<((rd_L3 l0_0 a0).length:Int):=zqo;obtain⟨d2,f3,a7⟩:=Kd.at_int b5.out (rd l0_1 a3) d0 d1;have hw998_0:=a7
                   cases f3
                   replace a7:=(HB.out.cell (World.block_lt_of_cell? w _ a7)).trans a7;replace d0:=eq_true d0;replace d1:=eq_true d1;refine start_ (n:=33) (S:=fun w'=>w'.cell? ⟨a8,0,none⟩=some (.slice (some b9) l0_0.length c0_0)∧w'.cell? ⟨a8,1,none⟩=some (.slice (some b0) l0_1.length c0_1)∧w'.cell? (b9.add (a0).toNat)=some (.slice (some d2) (rd_L3 l0_0 a0).length d7)∧w'.cell? (b0.add (a3).toNat)=some (.int .i64 (rd l0_1 a3))∧w'.cell? (d2.add ((rd l0_1 a3)).toNat)=some (.int .i64 (rd (rd_L3 l0_0 a0) (rd l0_1 a3)))) (ds:= []) (zqb 33 0) zqk rfl rfl ⟨(blk_cell a4.out 0).trans rfl,(blk_cell a4.out 1).trans rfl,((HB.out.cell (World.block_lt_of_cell? w _ hw996_0)).trans hw996_0),((HB.out.cell (World.block_lt_of_cell? w _ hw997_0)).trans hw997_0),((HB.out.cell (World.block_lt_of_cell? w _ hw998_0)).trans hw998_0)⟩ (fun hHeld=>?_);refine with_tabW spec_l9State.tab11 spec_l9State.bits11 (fun HT_ HW_=>?_);generalize wr.drew=m5 at a4 HB b5 a5 a6 a7 hHeld ⊢;refine pure_ (i:=0) (N:=some 40) (v:=?_) (a':=?_) (zqb 33 1) rfl rfl (any_of HT_.out zqk) (fun _ _ _ h=>h) (Or.inl ⟨by rfl,?_⟩) ?_ ?_;rotate_left
                   ·exact zqt
                   rotate_left
                   ·exact zqs
                   refine pure_ (i:=2) (N:=some 42) (v:=?_) (a':=?_) (zqb 33 5) rfl rfl (any_of HT_.out zqk) (fun _ _ _ h=>h) (Or.inl ⟨by rfl,?_⟩) ?_ ?_;rotate_left
                   ·exact zqt
                   rotate_left
                   ·exact zqs
                   refine pure_ (i:=5) (N:=some 45) (v:=?_) (a':=?_) (zqb 33 37) rfl rfl (any_of HT_.out zqk) (fun _ _ _ h=>h) (Or.inl ⟨by rfl,?_⟩) ?_ ?_;rotate_left
                   ·exact zqt
                   rotate_left
                   ·exact zqs
                   refine pure_ (i:=7) (N:=some 47) (v:=?_) (a':=?_) (zqb 33 165) rfl rfl (any_of HT_.out zqk) (fun _ _ _ h=>h) (Or.inl ⟨by rfl,?_⟩) ?_ ?_;rotate_left
                   ·exact zqt
                   rotate_left
                   ·exact zqs
                   refine take_ (i:=1) (N:=some 41) (v:=?_) (a':=?_) (zqb 33 167) rfl rfl (take_ofW HT_.out HW_.out zqk) (fun _ _ _ h=>h) (Or.inl ⟨by rfl,?_⟩) hHeld ?_ ?_;rotate_left
                   ·rintro w' ⟨s0,s1,s2,s3,s4⟩;go_simp;with_reducible rfl
                   rotate_left
                   ·exact zqs
                   refine pure_ (i:=3) (N:=some 43) (v:=?_) (a':=?_) (zqb 33 175) rfl rfl (any_of HT_.out zqk) (fun _ _ _ h=>h) (Or.inl ⟨by rfl,?_⟩) ?_ ?_;rotate_left
                   ·exact zqt
                   rotate_left
                   ·exact zqs
                   refine take_ (i:=4) (N:=some 44) (v:=?_) (a':=?_) (zqb 33 191) rfl rfl (take_ofW HT_.out HW_.out zqk) (fun _ _ _ h=>h) (Or.inl ⟨by rfl,?_⟩) hHeld ?_ ?_;rotate_left
                   ·rintro w' ⟨s0,s1,s2,s3,s4⟩;go_simp;with_reducible rfl
                   rotate_left
                   ·exact zqs
                   refine take_ (i:=6) (N:=some 46) (v:=?_) (a':=?_) (zqb 33 255) rfl rfl (take_ofW HT_.out HW_.out zqk) (fun _ _ _ h=>h) (Or.inl ⟨by rfl,?_⟩) hHeld ?_ ?_;rotate_left
                   ·rintro w' ⟨s0,s1,s2,s3,s4⟩;go_simp;with_reducible rfl
                   rotate_left
                   ·exact zqs
                   refine pure_ (i:=8) (N:=some 48) (v:=?_) (a':=?_) (zqb 33 511) rfl rfl (any_of HT_.out zqk) (fun _ _ _ h=>h) (Or.inl ⟨by rfl,?_⟩) ?_ ?_;rotate_left
                   ·exact zqt
                   rotate_left
                   ·exact zqs
                   refine take_ (i:=9) (N:=some 49) (v:=?_) (a':=?_) (zqb 33 1023) rfl rfl (take_ofW HT_.out HW_.out zqk) (fun _ _ _ h=>h) (Or.inl ⟨by rfl,?_⟩) hHeld ?_ ?_;rotate_left
                   ·rintro w' ⟨s0,s1,s2,s3,s4⟩;go_simp;with_reducible rfl
                   rotate_left
                   ·exact zqs
                   refine pure_ (i:=10) (N:=some 50) (v:=?_) (a':=?_) (zqb 33 2047) rfl rfl (any_of HT_.out zqk) (fun _ _ _ h=>h) (Or.inl ⟨by rfl,?_⟩) ?_ ?_;rotate_left
                   ·exact zqt
                   rotate_left
                   ·exact zqs
                   refine take_ (i:=11) (N:=some 51) (v:=?_) (a':=?_) (zqb 33 4095) rfl rfl (take_ofW HT_.out HW_.out zqk) (fun _ _ _ h=>h) (Or.inl ⟨by rfl,?_⟩) hHeld ?_ ?_;rotate_left
                   ·rintro w' ⟨s0,s1,s2,s3,s4⟩;go_simp;with_reducible rfl
                   rotate_left
                   ·exact zqs
                   refine pure_ (i:=12) (N:=some 52) (v:=?_) (a':=?_) (zqb 33 8191) rfl rfl (any_of HT_.out zqk) (fun _ _ _ h=>h) (Or.inl ⟨by rfl,?_⟩) ?_ ?_;rotate_left
                   ·exact zqt
                   rotate_left
                   ·exact zqs
                   refine pure_ (i:=13) (N:=some 53) (v:=?_) (a':=?_) (zqb 33 16383) rfl rfl (any_of HT_.out zqk) (fun _ _ _ h=>h) (Or.inl ⟨by rfl,?_⟩) ?_ ?_;rotate_left
                   ·exact zqt
                   rotate_left
                   ·exact zqs
                   refine pure_ (i:=14) (N:=some 54) (v:=undef) (a':=?_) (zqb 33 32767) rfl rfl (any_of HT_.out zqk) (fun _ _ _ h=>h) (Or.inr ⟨by rfl,rfl⟩) ?_ ?_;rotate_left
                   ·exact zqs
                   refine pure_ (i:=15) (N:=some 55) (v:=undef) (a':=?_) (zqb 33 65535) rfl rfl (any_of HT_.out zqk) (fun _ _ _ h=>h) (Or.inr ⟨by rfl,rfl⟩) ?_ ?_;rotate_left
                   ·exact zqs
                   refine pure_ (i:=16) (N:=some 56) (v:=undef) (a':=?_) (zqb 33 131071) rfl rfl (any_of HT_.out zqk) (fun _ _ _ h=>h) (Or.inr ⟨by rfl,rfl⟩) ?_ ?_;rotate_left
                   ·exact zqs
                   refine pure_ (i:=17) (N:=some 57) (v:=undef) (a':=?_) (zqb 33 262143) rfl rfl (any_of HT_.out zqk) (fun _ _ _ h=>h) (Or.inr ⟨by rfl,rfl⟩) ?_ ?_;rotate_left
                   ·exact zqs
                   refine pure_ (i:=18) (N:=some 58) (v:=undef) (a':=?_) (zqb 33 524287) rfl rfl (any_of HT_.out zqk) (fun _ _ _ h=>h) (Or.inr ⟨by rfl,rfl⟩) ?_ ?_;rotate_left
                   ·exact zqs
                   refine pure_ (i:=19) (N:=some 59) (v:=undef) (a':=?_) (zqb 33 1048575) rfl rfl (any_of HT_.out zqk) (fun _ _ _ h=>h) (Or.inr ⟨by rfl,rfl⟩) ?_ ?_;rotate_left
                   ·exact zqs
                   refine pure_ (i:=20) (N:=some 60) (v:=undef) (a':=?_) (zqb 33 2097151) rfl rfl (any_of HT_.out zqk) (fun _ _ _ h=>h) (Or.inr ⟨by rfl,rfl⟩) ?_ ?_;rotate_left
                   ·exact zqs
                   refine pure_ (i:=21) (N:=some 61) (v:=undef) (a':=?_) (zqb 33 4194303) rfl rfl (any_of HT_.out zqk) (fun _ _ _ h=>h) (Or.inr ⟨by rfl,rfl⟩) ?_ ?_;rotate_left
                   ·exact zqs
                   refine pure_ (i:=22) (N:=some 62) (v:=undef) (a':=?_) (zqb 33 8388607) rfl rfl (any_of HT_.out zqk) (fun _ _ _ h=>h) (Or.inr ⟨by rfl,rfl⟩) ?_ ?_;rotate_left
                   ·exact zqs
                   refine pure_ (i:=23) (N:=some 63) (v:=undef) (a':=?_) (zqb 33 16777215) rfl rfl (any_of HT_.out zqk) (fun _ _ _ h=>h) (Or.inr ⟨by rfl,rfl⟩) ?_ ?_;rotate_left
                   ·exact zqs
                   refine pure_ (i:=24) (N:=some 64) (v:=undef) (a':=?_) (zqb 33 33554431) rfl rfl (any_of HT_.out zqk) (fun _ _ _ h=>h) (Or.inr ⟨by rfl,rfl⟩) ?_ ?_;rotate_left
                   ·exact zqs
                   refine pure_ (i:=25) (N:=some 65) (v:=undef) (a':=?_) (zqb 33 67108863) rfl rfl (any_of HT_.out zqk) (fun _ _ _ h=>h) (Or.inr ⟨by rfl,rfl⟩) ?_ ?_;rotate_left
                   ·exact zqs
                   refine pure_ (i:=26) (N:=some 66) (v:=undef) (a':=?_) (zqb 33 134217727) rfl rfl (any_of HT_.out zqk) (fun _ _ _ h=>h) (Or.inr ⟨by rfl,rfl⟩) ?_ ?_;rotate_left
                   ·exact zqs
                   refine pure_ (i:=27) (N:=some 67) (v:=undef) (a':=?_) (zqb 33 268435455) rfl rfl (any_of HT_.out zqk) (fun _ _ _ h=>h) (Or.inr ⟨by rfl,rfl⟩) ?_ ?_;rotate_left
                   ·exact zqs
                   refine pure_ (i:=28) (N:=some 68) (v:=undef) (a':=?_) (zqb 33 536870911) rfl rfl (any_of HT_.out zqk) (fun _ _ _ h=>h) (Or.inr ⟨by rfl,rfl⟩) ?_ ?_;rotate_left
                   ·exact zqs
                   refine pure_ (i:=29) (N:=some 69) (v:=undef) (a':=?_) (zqb 33 1073741823) rfl rfl (any_of HT_.out zqk) (fun _ _ _ h=>h) (Or.inr ⟨by rfl,rfl⟩) ?_ ?_;rotate_left
                   ·exact zqs
                   refine pure_ (i:=30) (N:=some 70) (v:=undef) (a':=?_) (zqb 33 2147483647) rfl rfl (any_of HT_.out zqk) (fun _ _ _ h=>h) (Or.inr ⟨by rfl,rfl⟩) ?_ ?_;rotate_left
                   ·exact zqs
                   refine pure_ (i:=31) (N:=some 71) (v:=undef) (a':=?_) (zqb 33 4294967295) rfl rfl (any_of HT_.out zqk) (fun _ _ _ h=>h) (Or.inr ⟨by rfl,rfl⟩) ?_ ?_;rotate_left
                   ·exact zqs
                   refine pure_ (i:=32) (N:=some 72) (v:=?_) (a':=?_) (zqb 33 8589934591) rfl rfl (any_of HT_.out zqk) (fun _ _ _ h=>h) (Or.inl ⟨by rfl,?_⟩) ?_ ?_;rotate_left
                   ·exact zqt
                   rotate_left
                   ·exact zqs
                   refine done_ (done_of HT_.out zqk) ?_;try go_wp2
                   go_roundg k2
                   (case measure=>have:=f4.out;have:=f7.out;omega);case rel=>exact⟨(wrap64 (a3+1)),(by first|rfl|(simp;done)|(simp [*];done)),H',⟨by have:=f4.out;have:=f7.out;omega⟩,⟨zq13⟩,⟨zq91⟩⟩
                 ·rw [if_neg h4] at H;exact absurd H (by simp)
                ·rw [if_neg h3] at H;exact absurd H (by simp)
               ·rw [if_neg h2] at H;exact absurd H (by simp)
              ·rw [if_neg h1] at H;exact absurd H (by simp)
             ·rw [if_neg h0] at H;exact absurd H (by simp)
            ·rw [if_neg g9] at H;exact absurd H (by simp)
           ·rw [if_neg f8] at H;have i9:decide (a3<a0)=false:=decide_eq_false f8;clear f8;have H':=zqm H;clear H
            go_wp2
            go_roundg k2
            (case measure=>have:=f4.out;have:=f7.out;omega);case rel=>exact⟨(wrap64 (a0+1)),(by first|rfl|(simp;done)|(simp [*];done)),H',⟨by have:=f4.out;have:=f7.out;omega⟩,⟨zq13⟩,⟨zq91⟩⟩
        ·rw [if_neg e6] at H;have e7:((wrap64 ((Int.tmod (b6) 2)+(Int.tmod (c0) 2)))==1)=false:=beq_eq_false_iff_ne.mpr e6;(have c14w0:((IntKind.i64.wrap ((Int.tmod (b6) 2)+(Int.tmod (c0) 2)))==1)=false:=by simp only [i64_w];exact e7);have e8:((wrap64 ((Int.tmod (b6) 2)+(Int.tmod (c0) 2))) !=1)=true:=bne_iff_ne.mpr e6;(have c14w1:((IntKind.i64.wrap ((Int.tmod (b6) 2)+(Int.tmod (c0) 2))) !=1)=true:=by simp only [i64_w];exact e8);obtain rfl:=Option.some.inj H;have j2:wr.cell? ⟨a8,0,none⟩=some (.slice A0_0 l0_0.length c0_0):=(blk_cell a4.out 0).trans rfl;have j3:wr.cell? ⟨a8,1,none⟩=some (.slice A0_1 l0_1.length c0_1):=(blk_cell a4.out 1).trans rfl;have j4:=blk_frozen a4.out 0;have j5:=blk_frozen a4.out 1;(try go_wp2);replace a4:=zqm (blk_drew a4.out);replace HB:=zqm (below_drew1 HB.out);have d5:0≤(a0:Int):=zqo;have d6:a0<(l0_1.length:Int):=zqo;obtain⟨b0,g7,a9⟩:=Kd.at_int e2.out a0 d5 d6;have hw995_0:=a9
         cases g7
         replace a9:=(HB.out.cell (World.block_lt_of_cell? w _ a9)).trans a9;replace d5:=eq_true d5;replace d6:=eq_true d6;refine start_ (n:=14) (S:=fun w'=>w'.cell? ⟨a8,0,none⟩=some (.slice A0_0 l0_0.length c0_0)∧w'.cell? ⟨a8,1,none⟩=some (.slice (some b0) l0_1.length c0_1)∧w'.cell? (b0.add (a0).toNat)=some (.int .i64 (rd l0_1 a0))) (ds:= []) (zqb 14 0) zqk rfl rfl ⟨(blk_cell a4.out 0).trans rfl,(blk_cell a4.out 1).trans rfl,((HB.out.cell (World.block_lt_of_cell? w _ hw995_0)).trans hw995_0)⟩ (fun hHeld=>?_);refine with_tabW spec_l9State.tab6 spec_l9State.bits6 (fun HT_ HW_=>?_);generalize wr.drew=m6 at a4 HB a9 hHeld ⊢;refine pure_ (i:=0) (N:=some 21) (v:=?_) (a':=?_) (zqb 14 1) rfl rfl (any_of HT_.out zqk) (fun _ _ _ h=>h) (Or.inl ⟨by rfl,?_⟩) ?_ ?_;rotate_left
         ·exact zqt
         rotate_left
         ·exact zqs
         refine pure_ (i:=1) (N:=some 22) (v:=?_) (a':=?_) (zqb 14 3) rfl rfl (any_of HT_.out zqk) (fun _ _ _ h=>h) (Or.inl ⟨by rfl,?_⟩) ?_ ?_;rotate_left
         ·exact zqt
         rotate_left
         ·exact zqs
         refine pure_ (i:=2) (N:=some 23) (v:=?_) (a':=?_) (zqb 14 7) rfl rfl (any_of HT_.out zqk) (fun _ _ _ h=>h) (Or.inl ⟨by rfl,?_⟩) ?_ ?_;rotate_left
         ·exact zqt
         rotate_left
         ·exact zqs
         refine pure_ (i:=3) (N:=some 24) (v:=?_) (a':=?_) (zqb 14 15) rfl rfl (any_of HT_.out zqk) (fun _ _ _ h=>h) (Or.inl ⟨by rfl,?_⟩) ?_ ?_;rotate_left
         ·exact zqt
         rotate_left
         ·exact zqs
         refine pure_ (i:=4) (N:=some 25) (v:=?_) (a':=?_) (zqb 14 31) rfl rfl (any_of HT_.out zqk) (fun _ _ _ h=>h) (Or.inl ⟨by rfl,?_⟩) ?_ ?_;rotate_left
         ·exact zqt
         rotate_left
         ·exact zqs
         refine pure_ (i:=5) (N:=some 26) (v:=?_) (a':=?_) (zqb 14 63) rfl rfl (any_of HT_.out zqk) (fun _ _ _ h=>h) (Or.inl ⟨by rfl,?_⟩) ?_ ?_;rotate_left
         ·exact zqt
         rotate_left
         ·exact zqs
         refine pure_ (i:=7) (N:=some 28) (v:=?_) (a':=?_) (zqb 14 191) rfl rfl (any_of HT_.out zqk) (fun _ _ _ h=>h) (Or.inl ⟨by rfl,?_⟩) ?_ ?_;rotate_left
         ·exact zqt
         rotate_left
         ·exact zqs
         refine take_ (i:=6) (N:=some 27) (v:=?_) (a':=?_) (zqb 14 255) rfl rfl (take_ofW HT_.out HW_.out zqk) (fun _ _ _ h=>h) (Or.inl ⟨by rfl,?_⟩) hHeld ?_ ?_;rotate_left
         ·rintro w' ⟨s0,s1,s2⟩;go_simp;with_reducible rfl
         rotate_left
         ·exact zqs
         refine pure_ (i:=8) (N:=some 29) (v:=?_) (a':=?_) (zqb 14 511) rfl rfl (any_of HT_.out zqk) (fun _ _ _ h=>h) (Or.inl ⟨by rfl,?_⟩) ?_ ?_;rotate_left
         ·exact zqt
         rotate_left
         ·exact zqs
         refine take_ (i:=9) (N:=some 30) (v:=?_) (a':=?_) (zqb 14 1023) rfl rfl (take_ofW HT_.out HW_.out zqk) (fun _ _ _ h=>h) (Or.inl ⟨by rfl,?_⟩) hHeld ?_ ?_;rotate_left
         ·rintro w' ⟨s0,s1,s2⟩;go_simp;with_reducible rfl
         rotate_left
         ·exact zqs
         refine pure_ (i:=10) (N:=some 31) (v:=?_) (a':=?_) (zqb 14 2047) rfl rfl (any_of HT_.out zqk) (fun _ _ _ h=>h) (Or.inl ⟨by rfl,?_⟩) ?_ ?_;rotate_left
         ·exact zqt
         rotate_left
         ·exact zqs
         refine pure_ (i:=11) (N:=some 32) (v:=?_) (a':=?_) (zqb 14 4095) rfl rfl (any_of HT_.out zqk) (fun _ _ _ h=>h) (Or.inl ⟨by rfl,?_⟩) ?_ ?_;rotate_left
         ·exact zqt
         rotate_left
         ·exact zqs
         refine pure_ (i:=12) (N:=some 33) (v:=?_) (a':=?_) (zqb 14 8191) rfl rfl (any_of HT_.out zqk) (fun _ _ _ h=>h) (Or.inl ⟨by rfl,?_⟩) ?_ ?_;rotate_left
         ·exact zqt
         rotate_left
         ·exact zqs
         refine pure_ (i:=13) (N:=some 34) (v:=?_) (a':=?_) (zqb 14 16383) rfl rfl (any_of HT_.out zqk) (fun _ _ _ h=>h) (Or.inl ⟨by rfl,?_⟩) ?_ ?_;rotate_left
         ·exact zqt
         rotate_left
         ·exact zqs
         refine done_ (done_of HT_.out zqk) ?_;try go_wp2
         go_ret
         exact⟨by first|rfl|(simp [errW_none,errW_some] <;> rfl)|(simp only [← d4,← d3,← d8];first|rfl|(simp [errW_none,errW_some] <;> rfl))|(simp [*,errW_none,errW_some] <;> rfl),zq91⟩
       ·rw [if_neg f6] at H;exact absurd H (by simp)
      ·rw [if_neg f5] at H;exact absurd H (by simp)
     ·rw [if_neg c9] at H;have i1:decide (a0<(l0_1.length:Int))=false:=decide_eq_false c9;clear c9;obtain rfl:=Option.some.inj H;have j6:wr.cell? ⟨a8,0,none⟩=some (.slice A0_0 l0_0.length c0_0):=(blk_cell a4.out 0).trans rfl;have j7:wr.cell? ⟨a8,1,none⟩=some (.slice A0_1 l0_1.length c0_1):=(blk_cell a4.out 1).trans rfl;have j8:=blk_frozen a4.out 0;have j9:=blk_frozen a4.out 1
      go_wp2
      go_ret
      exact⟨zq352,zq91⟩
 ·rw [if_neg c4] at H;exact absurd H (by simp)
end Go.Proofs.Ytdoomkcgdcfmlaa.Print
end
section
namespace Go.Proofs.Ytdoomkcgdcfmlaa.Print
open Go.RowKit Go.Proofs.YtdoomkcgdcfmlaaW.PrintWords Go.Proofs.YtdoomkcgdcfmlaaW.PrintLast Go.Proofs.YtdoomkcgdcfmlaaW.PrintMore
def spec_NoOf.f (k : Nat) (l0_0 : List (List Int)) (l0_1 : List Int) : Option (Int) := (spec_LogicOk.f k l0_0 l0_1).bind fun t959 => (if t959 = true then ((spec_LeastOf.f k l0_0).bind fun bt960 => (some bt960.1)) else (some (-1)))
set_option maxHeartbeats 8000000 in
set_option maxRecDepth 100000 in
theorem spec_NoOf.calls (k : Nat) (A0_0 : Option Addr) (c0_0 : Nat) (l0_0 : List (List Int)) (A0_1 : Option Addr) (c0_1 : Nat) (l0_1 : List Int) (r : Int) (w : World) (hr0_0 : Kd.C (Kd.slice 3 (Kd.int .i64)) w A0_0 l0_0.length l0_0) (hc0_0 : l0_0.length ≤ c0_0) (hr0_1 : Kd.C (Kd.int .i64) w A0_1 l0_1.length l0_1) (hc0_1 : l0_1.length ≤ c0_1) (h : spec_NoOf.f k l0_0 l0_1 = some r) :
  Calls Try.prog 101 #[.agg #[.slice A0_0 l0_0.length c0_0, .slice A0_1 l0_1.length c0_1]] w fun e w' => e = .returned (.int .i64 r) ∧ Below w.heap.size w w' := by
 have hu30:=Try.underlying30;have a4:=zqm hr0_0;have a5:=zqm hc0_0;clear hr0_0 hc0_0;have a8:=zqm hr0_1;have a9:=zqm hc0_1;clear hr0_1 hc0_1;have HB:=zqm (Below.refl w.heap.size w);have H:((spec_LogicOk.f k l0_0 l0_1).bind fun a6=>(if a6=true then((spec_LeastOf.f k l0_0).bind fun a2=>(some a2.1)) else(some (-1))))=some r:=h;clear h;replace H:=Option.bind_eq_some_iff.mp H;obtain⟨a6,b2,H⟩:=H;replace H:(if a6=true then((spec_LeastOf.f k l0_0).bind fun a2=>(some a2.1)) else(some (-1)))=some r:=H;have A2:=zqm b2;clear b2
 by_cases c3:a6=true
 ·subst c3;(have H1:((spec_LeastOf.f k l0_0).bind fun a2=>(some a2.1))=some r:=by rw [if_pos rfl] at H;exact H);clear H;have H:=H1;clear H1;replace H:=Option.bind_eq_some_iff.mp H;obtain⟨⟨b0,b4⟩,b3,H⟩:=H;replace H:(some b0)=some r:=H;have A4:=zqm b3;clear b3;obtain rfl:=Option.some.inj H
  go_enter Try.func101,Try.ntmps101
  go_wp2_with (first|((with_reducible refine gate_dst (N:=1) rfl ?_);refine box_event ?hg (N:=1) ?hd (cs:= #[.slice A0_0 l0_0.length c0_0,.slice A0_1 l0_1.length c0_1]) (t:=30) ?hr ?_;(case hd=>rfl);(case hg=>rfl);(case hr=>first|(go_simp;done)|(go_simp;rfl));intro a1 hg w5 hbox hb;have a7:=zqm (below_step zq0 hb);have a0:=zqm (hbox);have b1:=zqm ((by rw [hg];exact(below_size zq0):w.heap.size≤a1));have a3:=zqm ((by rw [hg];exact(below_size zq0):w.heap.size≤a1));clear HB;have HB:=a7;clear a7 hb hbox hg;have b9:w5.cell? ⟨a1,0,none⟩=some (.slice A0_0 l0_0.length c0_0):=(blk_cell a0.out 0).trans rfl;have c0:w5.cell? ⟨a1,1,none⟩=some (.slice A0_1 l0_1.length c0_1):=(blk_cell a0.out 1).trans rfl;have c1:=blk_frozen a0.out 0;have c2:=blk_frozen a0.out 1)|((with_reducible refine gate_callee (f:=42) rfl ?_);refine goesL_ (some 6) rfl rfl Try.func42 zqk rfl #[.agg #[.slice A0_0 l0_0.length c0_0,.slice A0_1 l0_1.length c0_1]] rfl zq1 ?_;(with_reducible refine(spec_LogicOk.calls k _ _ l0_0 _ _ l0_1 true _ ?side1 ?side2 ?side3 ?side4 A2.out).mono ?_);(case side1=> exact zq292);(case side2=>exact a5.out);(case side3=> exact zq26);(case side4=>exact a9.out);rintro e w7 ⟨rfl,hb⟩;refine⟨_,rfl,?_⟩;replace a0:=zqm (blk_below (g:=a1) (o:= .cells #[.slice A0_0 l0_0.length c0_0,.slice A0_1 l0_1.length c0_1] 30 (0,0)) zq2 hb);replace HB:=zqm (below_step zq21 hb);clear hb;have c4:w7.cell? ⟨a1,0,none⟩=some (.slice A0_0 l0_0.length c0_0):=(blk_cell a0.out 0).trans rfl;have c5:w7.cell? ⟨a1,1,none⟩=some (.slice A0_1 l0_1.length c0_1):=(blk_cell a0.out 1).trans rfl;have c6:=blk_frozen a0.out 0;have c7:=blk_frozen a0.out 1)|((with_reducible refine gate_callee (f:=95) rfl ?_);refine goesL_ (some 11) rfl rfl Try.func95 zqk rfl #[.slice A0_0 l0_0.length c0_0] rfl zq1 ?_;(with_reducible refine(spec_LeastOf.calls k _ _ l0_0 b0 b4 _ ?side1 ?side2 A4.out).mono ?_);(case side1=> exact zq292);(case side2=>exact a5.out);rintro e w' ⟨rfl,⟨nd,rfl⟩⟩;refine⟨_,rfl,?_⟩))
  go_ret
  exact⟨zq11,zq21⟩
 ·replace c3:=Bool.eq_false_iff.mpr c3;subst c3;(have H1:(some (-1))=some r:=by rw [if_neg (show¬(false=true) by decide)] at H;exact H);clear H;have H:=H1;clear H1;obtain rfl:=Option.some.inj H
  go_enter Try.func101,Try.ntmps101
  go_wp2_with (first|((with_reducible refine gate_dst (N:=1) rfl ?_);refine box_event ?hg (N:=1) ?hd (cs:= #[.slice A0_0 l0_0.length c0_0,.slice A0_1 l0_1.length c0_1]) (t:=30) ?hr ?_;(case hd=>rfl);(case hg=>rfl);(case hr=>first|(go_simp;done)|(go_simp;rfl));intro a1 hg w9 hbox hb;have a7:=zqm (below_step zq0 hb);have a0:=zqm (hbox);have b1:=zqm ((by rw [hg];exact(below_size zq0):w.heap.size≤a1));have a3:=zqm ((by rw [hg];exact(below_size zq0):w.heap.size≤a1));clear HB;have HB:=a7;clear a7 hb hbox hg;have b5:w9.cell? ⟨a1,0,none⟩=some (.slice A0_0 l0_0.length c0_0):=(blk_cell a0.out 0).trans rfl;have b6:w9.cell? ⟨a1,1,none⟩=some (.slice A0_1 l0_1.length c0_1):=(blk_cell a0.out 1).trans rfl;have b7:=blk_frozen a0.out 0;have b8:=blk_frozen a0.out 1)|((with_reducible refine gate_callee (f:=42) rfl ?_);refine goesL_ (some 6) rfl rfl Try.func42 zqk rfl #[.agg #[.slice A0_0 l0_0.length c0_0,.slice A0_1 l0_1.length c0_1]] rfl zq1 ?_;(with_reducible refine(spec_LogicOk.calls k _ _ l0_0 _ _ l0_1 false _ ?side1 ?side2 ?side3 ?side4 A2.out).mono ?_);(case side1=> exact zq292);(case side2=>exact a5.out);(case side3=> exact zq26);(case side4=>exact a9.out);rintro e c8 ⟨rfl,hb⟩;refine⟨_,rfl,?_⟩;replace a0:=zqm (blk_below (g:=a1) (o:= .cells #[.slice A0_0 l0_0.length c0_0,.slice A0_1 l0_1.length c0_1] 30 (0,0)) zq2 hb);replace HB:=zqm (below_step zq21 hb);clear hb))
  go_ret
  exact⟨zq11,zq21⟩
def spec_YesOf.f (k : Nat) (l0_0 : List (List Int)) (l0_1 : List Int) : Option (Int) := (spec_NoOf.f k l0_0 l0_1).bind fun t1001 => ((spec_NotOf.f k l0_0 l0_1 t1001).bind fun t1002 => (some t1002))
set_option maxHeartbeats 8000000 in
set_option maxRecDepth 100000 in
theorem spec_YesOf.calls (k : Nat) (A0_0 : Option Addr) (c0_0 : Nat) (l0_0 : List (List Int)) (A0_1 : Option Addr) (c0_1 : Nat) (l0_1 : List Int) (r : Int) (w : World) (hr0_0 : Kd.C (Kd.slice 3 (Kd.int .i64)) w A0_0 l0_0.length l0_0) (hc0_0 : l0_0.length ≤ c0_0) (hr0_1 : Kd.C (Kd.int .i64) w A0_1 l0_1.length l0_1) (hc0_1 : l0_1.length ≤ c0_1) (h : spec_YesOf.f k l0_0 l0_1 = some r) :
  Calls Try.prog 106 #[.agg #[.slice A0_0 l0_0.length c0_0, .slice A0_1 l0_1.length c0_1]] w fun e w' => e = .returned (.int .i64 r) ∧ Below w.heap.size w w' := by
 have hu30:=Try.underlying30;have a5:=zqm hr0_0;have a6:=zqm hc0_0;clear hr0_0 hc0_0;have a7:=zqm hr0_1;have a8:=zqm hc0_1;clear hr0_1 hc0_1;have HB:=zqm (Below.refl w.heap.size w);have H:((spec_NoOf.f k l0_0 l0_1).bind fun a2=>((spec_NotOf.f k l0_0 l0_1 a2).bind fun a3=>(some a3)))=some r:=h;clear h;replace H:=Option.bind_eq_some_iff.mp H;obtain⟨a2,a9,H⟩:=H;replace H:((spec_NotOf.f k l0_0 l0_1 a2).bind fun a3=>(some a3))=some r:=H;have A2:=zqm a9;clear a9;replace H:=Option.bind_eq_some_iff.mp H;obtain⟨a3,b0,H⟩:=H;replace H:(some a3)=some r:=H;have A3:=zqm b0;clear b0;obtain rfl:=Option.some.inj H
 go_enter Try.func106,Try.ntmps106
 (try go_wp2_with (first|((with_reducible refine gate_dst (N:=1) rfl ?_);refine box_event ?hg (N:=1) ?hd (cs:= #[.slice A0_0 l0_0.length c0_0,.slice A0_1 l0_1.length c0_1]) (t:=30) ?hr ?_;(case hd=>rfl);(case hg=>rfl);(case hr=>first|(go_simp;done)|(go_simp;rfl));intro a1 hg w4 hbox hb;have b1:=zqm (below_step zq0 hb);have a0:=zqm (hbox);have b2:=zqm ((by rw [hg];exact(below_size zq0):w.heap.size≤a1));have a4:=zqm ((by rw [hg];exact(below_size zq0):w.heap.size≤a1));clear HB;have HB:=b1;clear b1 hb hbox hg)));replace a0:=zqm (blk_drew a0.out);replace HB:=zqm (below_drew1 HB.out);refine start_ (n:=5) (S:=fun w'=>w'.cell? ⟨a1,0,none⟩=some (.slice A0_0 l0_0.length c0_0)∧w'.cell? ⟨a1,1,none⟩=some (.slice A0_1 l0_1.length c0_1)) (ds:= []) (zqb 5 0) zqk rfl rfl ⟨(blk_cell a0.out 0).trans rfl,(blk_cell a0.out 1).trans rfl⟩ (fun hHeld=>?_);generalize w4.drew=w5 at a0 HB hHeld ⊢;refine take_ (i:=0) (N:=some 3) (v:=?_) (a':=?_) (zqb 5 1) rfl rfl zqk (fun _ _ _ h=>h) (Or.inl ⟨by rfl,?_⟩) hHeld ?_ ?_;rotate_left
 ·rintro w' ⟨s0,s1⟩;go_simp;with_reducible rfl
 rotate_left
 ·exact zqs
 refine take_ (i:=1) (N:=some 4) (v:=?_) (a':=?_) (zqb 5 3) rfl rfl zqk (fun _ _ _ h=>h) (Or.inl ⟨by rfl,?_⟩) hHeld ?_ ?_;rotate_left
 ·rintro w' ⟨s0,s1⟩;go_simp;with_reducible rfl
 rotate_left
 ·exact zqs
 refine one_ (i:=2) (N:=some 5) (zqb 5 7) rfl rfl zqk (by decide) (fun K hK=>?_);refine goes_ Try.func101 zqk rfl #[.agg #[.slice A0_0 l0_0.length c0_0,.slice A0_1 l0_1.length c0_1]] (by rfl) rfl rfl zq1 ?_;(with_reducible refine(spec_NoOf.calls k _ _ l0_0 _ _ l0_1 a2 _ ?side1 ?side2 ?side3 ?side4 A2.out).mono ?_);(case side1=> exact zq38);(case side2=>exact a6.out);(case side3=> exact zq341);(case side4=>exact a8.out);rintro e w6 ⟨rfl,hb⟩;refine⟨_,rfl,?_⟩;replace a0:=zqm (blk_below (g:=a1) (o:= .cells #[.slice A0_0 l0_0.length c0_0,.slice A0_1 l0_1.length c0_1] 30 (0,0)) zq2 hb);replace HB:=zqm (below_step zq8 hb);clear hb;refine hK.out _ _ ⟨(blk_cell a0.out 0).trans rfl,(blk_cell a0.out 1).trans rfl⟩ (fun hHeld=>?_);clear hK K;refine norm_ (a':=?_) ?_ ?_;rotate_left
 ·show Act.put _ (some 5) _=_;exact zqs
 refine one_ (i:=3) (N:=some 6) (zqb 5 15) rfl rfl zqk (by decide) (fun K hK=>?_);refine goes_ Try.func96 zqk rfl #[.agg #[.slice A0_0 l0_0.length c0_0,.slice A0_1 l0_1.length c0_1],.int .i64 a2] (by rfl) rfl rfl zq1 ?_;(with_reducible refine(spec_NotOf.calls k _ _ l0_0 _ _ l0_1 a2 a3 _ ?side1 ?side2 ?side3 ?side4 A3.out).mono ?_);(case side1=> exact zq38);(case side2=>exact a6.out);(case side3=> exact zq341);(case side4=>exact a8.out);rintro e w7 ⟨rfl,hb⟩;refine⟨_,rfl,?_⟩;replace a0:=zqm (blk_below (g:=a1) (o:= .cells #[.slice A0_0 l0_0.length c0_0,.slice A0_1 l0_1.length c0_1] 30 (0,0)) zq2 hb);replace HB:=zqm (below_step zq8 hb);clear hb;refine hK.out _ _ ⟨(blk_cell a0.out 0).trans rfl,(blk_cell a0.out 1).trans rfl⟩ (fun hHeld=>?_);clear hK K;refine norm_ (a':=?_) ?_ ?_;rotate_left
 ·show Act.put _ (some 6) _=_;exact zqs
 refine pure_ (i:=4) (N:=some 2) (v:=?_) (a':=?_) (zqb 5 31) rfl rfl zqk (fun _ _ _ h=>h) (Or.inl ⟨by rfl,?_⟩) ?_ ?_;rotate_left
 ·exact zqt
 rotate_left
 ·exact zqs
 refine done_ zqk ?_;try go_wp2
 go_ret
 exact⟨zq11,zq8⟩
def spec_StatesOf.l0 : Nat → List Int → Int → Int → List (List Int) → List Int → Option (List Int)
 | 0, _, _, _, _, _ => none
 | k + 1, x3, x4, x5, x1004000, x1004001 => if x5 < (shl .i64 1 (x1004001.length : Int)) then ((spec_l9State.f k x1004000 x1004001 x5 x4).bind fun t1009 => (if t1009 = true then (if x3.length < 17592186044416 then (spec_StatesOf.l0 k (x3 ++ [x5]) x4 (wrap64 (x5 + 1)) x1004000 x1004001) else (none)) else (spec_StatesOf.l0 k x3 x4 (wrap64 (x5 + 1)) x1004000 x1004001))) else (some x3)
def spec_StatesOf.f (k : Nat) (l0_0 : List (List Int)) (l0_1 : List Int) : Option (List Int) := (some (([] : List Int) : List Int)).bind fun y1004 => ((spec_LogicOk.f k l0_0 l0_1).bind fun t1007 => (if t1007 = true then ((spec_YesOf.f k l0_0 l0_1).bind fun t1008 => (spec_StatesOf.l0 k y1004 t1008 1 l0_0 l0_1)) else (some y1004)))
set_option maxHeartbeats 8000000 in
set_option maxRecDepth 100000 in
theorem spec_StatesOf.calls (k : Nat) (A0_0 : Option Addr) (c0_0 : Nat) (l0_0 : List (List Int)) (A0_1 : Option Addr) (c0_1 : Nat) (l0_1 : List Int) (r : List Int) (w : World) (hr0_0 : Kd.C (Kd.slice 3 (Kd.int .i64)) w A0_0 l0_0.length l0_0) (hc0_0 : l0_0.length ≤ c0_0) (hr0_1 : Kd.C (Kd.int .i64) w A0_1 l0_1.length l0_1) (hc0_1 : l0_1.length ≤ c0_1) (h : spec_StatesOf.f k l0_0 l0_1 = some r) :
  Calls Try.prog 102 #[.agg #[.slice A0_0 l0_0.length c0_0, .slice A0_1 l0_1.length c0_1]] w fun e w' => ∃ v0_ : Value, e = .returned (v0_) ∧ Kd.R (Kd.int .i64) 3 w' w.heap.size (fun _ => True) v0_ r ∧ Below w.heap.size w w' := by
 have hu30:=Try.underlying30;have b2:=zqm hr0_0;have b3:=zqm hc0_0;clear hr0_0 hc0_0;have b4:=zqm hr0_1;have b5:=zqm hc0_1;clear hr0_1 hc0_1;have HB:=zqm (Below.refl w.heap.size w);have H:((some (([]:List Int):List Int)).bind fun a6=>((spec_LogicOk.f k l0_0 l0_1).bind fun b1=>(if b1=true then((spec_YesOf.f k l0_0 l0_1).bind fun a2=>(spec_StatesOf.l0 k a6 a2 1 l0_0 l0_1)) else(some a6))))=some r:=h;clear h;obtain⟨a6,a9⟩: ∃y_:List Int,y_=(([]:List Int)):=⟨_,rfl⟩;(replace H:((spec_LogicOk.f k l0_0 l0_1).bind fun b1=>(if b1=true then((spec_YesOf.f k l0_0 l0_1).bind fun a2=>(spec_StatesOf.l0 k a6 a2 1 l0_0 l0_1)) else(some a6)))=some r:=by first|(rw [a9];with_reducible exact H)|(have b9:=(Option.bind_some _ _).symm.trans H;rw [a9];with_reducible exact b9)|(have b9:=(Option.bind_some _ _).symm.trans H;with_reducible exact b9)|with_reducible exact H|(rw [a9];exact H)|exact H);have b6:=zqm a9;clear a9;replace H:=Option.bind_eq_some_iff.mp H;obtain⟨b1,e6,H⟩:=H;replace H:(if b1=true then((spec_YesOf.f k l0_0 l0_1).bind fun a2=>(spec_StatesOf.l0 k a6 a2 1 l0_0 l0_1)) else(some a6))=some r:=H;have A2:=zqm e6;clear e6
 by_cases c3:b1=true
 ·subst c3;(have H1:((spec_YesOf.f k l0_0 l0_1).bind fun a2=>(spec_StatesOf.l0 k a6 a2 1 l0_0 l0_1))=some r:=by rw [if_pos rfl] at H;exact H);clear H;have H:=H1;clear H1;replace H:=Option.bind_eq_some_iff.mp H;obtain⟨a2,e7,H⟩:=H;replace H:(spec_StatesOf.l0 k a6 a2 1 l0_0 l0_1)=some r:=H;have A4:=zqm e7;clear e7;have H':=zqm H;clear H
  go_enter Try.func102,Try.ntmps102
  go_wp2_with (first|((with_reducible refine gate_dst (N:=1) rfl ?_);refine box_event ?hg (N:=1) ?hd (cs:= #[.slice A0_0 l0_0.length c0_0,.slice A0_1 l0_1.length c0_1]) (t:=30) ?hr ?_;(case hd=>rfl);(case hg=>rfl);(case hr=>first|(go_simp;done)|(go_simp;rfl));intro a1 hg w5 hbox hb;have c6:=zqm (below_step zq0 hb);have a0:=zqm (hbox);have d6:=zqm ((by rw [hg];exact(below_size zq0):w.heap.size≤a1));have a4:=zqm ((by rw [hg];exact(below_size zq0):w.heap.size≤a1));clear HB;have HB:=c6;clear c6 hb hbox hg)|((with_reducible refine gate_dst (N:=6) rfl ?_);refine Kd.R_lit (Kd.int .i64) _ 3 ?hg (N:=6) ?hd (xs:=([]:List Int)) (inner:= []) (ok:=fun _=>True) (okp:=fun _=>True) ?hr ?hp (fun _ hk=>hk) trivial (Below.refl _ _) (Nat.le_refl _) (by simp) ?_;(case hd=>rfl);(case hg=>rfl);(case hr=>first|(go_simp;done)|(go_simp;rfl));(case hp=>exact(Reps.none _ _));intro e4 w6 c7 hb hg_ hnew_;clear hg_ hnew_;(first|rw [← b6.out] at c7|(simp only [Int.reduceToNat] at c7;rw [← b6.out] at c7));have a7:=zqm (Kd.R_lower c7 (below_size zq8));replace a0:=zqm (blk_below (g:=a1) (o:= .cells #[.slice A0_0 l0_0.length c0_0,.slice A0_1 l0_1.length c0_1] 30 (0,0)) zq2 hb);replace HB:=zqm (below_step zq8 hb);clear hb c7;have d7:w6.cell? ⟨a1,0,none⟩=some (.slice A0_0 l0_0.length c0_0):=(blk_cell a0.out 0).trans rfl;have d8:w6.cell? ⟨a1,1,none⟩=some (.slice A0_1 l0_1.length c0_1):=(blk_cell a0.out 1).trans rfl;have d9:=blk_frozen a0.out 0;have e0:=blk_frozen a0.out 1)|((with_reducible refine gate_callee (f:=42) rfl ?_);refine goesL_ (some 8) rfl rfl Try.func42 zqk rfl #[.agg #[.slice A0_0 l0_0.length c0_0,.slice A0_1 l0_1.length c0_1]] rfl zq1 ?_;(with_reducible refine(spec_LogicOk.calls k _ _ l0_0 _ _ l0_1 true _ ?side1 ?side2 ?side3 ?side4 A2.out).mono ?_);(case side1=> exact zq96);(case side2=>exact b3.out);(case side3=> exact zq155);(case side4=>exact b5.out);rintro e w9 ⟨rfl,hb⟩;refine⟨_,rfl,?_⟩;replace a7:=zqm (Kd.R_below zq302 hb);replace a0:=zqm (blk_below (g:=a1) (o:= .cells #[.slice A0_0 l0_0.length c0_0,.slice A0_1 l0_1.length c0_1] 30 (0,0)) zq2 hb);replace HB:=zqm (below_step zq8 hb);clear hb;have d2:w9.cell? ⟨a1,0,none⟩=some (.slice A0_0 l0_0.length c0_0):=(blk_cell a0.out 0).trans rfl;have d3:w9.cell? ⟨a1,1,none⟩=some (.slice A0_1 l0_1.length c0_1):=(blk_cell a0.out 1).trans rfl;have d4:=blk_frozen a0.out 0;have d5:=blk_frozen a0.out 1)|((with_reducible refine gate_callee (f:=106) rfl ?_);refine goesL_ (some 12) rfl rfl Try.func106 zqk rfl #[.agg #[.slice A0_0 l0_0.length c0_0,.slice A0_1 l0_1.length c0_1]] rfl zq1 ?_;(with_reducible refine(spec_YesOf.calls k _ _ l0_0 _ _ l0_1 a2 _ ?side1 ?side2 ?side3 ?side4 A4.out).mono ?_);(case side1=> exact zq96);(case side2=>exact b3.out);(case side3=> exact zq155);(case side4=>exact b5.out);rintro e g7 ⟨rfl,hb⟩;refine⟨_,rfl,?_⟩;replace a7:=zqm (Kd.R_below zq302 hb);replace a0:=zqm (blk_below (g:=a1) (o:= .cells #[.slice A0_0 l0_0.length c0_0,.slice A0_1 l0_1.length c0_1] 30 (0,0)) zq2 hb);replace HB:=zqm (below_step zq8 hb);clear hb))
  go_loopg [3,5] k (fun kq v3 v5 w'=> ∃(a5:List Int) (a3:Int),v5= .int .i64 a3∧Aside0 (spec_StatesOf.l0 kq a5 a2 a3 l0_0 l0_1=some r)∧Aside0 (kq≤k)∧Aside0 (Kd.R (Kd.int .i64) 3 w' w.heap.size (fun _=>True) v3 a5)∧Aside0 (w'.heap[a1]? =some (.cells #[(.slice A0_0 l0_0.length c0_0),(.slice A0_1 l0_1.length c0_1)] 30 (0,0)))∧Aside0 (Below w.heap.size w w'))
  case atStart=>exact⟨(a6),(1),(by first|rfl|(simp;done)|(simp [*];done)),H',⟨Nat.le_refl _⟩,⟨zq302⟩,⟨zq2⟩,⟨zq8⟩⟩
  case round=>
   clear H';(try clear c1);(try clear p2);(try clear c3);(try clear c4);(try clear g8);(try clear d2);(try clear d3);(try clear d7);(try clear d8);(try clear d4);(try clear d5);(try clear d9);(try clear e0);obtain⟨a5,a3,rfl,HA,c8,HO_3,a0,HB⟩:=hrel
   cases gk with
   |zero=>exact absurd HA.out (by simp [spec_StatesOf.l0])
   |succ k1=>
    have H:=HA.out;clear HA;simp only [spec_StatesOf.l0] at H;obtain⟨a8,b7⟩: ∃j_:Int,(shl .i64 1 (l0_1.length:Int))=j_:=⟨_,rfl⟩;(replace H:(if a3<(a8) then((spec_l9State.f k1 l0_0 l0_1 a3 a2).bind fun b8=>(if b8=true then(if a5.length<17592186044416 then(spec_StatesOf.l0 k1 (a5 ++ [a3]) a2 (wrap64 (a3+1)) l0_0 l0_1) else(none)) else(spec_StatesOf.l0 k1 a5 a2 (wrap64 (a3+1)) l0_0 l0_1))) else(some a5))=some r:=by first|(rw [b7] at H;exact H)|(simp only [b7] at H ⊢;exact H));have c0:(IntKind.i64.wrap (1*2 ^ min (l0_1.length:Int).toNat 64))=a8:=b7;have hji12z:(l0_1.length:Int)≤64→(IntKind.i64.wrap (1*2 ^ (l0_1.length:Int).toNat))=a8:=shl_small b7;have hji12p:(IntKind.i64.wrap (1*2 ^ min l0_1.length 64))=a8:=c0;have hji12q:(l0_1.length:Int)≤64→(IntKind.i64.wrap (1*2 ^ l0_1.length))=a8:=hji12z;(have hji12r:(IntKind.i64.wrap (2 ^ min l0_1.length 64))=a8:=by have h_:=hji12p;rw [Int.one_mul] at h_;exact h_);(have hji12s:(l0_1.length:Int)≤64→(IntKind.i64.wrap (2 ^ l0_1.length))=a8:=fun hle_=>by have h_:=hji12q hle_;rw [Int.one_mul] at h_;exact h_);(have hji12u:(IntKind.i64.wrap (2 ^ min (l0_1.length:Int).toNat 64))=a8:=by have h_:=c0;rw [Int.one_mul] at h_;exact h_);(have hji12v:(l0_1.length:Int)≤64→(IntKind.i64.wrap (2 ^ (l0_1.length:Int).toNat))=a8:=fun hle_=>by have h_:=hji12z hle_;rw [Int.one_mul] at h_;exact h_);have hji12y:(wrap64 (1*2 ^ min (l0_1.length:Int).toNat 64))=a8:=(i64_w _).symm.trans c0;have hji12x:(l0_1.length:Int)≤64→(wrap64 (1*2 ^ (l0_1.length:Int).toNat))=a8:=fun h_=>(i64_w _).symm.trans (hji12z h_)
    by_cases c5:a3<(a8)
    ·rw [if_pos c5] at H;have e5:decide (a3<(a8))=true:=decide_eq_true c5;clear c5;replace H:=Option.bind_eq_some_iff.mp H;obtain⟨b8,e1,H⟩:=H;replace H:(if b8=true then(if a5.length<17592186044416 then(spec_StatesOf.l0 k1 (a5 ++ [a3]) a2 (wrap64 (a3+1)) l0_0 l0_1) else(none)) else(spec_StatesOf.l0 k1 a5 a2 (wrap64 (a3+1)) l0_0 l0_1))=some r:=H;have e8:=zqm e1;clear e1
     by_cases c9:b8=true
     ·subst c9;(have H1:(if a5.length<17592186044416 then(spec_StatesOf.l0 k1 (a5 ++ [a3]) a2 (wrap64 (a3+1)) l0_0 l0_1) else(none))=some r:=by rw [if_pos rfl] at H;exact H);clear H;have H:=H1;clear H1
      by_cases d0:a5.length<17592186044416
      ·rw [if_pos d0] at H;have LMc16:=zqm d0;clear d0;obtain⟨d1,b0⟩: ∃y_:List Int,y_=(a5 ++ [a3]):=⟨_,rfl⟩;(replace H:(spec_StatesOf.l0 k1 d1 a2 (wrap64 (a3+1)) l0_0 l0_1)=some r:=by first|(rw [b0];with_reducible exact H)|(have b9:=(Option.bind_some _ _).symm.trans H;rw [b0];with_reducible exact b9)|(have b9:=(Option.bind_some _ _).symm.trans H;with_reducible exact b9)|with_reducible exact H|(rw [b0];exact H)|exact H);have e2:=zqm b0;clear b0;have H':=zqm H;clear H;have f0:wr.cell? ⟨a1,0,none⟩=some (.slice A0_0 l0_0.length c0_0):=(blk_cell a0.out 0).trans rfl;have f1:wr.cell? ⟨a1,1,none⟩=some (.slice A0_1 l0_1.length c0_1):=(blk_cell a0.out 1).trans rfl;have f2:=blk_frozen a0.out 0;have f3:=blk_frozen a0.out 1
       go_wp2_with (first|((with_reducible refine gate_callee (f:=105) rfl ?_);refine goesL_ (some 24) rfl rfl Try.func105 zqk rfl #[.agg #[.slice A0_0 l0_0.length c0_0,.slice A0_1 l0_1.length c0_1],.int .i64 a3,.int .i64 a2] rfl zq1 ?_;(with_reducible refine(spec_l9State.calls k1 _ _ l0_0 _ _ l0_1 a3 a2 true _ ?side1 ?side2 ?side3 ?side4 e8.out).mono ?_);(case side1=> exact zq96);(case side2=>exact b3.out);(case side3=> exact zq155);(case side4=>exact b5.out);rintro e g9 ⟨rfl,hb⟩;refine⟨_,rfl,?_⟩;replace HO_3:=zqm (Kd.R_below zq58 hb);replace a0:=zqm (blk_below (g:=a1) (o:= .cells #[.slice A0_0 l0_0.length c0_0,.slice A0_1 l0_1.length c0_1] 30 (0,0)) zq2 hb);replace HB:=zqm (below_step zq8 hb);clear hb)|((with_reducible refine gate_builtin (b:= .append) (xs:= #[.tmp 25,.tmp 27]) rfl ?_);at_builtin;refine Kd.R_append (Kd.int .i64) (w0:=w) w.heap.size rfl (.tmp 25) (.tmp 27) 28 3 (.int .i64 0) 8 rfl Try.underlying28 info3 rfl (by decide) (by omega) u3 a5 a3 [.int .i64 a3] (fun _=>True) (fun _=>False) rfl rfl ?aP (fun _ hk=>hk.elim) ?aF ?aO ?aB ?aS ?aL ?_;(case aP=>exact rfl);(case aB=>exact zq8);(case aF=>exact(fun _ _=>trivial));(case aO=> exact zq122);(case aS=>exact(below_size zq8));(case aL=>have:=LMc16.out;omega);intro g6 h0 ho hb hg hat;rw [← e2.out] at ho;replace a0:=zqm (blk_grown (g:=a1) (o:= .cells #[.slice A0_0 l0_0.length c0_0,.slice A0_1 l0_1.length c0_1] 30 (0,0)) zq2 hg (Kd.R_ne HO_3.out a0.out (by decide)));replace HB:=zqm (hb);have e3:=zqm (ho);clear HO_3;clear ho hb hg hat))
       go_roundg k1
       (case measure=>have:=c8.out;omega);case rel=>exact⟨(d1),(wrap64 (a3+1)),(by first|rfl|(simp;done)|(simp [*];done)),H',⟨by have:=c8.out;omega⟩,⟨zq389⟩,⟨zq2⟩,⟨zq8⟩⟩
      ·rw [if_neg d0] at H;exact absurd H (by simp)
     ·replace c9:=Bool.eq_false_iff.mpr c9;subst c9;(have H1:(spec_StatesOf.l0 k1 a5 a2 (wrap64 (a3+1)) l0_0 l0_1)=some r:=by rw [if_neg (show¬(false=true) by decide)] at H;exact H);clear H;have H:=H1;clear H1;have H':=zqm H;clear H;have f4:wr.cell? ⟨a1,0,none⟩=some (.slice A0_0 l0_0.length c0_0):=(blk_cell a0.out 0).trans rfl;have f5:wr.cell? ⟨a1,1,none⟩=some (.slice A0_1 l0_1.length c0_1):=(blk_cell a0.out 1).trans rfl;have f6:=blk_frozen a0.out 0;have f7:=blk_frozen a0.out 1
      go_wp2_with (first|((with_reducible refine gate_callee (f:=105) rfl ?_);refine goesL_ (some 24) rfl rfl Try.func105 zqk rfl #[.agg #[.slice A0_0 l0_0.length c0_0,.slice A0_1 l0_1.length c0_1],.int .i64 a3,.int .i64 a2] rfl zq1 ?_;(with_reducible refine(spec_l9State.calls k1 _ _ l0_0 _ _ l0_1 a3 a2 false _ ?side1 ?side2 ?side3 ?side4 e8.out).mono ?_);(case side1=> exact zq96);(case side2=>exact b3.out);(case side3=> exact zq155);(case side4=>exact b5.out);rintro e h1 ⟨rfl,hb⟩;refine⟨_,rfl,?_⟩;replace HO_3:=zqm (Kd.R_below zq58 hb);replace a0:=zqm (blk_below (g:=a1) (o:= .cells #[.slice A0_0 l0_0.length c0_0,.slice A0_1 l0_1.length c0_1] 30 (0,0)) zq2 hb);replace HB:=zqm (below_step zq8 hb);clear hb))
      go_roundg k1
      (case measure=>have:=c8.out;omega);case rel=>exact⟨(a5),(wrap64 (a3+1)),(by first|rfl|(simp;done)|(simp [*];done)),H',⟨by have:=c8.out;omega⟩,⟨zq58⟩,⟨zq2⟩,⟨zq8⟩⟩
    ·rw [if_neg c5] at H;have e5:decide (a3<(a8))=false:=decide_eq_false c5;clear c5;obtain rfl:=Option.some.inj H;have f8:wr.cell? ⟨a1,0,none⟩=some (.slice A0_0 l0_0.length c0_0):=(blk_cell a0.out 0).trans rfl;have f9:wr.cell? ⟨a1,1,none⟩=some (.slice A0_1 l0_1.length c0_1):=(blk_cell a0.out 1).trans rfl;have g0:=blk_frozen a0.out 0;have g1:=blk_frozen a0.out 1
     go_wp2
     go_ret
     exact⟨_,by first|rfl|(simp [errW_none,errW_some] <;> rfl)|(simp only [← b7];first|rfl|(simp [errW_none,errW_some] <;> rfl))|(simp [*,errW_none,errW_some] <;> rfl),zq58,zq8⟩
 ·replace c3:=Bool.eq_false_iff.mpr c3;subst c3;(have H1:(some a6)=some r:=by rw [if_neg (show¬(false=true) by decide)] at H;exact H);clear H;have H:=H1;clear H1;obtain rfl:=Option.some.inj H
  go_enter Try.func102,Try.ntmps102
  go_wp2_with (first|((with_reducible refine gate_dst (N:=1) rfl ?_);refine box_event ?hg (N:=1) ?hd (cs:= #[.slice A0_0 l0_0.length c0_0,.slice A0_1 l0_1.length c0_1]) (t:=30) ?hr ?_;(case hd=>rfl);(case hg=>rfl);(case hr=>first|(go_simp;done)|(go_simp;rfl));intro a1 hg h2 hbox hb;have c6:=zqm (below_step zq0 hb);have a0:=zqm (hbox);have d6:=zqm ((by rw [hg];exact(below_size zq0):w.heap.size≤a1));have a4:=zqm ((by rw [hg];exact(below_size zq0):w.heap.size≤a1));clear HB;have HB:=c6;clear c6 hb hbox hg)|((with_reducible refine gate_dst (N:=6) rfl ?_);refine Kd.R_lit (Kd.int .i64) _ 3 ?hg (N:=6) ?hd (xs:=([]:List Int)) (inner:= []) (ok:=fun _=>True) (okp:=fun _=>True) ?hr ?hp (fun _ hk=>hk) trivial (Below.refl _ _) (Nat.le_refl _) (by simp) ?_;(case hd=>rfl);(case hg=>rfl);(case hr=>first|(go_simp;done)|(go_simp;rfl));(case hp=>exact(Reps.none _ _));intro e4 e9 c2 hb hg_ hnew_;clear hg_ hnew_;(first|rw [← b6.out] at c2|(simp only [Int.reduceToNat] at c2;rw [← b6.out] at c2));have a7:=zqm (Kd.R_lower c2 (below_size zq8));replace a0:=zqm (blk_below (g:=a1) (o:= .cells #[.slice A0_0 l0_0.length c0_0,.slice A0_1 l0_1.length c0_1] 30 (0,0)) zq2 hb);replace HB:=zqm (below_step zq8 hb);clear hb c2;have g2:e9.cell? ⟨a1,0,none⟩=some (.slice A0_0 l0_0.length c0_0):=(blk_cell a0.out 0).trans rfl;have g3:e9.cell? ⟨a1,1,none⟩=some (.slice A0_1 l0_1.length c0_1):=(blk_cell a0.out 1).trans rfl;have g4:=blk_frozen a0.out 0;have g5:=blk_frozen a0.out 1)|((with_reducible refine gate_callee (f:=42) rfl ?_);refine goesL_ (some 8) rfl rfl Try.func42 zqk rfl #[.agg #[.slice A0_0 l0_0.length c0_0,.slice A0_1 l0_1.length c0_1]] rfl zq1 ?_;(with_reducible refine(spec_LogicOk.calls k _ _ l0_0 _ _ l0_1 false _ ?side1 ?side2 ?side3 ?side4 A2.out).mono ?_);(case side1=> exact zq96);(case side2=>exact b3.out);(case side3=> exact zq155);(case side4=>exact b5.out);rintro e h3 ⟨rfl,hb⟩;refine⟨_,rfl,?_⟩;replace a7:=zqm (Kd.R_below zq302 hb);replace a0:=zqm (blk_below (g:=a1) (o:= .cells #[.slice A0_0 l0_0.length c0_0,.slice A0_1 l0_1.length c0_1] 30 (0,0)) zq2 hb);replace HB:=zqm (below_step zq8 hb);clear hb))
  go_ret
  exact⟨_,zq11,zq302,zq8⟩
end Go.Proofs.Ytdoomkcgdcfmlaa.Print
end
section
namespace Go.Proofs.Ytdoomkcgdcfmlaa.Print
open Go.RowKit Go.Proofs.YtdoomkcgdcfmlaaW.PrintWords Go.Proofs.YtdoomkcgdcfmlaaW.PrintLast Go.Proofs.YtdoomkcgdcfmlaaW.PrintMore
open Oml
theorem ofInt_nat (a : Nat) (ha : a < 18446744073709551616) : (BitVec.ofInt 64 (a : Int)).toNat = a := by
  rw [BitVec.ofInt_natCast, BitVec.toNat_ofNat]; exact Nat.mod_eq_of_lt (by omega)
theorem band_nat (a b : Nat) (ha : a < 4611686018427387904) (hb : b < 4611686018427387904) : Go.bits .and .i64 (a : Int) (b : Int) = ((a &&& b : Nat) : Int) := by
  have hx:a &&& b<2 ^ 62:=Nat.and_lt_two_pow _ (by omega)
  show IntKind.i64.wrap ((BitVec.ofInt 64 (a:Int) &&& BitVec.ofInt 64 (b:Int)).toNat:Int)=_
  rw [BitVec.toNat_and,ofInt_nat a (by omega),ofInt_nat b (by omega),i64_w]
  unfold wrap64;omega
theorem two_pow_le {i : Nat} (h : i ≤ 40) : (2 : Nat) ^ i ≤ 1099511627776 := Nat.pow_le_pow_right (by omega) h
theorem cast_pow (i : Nat) : (2 : Int) ^ i = ((2 ^ i : Nat) : Int) := by rw [Int.natCast_pow]; rfl
theorem shl_nat {i : Nat} (h : i ≤ 40) : shl .i64 1 (i : Int) = ((2 ^ i : Nat) : Int) := by
  unfold shl
  have h2 := two_pow_le h
  rw [Int.toNat_natCast, Nat.min_eq_left (by show i ≤ 64; omega), Int.one_mul, cast_pow, i64_w]
  generalize 2 ^ i = x at h2 ⊢
  unfold wrap64; omega
theorem wshl_nat {i : Nat} (h : i ≤ 40) : IntKind.i64.wrap (2 ^ i) = ((2 ^ i : Nat) : Int) := by
  have := shl_nat h
  unfold shl at this
  rwa [Int.toNat_natCast, Nat.min_eq_left (by show i ≤ 64; omega), Int.one_mul] at this
theorem shr_nat (s : Nat) {i : Nat} (h : i ≤ 64) : shr .i64 (s : Int) (i : Int) = ((s / 2 ^ i : Nat) : Int) := by
  unfold shr
  rw [Int.toNat_natCast, Nat.min_eq_left (by show i ≤ 64; omega), cast_pow]
  rfl
theorem testBit_div (s i : Nat) : s.testBit i = decide (s / 2 ^ i % 2 = 1) := Nat.testBit_eq_decide_div_mod_eq
theorem smod_nat (s : Nat) {i : Nat} (h : i ≤ 64) : Int.tmod (shr .i64 (s : Int) (i : Int)) 2 = if s.testBit i = true then 1 else 0 := by
  rw [shr_nat s h,testBit_div]
  have h1:Int.tmod ((s / 2 ^ i:Nat):Int) ((2:Nat):Int)=((s / 2 ^ i % 2:Nat):Int):=by first|exact(Int.ofNat_tmod _ 2).symm|rfl
  rw [show ((2:Nat):Int)=2 from rfl] at h1
  rw [h1]
  by_cases e:s / 2 ^ i % 2=1
  · rw [e];simp
  · have : s / 2 ^ i % 2 = 0 := by omega
    rw [this];simp
end Go.Proofs.Ytdoomkcgdcfmlaa.Print
end
section
namespace Go.Proofs.Ytdoomkcgdcfmlaa.Print
open Go.RowKit Go.Proofs.YtdoomkcgdcfmlaaW.PrintWords Go.Proofs.YtdoomkcgdcfmlaaW.PrintLast Go.Proofs.YtdoomkcgdcfmlaaW.PrintMore
def impl_has.f (a0 : Int) (a1 : Int) : Option (Bool) := if 0 ≤ a1 then (some ((Go.bits .and .i64 (shr .i64 a0 a1) 1) == 1)) else (none)
set_option maxHeartbeats 8000000 in
set_option maxRecDepth 100000 in
theorem impl_has.calls (a0 : Int) (a1 : Int) (r : Bool) (w : World) (h : impl_has.f a0 a1 = some r) :
  Calls Try.prog 99 #[.int .i64 a0, .int .i64 a1] w fun e w' => e = .returned (.bool r) ∧ Drawn0 w w' := by
 have H : (if 0 ≤ a1 then (some ((Go.bits .and .i64 (shr .i64 a0 a1) 1) == 1)) else (none)) = some r := h
 clear h
 by_cases c3 : 0 ≤ a1
 ·rw [if_pos c3] at H
  have c3b0 := eq_true c3
  have c3b1 : decide (0 ≤ a1) = true := decide_eq_true c3
  clear c3
  obtain ⟨ji4, hji4⟩ : ∃ j_ : Int, (shr .i64 a0 a1) = j_ := ⟨_, rfl⟩
  replace H : (some ((Go.bits .and .i64 (ji4) 1) == 1)) = some r := by first | (rw [hji4] at H; exact H) | (simp only [hji4] at H ⊢; exact H)
  have hji4_ : (a0 / 2 ^ min a1.toNat 64) = ji4 := hji4
  have hji4z : a1 ≤ 64 → (a0 / 2 ^ a1.toNat) = ji4 := shr_small hji4
  obtain rfl := Option.some.inj H
  go_enter Try.func99, Try.ntmps99
  go_wp2
  go_ret
  exact ⟨by first | rfl | (simp; done) | (simp only [← hji4] <;> (first | rfl | simp)) | (simp [*]; done), by repeat (first | exact Drawn0.refl _ | apply Drawn0.step)⟩
 ·rw [if_neg c3] at H
  exact absurd H (by simp)
end Go.Proofs.Ytdoomkcgdcfmlaa.Print
end
section
namespace Go.Proofs.Ytdoomkcgdcfmlaa.Print
open Go.RowKit Go.Proofs.YtdoomkcgdcfmlaaW.PrintWords Go.Proofs.YtdoomkcgdcfmlaaW.PrintLast Go.Proofs.YtdoomkcgdcfmlaaW.PrintMore
open Oml
theorem has_nat (s : Nat) (hs : s < 4611686018427387904) {i : Nat} (h : i ≤ 64) : impl_has.f (s : Int) (i : Int) = some (s.testBit i) := by
  unfold impl_has.f
  rw [if_pos (by omega),shr_nat s h,show (1:Int)=((1:Nat):Int) from rfl,band_nat _ _ (Nat.lt_of_le_of_lt (Nat.div_le_self _ _) hs) (by omega),Nat.and_one_is_mod,testBit_div]
  have h2:s / 2 ^ i % 2=0∨s / 2 ^ i % 2=1:=by omega
  rcases h2 with h2|h2 <;> rw [h2] <;> rfl
theorem has_in (s : Nat) (hs : s < 4611686018427387904) {i : Int} (h0 : 0 ≤ i) (h : i ≤ 64) : impl_has.f (s : Int) i = some (s.testBit i.toNat) := by
  obtain ⟨x, rfl⟩ : ∃ x : Nat, i = x := ⟨i.toNat, by omega⟩
  rw [Int.toNat_natCast]
  exact has_nat s hs (by omega)
def stT (U : List (List Int)) (N : List Int) (s : Nat) (a b : Int) : Bool :=
  if s.testBit a.toNat=s.testBit (notI N a).toNat then false else if leI U a (notI N b)=false then true
  else !(s.testBit a.toNat && s.testBit b.toNat) && (s.testBit (orI U a b).toNat==(s.testBit a.toNat||s.testBit b.toNat))
def stB (U : List (List Int)) (N : List Int) (s : Nat) : Bool := s.testBit (yesI U N).toNat && allN U.length fun a => allN U.length fun b => stT U N s a b
def isSt (U : List (List Int)) (N : List Int) (x : Int) : Bool := decide (0 ≤ x) && (decide (x < ((2 ^ U.length : Nat) : Int)) && stB U N x.toNat)
theorem has_calls (s : Nat) (hs : s < 4611686018427387904) {i : Int} (h0 : 0 ≤ i) (h : i ≤ 64) (w : World) : Calls Try.prog 99 #[.int .i64 (s : Int), .int .i64 i] w fun e w' => e = .returned (.bool (s.testBit i.toNat)) ∧ Drawn0 w w' :=
  impl_has.calls _ _ _ _ (has_in s hs h0 h)
set_option maxHeartbeats 4000000 in
set_option maxRecDepth 100000 in
theorem st_c1 (g : Nat) (U : List (List Int)) (N : List Int) (v : Adr) (w : World) (L : Logic U N) (hV : View w g U N v) (gS gG : Nat) (s : Nat) (hs : s < 4611686018427387904) (a b : Int) (ia : In U a) (ib : In U b) (hS : w.heap[gS]? = some (.cells #[.int .i64 (s : Int)] 3 (0, 0))) (hG : w.heap[gG]? = some (.cells #[.pointer (some ⟨g, 0, none⟩)] 64 (0, 0))) :
    Calls Try.prog 130 #[.int .i64 a,.int .i64 b,.pointer (some ⟨gS,0,none⟩),.pointer (some ⟨gG,0,none⟩)] w fun e w'=>e= .returned (.bool (stT U N s a b))∧Below w.heap.size w w':=by
  have hu70:=Try.underlying70
  have HV:=Aside0.mk hV
  have HLg:=Aside0.mk L
  have Ia:=Aside0.mk ia
  have Ib:=Aside0.mk ib
  have hsm:=L.small
  have small: ∀i,In U i→0≤i∧i≤64:=fun i hi=>⟨hi.1,by have:=hi.2;omega⟩
  have hx_:=fun w=>has_calls s hs (small a ia).1 (small a ia).2 w
  have hy_:=fun w=>has_calls s hs (small b ib).1 (small b ib).2 w
  have hn_:=fun w=>has_calls s hs (small _ (L.in_not ia)).1 (small _ (L.in_not ia)).2 w
  have hz_:=fun w=>has_calls s hs (small _ (L.in_or ia ib)).1 (small _ (L.in_or ia ib)).2 w
  have v1:=L.le_val ia (L.in_not ib)
  unfold stT
  generalize s.testBit a.toNat=x at hx_ ⊢
  generalize s.testBit b.toNat=y at hy_ ⊢
  generalize s.testBit (notI N a).toNat=n at hn_ ⊢
  generalize s.testBit (orI U a b).toNat=z at hz_ ⊢
  generalize leI U a (notI N b)=le at v1 ⊢
  have HX:=Aside0.mk hx_
  have HY:=Aside0.mk hy_
  have HN:=Aside0.mk hn_
  have HZ:=Aside0.mk hz_
  have x0:w.cell? ⟨gS,0,none⟩=some (.int .i64 (s:Int)):=(blk_cell hS 0).trans rfl
  have x1:w.cell? ⟨gG,0,none⟩=some (.pointer (some ⟨g,0,none⟩)):=(blk_cell hG 0).trans rfl
  clear hV L ia ib hx_ hy_ hn_ hz_ hS hG hsm small
  have b0_:=eq_true Ia.out.1;have c0_:=eq_true Ia.out.2
  have hf3_:=HV.out.f3
  have n2_:=HV.out.n a Ia.out
  have b3_:=eq_true Ib.out.1;have c3_:=eq_true Ib.out.2
  have n4_:=HV.out.n b Ib.out
  have IN1_:=Aside0.mk (HLg.out.in_not Ib.out)
  have b5_:=eq_true IN1_.out.1;have c5_:=eq_true IN1_.out.2
  have hf0_:=HV.out.f0
  have r7_:=HV.out.u a Ia.out
  have U2_:=Aside0.mk True.intro
  have hf2_:=HV.out.f2
  have r10_:=HV.out.j a Ia.out
  have s11_:=HV.out.j2 a b Ia.out Ib.out
  have u2_:w.cell? ((v.rU a.toNat).add (notI N b).toNat)=some (.int .i64 (if le=true then 1 else 0)):=by rw [← v1];exact HV.out.u2 a (notI N b) Ia.out (HLg.out.in_not Ib.out)
  clear v1 U2_
  have key: ∀(P:Prop),P→P:=fun _ h=>h
  by_cases hxn:x=n
  · subst hxn
    have hd:(x==x)=true:=by cases x <;> rfl
    rw [if_pos rfl]
    clear u2_
    go_enter Try.func130,Try.ntmps130
    go_wp2_with fail
    go_quiet ((go_at_call 99;first|(with_reducible exact Drawn0.quiet2 (HX.out _))|(with_reducible exact Drawn0.quiet2 (HY.out _))|(with_reducible exact Drawn0.quiet2 (HN.out _))|(with_reducible exact Drawn0.quiet2 (HZ.out _))|(with_reducible exact Drawn0.quiet (HX.out _))|(with_reducible exact Drawn0.quiet (HY.out _))|(with_reducible exact Drawn0.quiet (HN.out _))|(with_reducible exact Drawn0.quiet (HZ.out _))))
    go_wp2
    go_ret
    exact⟨rfl,zq336⟩
  · have hd : (x == n) = false := by rw [beq_eq_false_iff_ne]; exact hxn
    rw [if_neg hxn]
    cases le with
    | false =>
      rw [if_neg (by simp)] at u2_
      rw [if_pos rfl]
      go_enter Try.func130,Try.ntmps130
      go_wp2_with fail
      go_quiet ((go_at_call 99;first|(with_reducible exact Drawn0.quiet2 (HX.out _))|(with_reducible exact Drawn0.quiet2 (HY.out _))|(with_reducible exact Drawn0.quiet2 (HN.out _))|(with_reducible exact Drawn0.quiet2 (HZ.out _))|(with_reducible exact Drawn0.quiet (HX.out _))|(with_reducible exact Drawn0.quiet (HY.out _))|(with_reducible exact Drawn0.quiet (HN.out _))|(with_reducible exact Drawn0.quiet (HZ.out _))))
      go_wp2
      go_quiet (fail)
      go_wp2
      go_ret
      exact⟨rfl,zq336⟩
    | true =>
      rw [if_pos rfl] at u2_
      rw [if_neg (by simp)]
      clear hxn
      cases x <;> cases y
      all_goals
        go_enter Try.func130,Try.ntmps130
        go_wp2_with fail
        go_quiet ((go_at_call 99;first|(with_reducible exact Drawn0.quiet2 (HX.out _))|(with_reducible exact Drawn0.quiet2 (HY.out _))|(with_reducible exact Drawn0.quiet2 (HN.out _))|(with_reducible exact Drawn0.quiet2 (HZ.out _))|(with_reducible exact Drawn0.quiet (HX.out _))|(with_reducible exact Drawn0.quiet (HY.out _))|(with_reducible exact Drawn0.quiet (HN.out _))|(with_reducible exact Drawn0.quiet (HZ.out _))))
        go_wp2
        go_quiet (fail)
        go_wp2
        go_quiet ((go_at_call 99;first|(with_reducible exact Drawn0.quiet2 (HX.out _))|(with_reducible exact Drawn0.quiet2 (HY.out _))|(with_reducible exact Drawn0.quiet2 (HN.out _))|(with_reducible exact Drawn0.quiet2 (HZ.out _))|(with_reducible exact Drawn0.quiet (HX.out _))|(with_reducible exact Drawn0.quiet (HY.out _))|(with_reducible exact Drawn0.quiet (HN.out _))|(with_reducible exact Drawn0.quiet (HZ.out _))))
        go_wp2
        go_quiet ((go_at_call 99;first|(with_reducible exact Drawn0.quiet2 (HX.out _))|(with_reducible exact Drawn0.quiet2 (HY.out _))|(with_reducible exact Drawn0.quiet2 (HN.out _))|(with_reducible exact Drawn0.quiet2 (HZ.out _))|(with_reducible exact Drawn0.quiet (HX.out _))|(with_reducible exact Drawn0.quiet (HY.out _))|(with_reducible exact Drawn0.quiet (HN.out _))|(with_reducible exact Drawn0.quiet (HZ.out _))))
        go_wp2
        go_ret
        exact⟨by first|rfl|(cases z <;> rfl),zq336⟩
set_option maxHeartbeats 4000000 in
set_option maxRecDepth 100000 in
theorem isState_calls (g : Nat) (U : List (List Int)) (N : List Int) (v : Adr) (x : Int) (w : World) (L : Logic U N) (hV : View w g U N v) :
    Calls Try.prog 104 #[.pointer (some ⟨g,0,none⟩),.int .i64 x] w fun e w'=>e= .returned (.bool (isSt U N x))∧Below w.heap.size w w':=by
  have hu70:=Try.underlying70
  have HV:=Aside0.mk hV
  have HLg:=Aside0.mk L
  have HSM:=Aside0.mk L.small
  obtain⟨mv,hmv⟩: ∃mv:Int,mv=((2 ^ U.length:Nat):Int):=⟨_,rfl⟩
  have e1_:wrap64 (2 ^ min U.length 64)=mv:=by rw [Nat.min_eq_left (show U.length≤64 by have:=L.small;omega),← i64_w,wshl_nat (by have:=L.small;omega),hmv]
  have e2_:IntKind.i64.wrap (2 ^ min U.length 64)=mv:=by rw [i64_w];exact e1_
  have hM2:2 ^ U.length≤4096:=Nat.pow_le_pow_right (by omega) L.small
  have HM2:=Aside0.mk hM2
  have HMV:=Aside0.mk hmv
  unfold isSt
  rw [← hmv]
  by_cases h0:x<0
  · have d0 : decide (x < 0) = true := decide_eq_true h0
    have d1:decide (0≤x)=false:=decide_eq_false (by omega)
    rw [d1]
    clear hV L hmv h0 d1 hM2
    go_enter Try.func104,Try.ntmps104
    go_wp2_with (first|((with_reducible refine gate_dst (N:=2) rfl ?_);refine box_event ?hg (N:=2) ?hd (cs:= #[.pointer (some ⟨g,0,none⟩)]) (t:=64) ?hr ?_;(case hd=>rfl);(case hg=>rfl);(case hr=>first|(go_simp;done)|(go_simp;rfl));intro gG hg_ w1 hbox hb;have HXG:=Aside0.mk hbox;have HB1:=Aside0.mk hb;clear hbox hb hg_)|((with_reducible refine gate_dst (N:=3) rfl ?_);refine box_event ?hg (N:=3) ?hd (cs:= #[.int .i64 x]) (t:=3) ?hr ?_;(case hd=>rfl);(case hg=>rfl);(case hr=>first|(go_simp;done)|(go_simp;rfl));intro gS hg_ w2 hbox hb;have HXS:=Aside0.mk hbox;have HB2:=Aside0.mk (below_step HB1.out hb);have HXG2:=Aside0.mk (blk_below HXG.out hb);have x0:w2.cell? ⟨gG,0,none⟩=some (.pointer (some ⟨g,0,none⟩)):=(blk_cell HXG2.out 0).trans rfl;have x1:w2.cell? ⟨gS,0,none⟩=some (.int .i64 x):=(blk_cell hbox 0).trans rfl;have hf0:=(HV.out.below HB2.out).f0;have hf5:=(HV.out.below HB2.out).f5;clear HXG HB1 hbox hb hg_))
    go_quiet (fail)
    go_wp2
    go_ret
    exact⟨rfl,zq303⟩
  · have d0 : decide (x < 0) = false := decide_eq_false h0
    have d1:decide (0≤x)=true:=decide_eq_true (by omega)
    rw [d1]
    by_cases h1:mv≤x
    · have d2 : decide (mv ≤ x) = true := decide_eq_true h1
      have d3:decide (x<mv)=false:=decide_eq_false (by omega)
      rw [d3]
      clear hV L hmv h0 h1 d1 d3 hM2
      go_enter Try.func104,Try.ntmps104
      go_wp2_with (first|((with_reducible refine gate_dst (N:=2) rfl ?_);refine box_event ?hg (N:=2) ?hd (cs:= #[.pointer (some ⟨g,0,none⟩)]) (t:=64) ?hr ?_;(case hd=>rfl);(case hg=>rfl);(case hr=>first|(go_simp;done)|(go_simp;rfl));intro gG hg_ w1 hbox hb;have HXG:=Aside0.mk hbox;have HB1:=Aside0.mk hb;clear hbox hb hg_)|((with_reducible refine gate_dst (N:=3) rfl ?_);refine box_event ?hg (N:=3) ?hd (cs:= #[.int .i64 x]) (t:=3) ?hr ?_;(case hd=>rfl);(case hg=>rfl);(case hr=>first|(go_simp;done)|(go_simp;rfl));intro gS hg_ w2 hbox hb;have HXS:=Aside0.mk hbox;have HB2:=Aside0.mk (below_step HB1.out hb);have HXG2:=Aside0.mk (blk_below HXG.out hb);have x0:w2.cell? ⟨gG,0,none⟩=some (.pointer (some ⟨g,0,none⟩)):=(blk_cell HXG2.out 0).trans rfl;have x1:w2.cell? ⟨gS,0,none⟩=some (.int .i64 x):=(blk_cell hbox 0).trans rfl;have hf0:=(HV.out.below HB2.out).f0;have hf5:=(HV.out.below HB2.out).f5;clear HXG HB1 hbox hb hg_))
      go_quiet (fail)
      go_wp2
      go_ret
      exact⟨rfl,zq303⟩
    · have d2 : decide (mv ≤ x) = false := decide_eq_false h1
      have d3:decide (x<mv)=true:=decide_eq_true (by omega)
      rw [d3]
      obtain⟨s,hsx⟩: ∃s:Nat,x=(s:Int):=⟨x.toNat,by omega⟩
      have hs:s<4611686018427387904:=by omega
      rw [show x.toNat=s by omega,Bool.true_and,Bool.true_and]
      unfold stB
      have hy_:=fun w=>has_calls s hs (i:=yesI U N) L.in_yes.1 (by have:=L.in_yes.2;have:=L.small;omega) w
      rw [← hsx] at hy_
      have HS:=Aside0.mk hs
      have HSX:=Aside0.mk hsx
      generalize s.testBit (yesI U N).toNat=y at hy_ ⊢
      have HX:=Aside0.mk hy_
      cases y with
      | false =>
        rw [Bool.false_and]
        clear hV L hmv h0 h1 d1 d3 hM2 hs hy_ hsx
        go_enter Try.func104,Try.ntmps104
        go_wp2_with (first|((with_reducible refine gate_dst (N:=2) rfl ?_);refine box_event ?hg (N:=2) ?hd (cs:= #[.pointer (some ⟨g,0,none⟩)]) (t:=64) ?hr ?_;(case hd=>rfl);(case hg=>rfl);(case hr=>first|(go_simp;done)|(go_simp;rfl));intro gG hg_ w1 hbox hb;have HXG:=Aside0.mk hbox;have HB1:=Aside0.mk hb;clear hbox hb hg_)|((with_reducible refine gate_dst (N:=3) rfl ?_);refine box_event ?hg (N:=3) ?hd (cs:= #[.int .i64 x]) (t:=3) ?hr ?_;(case hd=>rfl);(case hg=>rfl);(case hr=>first|(go_simp;done)|(go_simp;rfl));intro gS hg_ w2 hbox hb;have HXS:=Aside0.mk hbox;have HB2:=Aside0.mk (below_step HB1.out hb);have HXG2:=Aside0.mk (blk_below HXG.out hb);have x0:w2.cell? ⟨gG,0,none⟩=some (.pointer (some ⟨g,0,none⟩)):=(blk_cell HXG2.out 0).trans rfl;have x1:w2.cell? ⟨gS,0,none⟩=some (.int .i64 x):=(blk_cell hbox 0).trans rfl;have hf0:=(HV.out.below HB2.out).f0;have hf5:=(HV.out.below HB2.out).f5;clear HXG HB1 hbox hb hg_))
        go_quiet ((go_at_call 99;first|(with_reducible exact Drawn0.quiet (HX.out _))|(with_reducible exact Drawn0.quiet2 (HX.out _))))
        go_wp2
        go_ret
        exact⟨rfl,zq303⟩
      | true =>
        rw [Bool.true_and]
        clear hV L hmv h0 h1 d1 d3 hM2 hs hy_ hsx
        go_enter Try.func104,Try.ntmps104
        go_wp2_with (first|((with_reducible refine gate_dst (N:=2) rfl ?_);refine box_event ?hg (N:=2) ?hd (cs:= #[.pointer (some ⟨g,0,none⟩)]) (t:=64) ?hr ?_;(case hd=>rfl);(case hg=>rfl);(case hr=>first|(go_simp;done)|(go_simp;rfl));intro gG hg_ w1 hbox hb;have HXG:=Aside0.mk hbox;have HB1:=Aside0.mk hb;clear hbox hb hg_)|((with_reducible refine gate_dst (N:=3) rfl ?_);refine box_event ?hg (N:=3) ?hd (cs:= #[.int .i64 x]) (t:=3) ?hr ?_;(case hd=>rfl);(case hg=>rfl);(case hr=>first|(go_simp;done)|(go_simp;rfl));intro gS hg_ w2 hbox hb;have HXS:=Aside0.mk hbox;have HB2:=Aside0.mk (below_step HB1.out hb);have HXG2:=Aside0.mk (blk_below HXG.out hb);have x0:w2.cell? ⟨gG,0,none⟩=some (.pointer (some ⟨g,0,none⟩)):=(blk_cell HXG2.out 0).trans rfl;have x1:w2.cell? ⟨gS,0,none⟩=some (.int .i64 x):=(blk_cell hbox 0).trans rfl;have hf0:=(HV.out.below HB2.out).f0;have hf5:=(HV.out.below HB2.out).f5;clear HXG HB1 hbox hb hg_))
        go_quiet ((go_at_call 99;first|(with_reducible exact Drawn0.quiet (HX.out _))|(with_reducible exact Drawn0.quiet2 (HX.out _))))
        go_wp2_with (go_at_call 87;(with_reducible refine(every_pure g U N v _ HSM.out ?sV 130 _ #[.pointer (some ⟨gS,0,none⟩),.pointer (some ⟨gG,0,none⟩)] Try.func130 (by kernel_rfl) rfl (fun a b=>stT U N s a b) ?sT).mono ?_);(case sV=>exact(HV.out.below zq303));(case sT=>exact fun a b ha hb W hW=>st_c1 g U N v W HLg.out ((HV.out.below zq303).below hW) gS gG s HS.out a b ⟨by omega,by omega⟩ ⟨by omega,by omega⟩ (by rw [← HSX.out];exact blk_below (blk_drewN HXS.out _) hW) (blk_below (blk_drewN HXG2.out _) hW));rintro e w3 ⟨rfl,hb⟩;have HB3:=Aside0.mk (below_step zq303 hb);clear hb)
        go_ret
        exact⟨rfl,zq284⟩
def stL (U : List (List Int)) (N : List Int) : List Int := filI (2 ^ U.length) fun (s : Nat) => isSt U N (s : Int)
def impl_StateOk.f (l0_0 : List (List Int)) (l0_1 : List Int) (a1 : Int) : Option (Bool) := some (if logicB l0_0 l0_1 = true then isSt l0_0 l0_1 a1 else false)
set_option maxHeartbeats 4000000 in
set_option maxRecDepth 100000 in
theorem impl_StateOk.calls (A0_0 : Option Addr) (c0_0 : Nat) (l0_0 : List (List Int)) (A0_1 : Option Addr) (c0_1 : Nat) (l0_1 : List Int) (a1 : Int) (r : Bool) (w : World) (hr0_0 : Kd.C (Kd.slice 3 (Kd.int .i64)) w A0_0 l0_0.length l0_0) (hc0_0 : l0_0.length ≤ c0_0) (hr0_1 : Kd.C (Kd.int .i64) w A0_1 l0_1.length l0_1) (hc0_1 : l0_1.length ≤ c0_1) (h : impl_StateOk.f l0_0 l0_1 a1 = some r) :
    Calls Try.prog 59 #[.agg #[.slice A0_0 l0_0.length c0_0,.slice A0_1 l0_1.length c0_1],.int .i64 a1] w fun e w'=>e= .returned (.bool r)∧Below w.heap.size w w':=by
  obtain⟨k,hF⟩:=told_facts l0_0
  have hu30:=Try.underlying30
  have hu70:=Try.underlying70
  have HF:=Aside0.mk hF
  have HR0:=Aside0.mk hr0_0
  have HC0:=Aside0.mk hc0_0
  have HR1:=Aside0.mk hr0_1
  have HC1:=Aside0.mk hc0_1
  simp only [impl_StateOk.f,Option.some.injEq] at h
  clear hr0_0 hc0_0 hr0_1 hc0_1 hF
  cases hL:logicB l0_0 l0_1 with
  | false =>
    rw [hL] at h
    have hr_:false=r:=by simpa using h
    subst hr_
    have HLB:=Aside0.mk hL
    clear h hL
    go_enter Try.func59,Try.ntmps59
    go_wp2_with (first|((with_reducible refine gate_dst (N:=2) rfl ?_);refine box_event ?hg (N:=2) ?hd (cs:= #[.slice A0_0 l0_0.length c0_0,.slice A0_1 l0_1.length c0_1]) (t:=30) ?hr ?_;(case hd=>rfl);(case hg=>rfl);(case hr=>first|(go_simp;done)|(go_simp;rfl));intro gb hg_ w1 hbox hb;have HB:=Aside0.mk hb;have hx0:w1.cell? ⟨gb,0,none⟩=some (.slice A0_0 l0_0.length c0_0):=(blk_cell hbox 0).trans rfl;have hx1:w1.cell? ⟨gb,1,none⟩=some (.slice A0_1 l0_1.length c0_1):=(blk_cell hbox 1).trans rfl;have HX:=Aside0.mk hbox;clear hbox hb hg_)|(go_at_call 77;(with_reducible refine(told_n k _ _ l0_0 _ _ l0_1 _ ?s1 ?s2 ?s3 ?s4 HF.out HLB.out).mono ?_);(case s1=>exact Kd.C_below HR0.out HB.out);(case s2=>exact HC0.out);(case s3=>exact Kd.C_below HR1.out HB.out);(case s4=>exact HC1.out);rintro e w2 ⟨rfl,hb⟩;have HB2:=Aside0.mk (below_step HB.out hb);clear hb hx0 hx1 HX HB))
    go_ret
    exact⟨rfl,zq116⟩
  | true =>
    rw [hL] at h
    have hr_:isSt l0_0 l0_1 a1=r:=by simpa using h
    subst hr_
    have HLB:=Aside0.mk hL
    have HLg:=Aside0.mk (logicB_iff.1 hL)
    have HSM:=Aside0.mk (logicB_iff.1 hL).small
    clear h hL
    go_enter Try.func59,Try.ntmps59
    go_wp2_with (first|((with_reducible refine gate_dst (N:=2) rfl ?_);refine box_event ?hg (N:=2) ?hd (cs:= #[.slice A0_0 l0_0.length c0_0,.slice A0_1 l0_1.length c0_1]) (t:=30) ?hr ?_;(case hd=>rfl);(case hg=>rfl);(case hr=>first|(go_simp;done)|(go_simp;rfl));intro gb hg_ w1 hbox hb;have HB:=Aside0.mk hb;have hx0:w1.cell? ⟨gb,0,none⟩=some (.slice A0_0 l0_0.length c0_0):=(blk_cell hbox 0).trans rfl;have hx1:w1.cell? ⟨gb,1,none⟩=some (.slice A0_1 l0_1.length c0_1):=(blk_cell hbox 1).trans rfl;have HX:=Aside0.mk hbox;clear hbox hb hg_)|(go_at_call 77;(with_reducible refine(told_y k _ _ l0_0 _ _ l0_1 _ ?s1 ?s2 ?s3 ?s4 HF.out HLB.out).mono ?_);(case s1=>exact Kd.C_below HR0.out HB.out);(case s2=>exact HC0.out);(case s3=>exact Kd.C_below HR1.out HB.out);(case s4=>exact HC1.out);rintro e w2 ⟨g,v,rfl,hv,hge,hb⟩;have HB2:=Aside0.mk (below_step HB.out hb);have HV:=Aside0.mk hv;clear hv hge hb hx0 hx1 HX HB)|(go_at_call 104;(with_reducible refine(isState_calls g l0_0 l0_1 v a1 _ HLg.out HV.out).mono ?_);rintro e w3 ⟨rfl,hb⟩;have HB3:=Aside0.mk (below_step HB2.out hb);clear hb))
    go_ret
    exact⟨rfl,zq284⟩
end Go.Proofs.Ytdoomkcgdcfmlaa.Print
end
section
namespace Go.Proofs.Ytdoomkcgdcfmlaa.Print
open Go.RowKit Go.Proofs.YtdoomkcgdcfmlaaW.PrintWords Go.Proofs.YtdoomkcgdcfmlaaW.PrintLast Go.Proofs.YtdoomkcgdcfmlaaW.PrintMore
open Oml
def stS (U : List (List Int)) (N : List Int) (s : Nat) : Bool := s.testBit (yesI U N).toNat && allN U.length fun a => (s.testBit a != s.testBit (notI N a).toNat) && allN a fun b => !leI U a (notI N b) || (!(s.testBit a && s.testBit b) && (s.testBit (orI U a b).toNat == (s.testBit a || s.testBit b)))
section
variable {U : List (List Int)} {N : List Int} (L : Logic U N)
theorem stT_fin (s : Nat) (x y : Fin U.length) : stT U N s x.1 y.1 = true ↔ s.testBit (L.ol.neg x).1 = (!s.testBit x.1) ∧ (L.ol.le x (L.ol.neg y) → s.testBit (L.ol.join x y).1 = (s.testBit x.1 || s.testBit y.1) ∧ (s.testBit x.1 && s.testBit y.1) = false) := by
  unfold stT
  rw [not_fin L,not_fin L,or_fin L]
  simp only [Int.toNat_natCast]
  have hle : leI U ((x.1 : Nat) : Int) (((L.ol.neg y).1 : Nat) : Int) = false ↔ ¬ L.ol.le x (L.ol.neg y) := by
    rw [← le_fin L,Bool.not_eq_true]
  generalize s.testBit (L.ol.neg x).1=n
  generalize s.testBit (L.ol.join x y).1=z
  generalize s.testBit x.1=p
  generalize s.testBit y.1=q
  by_cases h:L.ol.le x (L.ol.neg y)
  · have h2 : ¬ leI U ((x.1 : Nat) : Int) (((L.ol.neg y).1 : Nat) : Int) = false := fun e => hle.1 e h
    rw [if_neg h2]
    cases n <;> cases z <;> cases p <;> cases q <;> simp [h]
  · rw [if_pos (hle.2 h)]
    cases n <;> cases p <;> simp [h]
theorem stB_iff (s : Nat) : stB U N s = true ↔ L.ol.State (fun x : Fin U.length => s.testBit x.1) := by
  unfold stB
  rw [Bool.and_eq_true,yes_fin L,Int.toNat_natCast,allN_fin]
  constructor
  · rintro ⟨h1, h2⟩
    have h3: ∀x y:Fin U.length,stT U N s x.1 y.1=true:=fun x y=>allN_fin.1 (h2 x) y
    exact { top:=h1,neg:=fun a=>((stT_fin L s a a).1 (h3 a a)).1,join:=fun a b h=>((stT_fin L s a b).1 (h3 a b)).2 h }
  · intro S
    exact⟨S.top,fun x=>allN_fin.2 fun y=>(stT_fin L s x y).2 ⟨S.neg x,S.join x y⟩⟩
theorem stS_iff (s : Nat) : stS U N s = true ↔ L.ol.State (fun x : Fin U.length => s.testBit x.1) := by
  unfold stS
  rw [Bool.and_eq_true,yes_fin L,Int.toNat_natCast,allN_fin]
  have key : ∀ x y : Fin U.length, (!leI U ((x.1 : Nat) : Int) (notI N ((y.1 : Nat) : Int)) || (!(s.testBit x.1 && s.testBit y.1) && (s.testBit (orI U ((x.1 : Nat) : Int) ((y.1 : Nat) : Int)).toNat == (s.testBit x.1 || s.testBit y.1)))) = true ↔ (L.ol.le x (L.ol.neg y) → s.testBit (L.ol.join x y).1 = (s.testBit x.1 || s.testBit y.1) ∧ (s.testBit x.1 && s.testBit y.1) = false) := by
    intro x y
    rw [not_fin L,or_fin L,Int.toNat_natCast,← le_fin L]
    generalize s.testBit (L.ol.join x y).1=z
    generalize s.testBit x.1=p
    generalize s.testBit y.1=q
    generalize leI U ((x.1:Nat):Int) (((L.ol.neg y).1:Nat):Int)=le
    cases le <;> cases z <;> cases p <;> cases q <;> simp
  have neg : ∀ x : Fin U.length, (s.testBit x.1 != s.testBit (notI N ((x.1 : Nat) : Int)).toNat) = true ↔ s.testBit (L.ol.neg x).1 = (!s.testBit x.1) := by
    intro x
    rw [not_fin L,Int.toNat_natCast]
    generalize s.testBit (L.ol.neg x).1=n
    generalize s.testBit x.1=p
    cases n <;> cases p <;> simp
  constructor
  · rintro ⟨h1, h2⟩
    have hn: ∀x:Fin U.length,s.testBit (L.ol.neg x).1=(!s.testBit x.1):=fun x=>(neg x).1 (Bool.and_eq_true_iff.1 (h2 x)).1
    have hb : s.testBit (L.ol.bot).1 = false := by
      have:=hn L.ol.top
      rw [L.ol.neg_top,h1] at this
      exact this
    have hj: ∀x y:Fin U.length,y.1<x.1→L.ol.le x (L.ol.neg y)→s.testBit (L.ol.join x y).1=(s.testBit x.1||s.testBit y.1)∧(s.testBit x.1 && s.testBit y.1)=false:=fun x y hlt=>(key x y).1 (allN_iff.1 (Bool.and_eq_true_iff.1 (h2 x)).2 y.1 hlt)
    refine { top:=h1,neg:=hn,join:=fun x y h=>?_ }
    rcases Nat.lt_trichotomy y.1 x.1 with hlt|heq|hgt
    · exact hj x y hlt h
    · obtain rfl : y = x := Fin.ext heq
      have h3 : y = L.ol.bot := by
        have:=L.ol.meet_neg y
        rwa [(L.ol.meet_eq_l y (L.ol.neg y)).2 h] at this
      show s.testBit (L.ol.join y y).1=(s.testBit y.1||s.testBit y.1)∧(s.testBit y.1 && s.testBit y.1)=false
      rw [L.ol.join_self,h3,hb]
      exact⟨rfl,rfl⟩
    · have h' : L.ol.le y (L.ol.neg x) := by
        have:=L.ol.neg_anti _ _ h
        rwa [L.ol.neg_neg] at this
      obtain⟨e1,e2⟩:=hj y x hgt h'
      show s.testBit (L.ol.join x y).1=(s.testBit x.1||s.testBit y.1)∧(s.testBit x.1 && s.testBit y.1)=false
      rw [L.ol.join_comm,e1,Bool.or_comm,Bool.and_comm]
      exact⟨rfl,e2⟩
  · intro S
    refine⟨S.top,fun x=>?_⟩
    rw [Bool.and_eq_true,neg x,allN_iff]
    refine⟨S.neg x,fun b hb=>?_⟩
    exact(key x ⟨b,by have:=x.2;omega⟩).2 (S.join x _)
include L in
theorem stS_eq (s : Nat) : stS U N s = stB U N s := by rw [Bool.eq_iff_iff, stS_iff L, stB_iff L]
end
end Go.Proofs.Ytdoomkcgdcfmlaa.Print
end
section
namespace Go.Proofs.Ytdoomkcgdcfmlaa.Print
open Go.RowKit Go.Proofs.YtdoomkcgdcfmlaaW.PrintWords Go.Proofs.YtdoomkcgdcfmlaaW.PrintLast Go.Proofs.YtdoomkcgdcfmlaaW.PrintMore
open Oml
theorem spec_NoOf.ev (U : List (List Int)) (N : List Int) : Ev (fun k => spec_NoOf.f k U N) (if logicB U N = true then noI U else -1) := by
  unfold spec_NoOf.f
  refine Ev.bind (spec_LogicOk.ev U N) ?_
  cases hl:logicB U N with
  | false => repeat (first | ((with_reducible refine Ev.ite_pos ?_ ?_); (first | assumption | (focus omega) | (focus (simp; done)))) | ((with_reducible refine Ev.ite_neg ?_ ?_); (first | assumption | (focus omega) | (focus (simp; done)))))
             exact Ev.now _
  | true =>
    have L:=logicB_iff.1 hl
    have ho:orderB U=true:=orderB_iff.2 L.toOrder
    repeat(first|((with_reducible refine Ev.ite_pos ?_ ?_);(first|assumption|(focus omega)|(focus (simp;done))))|((with_reducible refine Ev.ite_neg ?_ ?_);(first|assumption|(focus omega)|(focus (simp;done)))))
    refine Ev.bind (spec_LeastOf.ev U) ?_
    rw [ho]
    exact Ev.now _
end Go.Proofs.Ytdoomkcgdcfmlaa.Print
end
section
namespace Go.Proofs.Ytdoomkcgdcfmlaa.Print
open Go.RowKit Go.Proofs.YtdoomkcgdcfmlaaW.PrintWords Go.Proofs.YtdoomkcgdcfmlaaW.PrintLast Go.Proofs.YtdoomkcgdcfmlaaW.PrintMore
def spec_StateOk.j0 : Nat → Int → Bool → List (List Int) → List Int → Option (Bool)
 | 0, _, _, _, _ => none
 | k + 1, x1, x19, x1040000, x1040001 => if x19 = true then (some false) else ((spec_YesOf.f k x1040000 x1040001).bind fun t1042 => ((spec_l9State.f k x1040000 x1040001 x1 t1042).bind fun t1043 => (some t1043)))
def spec_StateOk.f (k : Nat) (l0_0 : List (List Int)) (l0_1 : List Int) (a1 : Int) : Option (Bool) := (spec_LogicOk.f k l0_0 l0_1).bind fun t1040 => (if t1040 = true then ((spec_l1In.f a1 0 (wrap64 ((shl .i64 1 (l0_1.length : Int)) - 1))).bind fun t1041 => (spec_StateOk.j0 k a1 (!t1041) l0_0 l0_1)) else (spec_StateOk.j0 k a1 true l0_0 l0_1))
set_option maxHeartbeats 8000000 in
set_option maxRecDepth 100000 in
theorem spec_StateOk.calls (k : Nat) (A0_0 : Option Addr) (c0_0 : Nat) (l0_0 : List (List Int)) (A0_1 : Option Addr) (c0_1 : Nat) (l0_1 : List Int) (a1 : Int) (r : Bool) (w : World) (hr0_0 : Kd.C (Kd.slice 3 (Kd.int .i64)) w A0_0 l0_0.length l0_0) (hc0_0 : l0_0.length ≤ c0_0) (hr0_1 : Kd.C (Kd.int .i64) w A0_1 l0_1.length l0_1) (hc0_1 : l0_1.length ≤ c0_1) (h : spec_StateOk.f k l0_0 l0_1 a1 = some r) :
  Calls Try.prog 60 #[.agg #[.slice A0_0 l0_0.length c0_0, .slice A0_1 l0_1.length c0_1], .int .i64 a1] w fun e w' => e = .returned (.bool r) ∧ Below w.heap.size w w' := by
 have hu30:=Try.underlying30;have a8:=zqm hr0_0;have a9:=zqm hc0_0;clear hr0_0 hc0_0;have b0:=zqm hr0_1;have b1:=zqm hc0_1;clear hr0_1 hc0_1;have HB:=zqm (Below.refl w.heap.size w);have H:((spec_LogicOk.f k l0_0 l0_1).bind fun b2=>(if b2=true then((spec_l1In.f a1 0 (wrap64 ((shl .i64 1 (l0_1.length:Int)) - 1))).bind fun a3=>(spec_StateOk.j0 k a1 (!a3) l0_0 l0_1)) else(spec_StateOk.j0 k a1 true l0_0 l0_1)))=some r:=h;clear h;have c9:=zqm H;clear H
 go_enter Try.func60,Try.ntmps60
 go_upto_region 2 with (first|((with_reducible refine gate_dst (N:=2) rfl ?_);refine box_event ?hg (N:=2) ?hd (cs:= #[.slice A0_0 l0_0.length c0_0,.slice A0_1 l0_1.length c0_1]) (t:=30) ?hr ?_;(case hd=>rfl);(case hg=>rfl);(case hr=>first|(go_simp;done)|(go_simp;rfl));intro a2 hg w4 hbox hb;have d6:=zqm (below_step zq0 hb);have a0:=zqm (hbox);have d9:=zqm ((by rw [hg];exact(below_size zq0):w.heap.size≤a2));have a4:=zqm ((by rw [hg];exact(below_size zq0):w.heap.size≤a2));clear HB;have HB:=d6;clear d6 hb hbox hg;have d0:w4.cell? ⟨a2,0,none⟩=some (.slice A0_0 l0_0.length c0_0):=(blk_cell a0.out 0).trans rfl;have d1:w4.cell? ⟨a2,1,none⟩=some (.slice A0_1 l0_1.length c0_1):=(blk_cell a0.out 1).trans rfl;have d2:=blk_frozen a0.out 0;have d3:=blk_frozen a0.out 1))
 (try simp only [Act.put,List.setIfInBounds_toArray,List.set_cons_zero,List.set_cons_succ])
 go_cut [19] (fun e0 wc=> ∃(kq:Nat) (b3:Bool),e0= .bool b3∧Aside0 (spec_StateOk.j0 kq a1 b3 l0_0 l0_1=some r)∧Aside0 (kq≤k)∧Aside0 (wc.heap[a2]? =some (.cells #[(.slice A0_0 l0_0.length c0_0),(.slice A0_1 l0_1.length c0_1)] 30 (0,0)))∧Aside0 (Below w.heap.size w wc))
 case first=>
  have H:=c9.out;clear c9;replace H:=Option.bind_eq_some_iff.mp H;obtain⟨b2,d7,H⟩:=H;replace H:(if b2=true then((spec_l1In.f a1 0 (wrap64 ((shl .i64 1 (l0_1.length:Int)) - 1))).bind fun a3=>(spec_StateOk.j0 k a1 (!a3) l0_0 l0_1)) else(spec_StateOk.j0 k a1 true l0_0 l0_1))=some r:=H;have A6:=zqm d7;clear d7
  by_cases c7:b2=true
  ·subst c7;(have H1:((spec_l1In.f a1 0 (wrap64 ((shl .i64 1 (l0_1.length:Int)) - 1))).bind fun a3=>(spec_StateOk.j0 k a1 (!a3) l0_0 l0_1))=some r:=by rw [if_pos rfl] at H;exact H);clear H;have H:=H1;clear H1;obtain⟨a5,b4⟩: ∃j_:Int,(shl .i64 1 (l0_1.length:Int))=j_:=⟨_,rfl⟩;(replace H:((spec_l1In.f a1 0 (wrap64 ((a5) - 1))).bind fun a3=>(spec_StateOk.j0 k a1 (!a3) l0_0 l0_1))=some r:=by first|(rw [b4] at H;exact H)|(simp only [b4] at H ⊢;exact H));(try rw [b4] at A6);have b5:(IntKind.i64.wrap (1*2 ^ min (l0_1.length:Int).toNat 64))=a5:=b4;have hji8z:(l0_1.length:Int)≤64→(IntKind.i64.wrap (1*2 ^ (l0_1.length:Int).toNat))=a5:=shl_small b4;have hji8p:(IntKind.i64.wrap (1*2 ^ min l0_1.length 64))=a5:=b5;have hji8q:(l0_1.length:Int)≤64→(IntKind.i64.wrap (1*2 ^ l0_1.length))=a5:=hji8z;(have hji8r:(IntKind.i64.wrap (2 ^ min l0_1.length 64))=a5:=by have h_:=hji8p;rw [Int.one_mul] at h_;exact h_);(have hji8s:(l0_1.length:Int)≤64→(IntKind.i64.wrap (2 ^ l0_1.length))=a5:=fun hle_=>by have h_:=hji8q hle_;rw [Int.one_mul] at h_;exact h_);(have hji8u:(IntKind.i64.wrap (2 ^ min (l0_1.length:Int).toNat 64))=a5:=by have h_:=b5;rw [Int.one_mul] at h_;exact h_);(have hji8v:(l0_1.length:Int)≤64→(IntKind.i64.wrap (2 ^ (l0_1.length:Int).toNat))=a5:=fun hle_=>by have h_:=hji8z hle_;rw [Int.one_mul] at h_;exact h_);have hji8y:(wrap64 (1*2 ^ min (l0_1.length:Int).toNat 64))=a5:=(i64_w _).symm.trans b5;have hji8x:(l0_1.length:Int)≤64→(wrap64 (1*2 ^ (l0_1.length:Int).toNat))=a5:=fun h_=>(i64_w _).symm.trans (hji8z h_);replace H:=Option.bind_eq_some_iff.mp H;obtain⟨a3,d8,H⟩:=H;replace H:(spec_StateOk.j0 k a1 (!a3) l0_0 l0_1)=some r:=H;have A9:=zqm d8;clear d8;have H':=zqm H;clear H;have b8:w4.cell? ⟨a2,0,none⟩=some (.slice A0_0 l0_0.length c0_0):=(blk_cell a0.out 0).trans rfl;have b9:w4.cell? ⟨a2,1,none⟩=some (.slice A0_1 l0_1.length c0_1):=(blk_cell a0.out 1).trans rfl;have c0:=blk_frozen a0.out 0;have c1:=blk_frozen a0.out 1
   go_wp2_with (first|((with_reducible refine gate_callee (f:=42) rfl ?_);refine goesL_ (some 10) rfl rfl Try.func42 zqk rfl #[.agg #[.slice A0_0 l0_0.length c0_0,.slice A0_1 l0_1.length c0_1]] rfl zq1 ?_;(with_reducible refine(spec_LogicOk.calls k _ _ l0_0 _ _ l0_1 true _ ?side1 ?side2 ?side3 ?side4 A6.out).mono ?_);(case side1=> exact zq26);(case side2=>exact a9.out);(case side3=> exact zq45);(case side4=>exact b1.out);rintro e e3 ⟨rfl,hb⟩;refine⟨_,rfl,?_⟩;replace a0:=zqm (blk_below (g:=a2) (o:= .cells #[.slice A0_0 l0_0.length c0_0,.slice A0_1 l0_1.length c0_1] 30 (0,0)) zq2 hb);replace HB:=zqm (below_step zq8 hb);clear hb)|(go_at_call 94;(with_reducible refine(spec_l1In.calls a1 0 (wrap64 ((a5) - 1)) a3 _ A9.out).mono ?_);rintro e w' ⟨rfl,⟨nd,rfl⟩⟩))
   go_meet
   case rel=>exact⟨_,(!a3),(by first|rfl|(simp;done)|(simp [*];done)),H',⟨by first|omega|exact Nat.le_refl _⟩,⟨zq2⟩,⟨zq8⟩⟩
  ·replace c7:=Bool.eq_false_iff.mpr c7;subst c7;(have H1:(spec_StateOk.j0 k a1 true l0_0 l0_1)=some r:=by rw [if_neg (show¬(false=true) by decide)] at H;exact H);clear H;have H:=H1;clear H1;have H':=zqm H;clear H;have c2:w4.cell? ⟨a2,0,none⟩=some (.slice A0_0 l0_0.length c0_0):=(blk_cell a0.out 0).trans rfl;have c3:w4.cell? ⟨a2,1,none⟩=some (.slice A0_1 l0_1.length c0_1):=(blk_cell a0.out 1).trans rfl;have c5:=blk_frozen a0.out 0;have c8:=blk_frozen a0.out 1
   go_wp2_with (first|((with_reducible refine gate_callee (f:=42) rfl ?_);refine goesL_ (some 10) rfl rfl Try.func42 zqk rfl #[.agg #[.slice A0_0 l0_0.length c0_0,.slice A0_1 l0_1.length c0_1]] rfl zq1 ?_;(with_reducible refine(spec_LogicOk.calls k _ _ l0_0 _ _ l0_1 false _ ?side1 ?side2 ?side3 ?side4 A6.out).mono ?_);(case side1=> exact zq26);(case side2=>exact a9.out);(case side3=> exact zq45);(case side4=>exact b1.out);rintro e e4 ⟨rfl,hb⟩;refine⟨_,rfl,?_⟩;replace a0:=zqm (blk_below (g:=a2) (o:= .cells #[.slice A0_0 l0_0.length c0_0,.slice A0_1 l0_1.length c0_1] 30 (0,0)) zq2 hb);replace HB:=zqm (below_step zq8 hb);clear hb))
   go_meet
   case rel=>exact⟨_,(true),(by first|rfl|(simp;done)|(simp [*];done)),H',⟨by first|omega|exact Nat.le_refl _⟩,⟨zq2⟩,⟨zq8⟩⟩
 case rest=>
  clear c9;(try clear p2);(try clear c4);(try clear c6);(try clear p6);(try clear c7);(try clear b8);(try clear b9);(try clear c2);(try clear c3);(try clear d0);(try clear d1);(try clear c0);(try clear c1);(try clear c5);(try clear c8);(try clear d2);(try clear d3);obtain⟨kq,b3,rfl,HA,e5,a0,HB⟩:=hcut
  cases kq with
  |zero=>exact absurd HA.out (by simp [spec_StateOk.j0])
  |succ b6=>
   have H:=HA.out;clear HA;simp only [spec_StateOk.j0] at H
   by_cases b7:b3=true
   ·subst b7;(have H1:(some false)=some r:=by rw [if_pos rfl] at H;exact H);clear H;have H:=H1;clear H1;obtain rfl:=Option.some.inj H
    go_wp2
    go_ret
    exact⟨zq11,zq8⟩
   ·replace b7:=Bool.eq_false_iff.mpr b7;subst b7;(have H1:((spec_YesOf.f b6 l0_0 l0_1).bind fun a6=>((spec_l9State.f b6 l0_0 l0_1 a1 a6).bind fun a7=>(some a7)))=some r:=by rw [if_neg (show¬(false=true) by decide)] at H;exact H);clear H;have H:=H1;clear H1;replace H:=Option.bind_eq_some_iff.mp H;obtain⟨a6,d4,H⟩:=H;replace H:((spec_l9State.f b6 l0_0 l0_1 a1 a6).bind fun a7=>(some a7))=some r:=H;have e1:=zqm d4;clear d4;replace H:=Option.bind_eq_some_iff.mp H;obtain⟨a7,d5,H⟩:=H;replace H:(some a7)=some r:=H;have e2:=zqm d5;clear d5;obtain rfl:=Option.some.inj H;(try go_wp2);replace a0:=zqm (blk_drew a0.out);replace HB:=zqm (below_drew1 HB.out);refine start_ (n:=6) (S:=fun w'=>w'.cell? ⟨a2,0,none⟩=some (.slice A0_0 l0_0.length c0_0)∧w'.cell? ⟨a2,1,none⟩=some (.slice A0_1 l0_1.length c0_1)) (ds:= []) (zqb 6 0) zqk rfl rfl ⟨(blk_cell a0.out 0).trans rfl,(blk_cell a0.out 1).trans rfl⟩ (fun hHeld=>?_);generalize wc.drew=e6 at a0 HB hHeld ⊢;refine pure_ (i:=1) (N:=some 21) (v:=?_) (a':=?_) (zqb 6 2) rfl rfl zqk (fun _ _ _ h=>h) (Or.inl ⟨by rfl,?_⟩) ?_ ?_;rotate_left
    ·exact zqt
    rotate_left
    ·exact zqs
    refine take_ (i:=0) (N:=some 20) (v:=?_) (a':=?_) (zqb 6 3) rfl rfl zqk (fun _ _ _ h=>h) (Or.inl ⟨by rfl,?_⟩) hHeld ?_ ?_;rotate_left
    ·rintro w' ⟨s0,s1⟩;go_simp;with_reducible rfl
    rotate_left
    ·exact zqs
    refine take_ (i:=2) (N:=some 22) (v:=?_) (a':=?_) (zqb 6 7) rfl rfl zqk (fun _ _ _ h=>h) (Or.inl ⟨by rfl,?_⟩) hHeld ?_ ?_;rotate_left
    ·rintro w' ⟨s0,s1⟩;go_simp;with_reducible rfl
    rotate_left
    ·exact zqs
    refine one_ (i:=3) (N:=some 23) (zqb 6 15) rfl rfl zqk (by decide) (fun K hK=>?_);refine goes_ Try.func106 zqk rfl #[.agg #[.slice A0_0 l0_0.length c0_0,.slice A0_1 l0_1.length c0_1]] (by rfl) rfl rfl zq1 ?_;(with_reducible refine(spec_YesOf.calls b6 _ _ l0_0 _ _ l0_1 a6 _ ?side1 ?side2 ?side3 ?side4 e1.out).mono ?_);(case side1=> exact zq26);(case side2=>exact a9.out);(case side3=> exact zq45);(case side4=>exact b1.out);rintro e e7 ⟨rfl,hb⟩;refine⟨_,rfl,?_⟩;replace a0:=zqm (blk_below (g:=a2) (o:= .cells #[.slice A0_0 l0_0.length c0_0,.slice A0_1 l0_1.length c0_1] 30 (0,0)) zq2 hb);replace HB:=zqm (below_step zq8 hb);clear hb;refine hK.out _ _ ⟨(blk_cell a0.out 0).trans rfl,(blk_cell a0.out 1).trans rfl⟩ (fun hHeld=>?_);clear hK K;refine norm_ (a':=?_) ?_ ?_;rotate_left
    ·show Act.put _ (some 23) _=_;exact zqs
    refine one_ (i:=4) (N:=some 24) (zqb 6 31) rfl rfl zqk (by decide) (fun K hK=>?_);refine goes_ Try.func105 zqk rfl #[.agg #[.slice A0_0 l0_0.length c0_0,.slice A0_1 l0_1.length c0_1],.int .i64 a1,.int .i64 a6] (by rfl) rfl rfl zq1 ?_;(with_reducible refine(spec_l9State.calls b6 _ _ l0_0 _ _ l0_1 a1 a6 a7 _ ?side1 ?side2 ?side3 ?side4 e2.out).mono ?_);(case side1=> exact zq26);(case side2=>exact a9.out);(case side3=> exact zq45);(case side4=>exact b1.out);rintro e e8 ⟨rfl,hb⟩;refine⟨_,rfl,?_⟩;replace a0:=zqm (blk_below (g:=a2) (o:= .cells #[.slice A0_0 l0_0.length c0_0,.slice A0_1 l0_1.length c0_1] 30 (0,0)) zq2 hb);replace HB:=zqm (below_step zq8 hb);clear hb;refine hK.out _ _ ⟨(blk_cell a0.out 0).trans rfl,(blk_cell a0.out 1).trans rfl⟩ (fun hHeld=>?_);clear hK K;refine norm_ (a':=?_) ?_ ?_;rotate_left
    ·show Act.put _ (some 24) _=_;exact zqs
    refine pure_ (i:=5) (N:=some 4) (v:=?_) (a':=?_) (zqb 6 63) rfl rfl zqk (fun _ _ _ h=>h) (Or.inl ⟨by rfl,?_⟩) ?_ ?_;rotate_left
    ·exact zqt
    rotate_left
    ·exact zqs
    refine done_ zqk ?_;try go_wp2
    go_ret
    exact⟨zq11,zq8⟩
end Go.Proofs.Ytdoomkcgdcfmlaa.Print
end
section
namespace Go.Proofs.Ytdoomkcgdcfmlaa.Print
open Go.RowKit Go.Proofs.YtdoomkcgdcfmlaaW.PrintWords Go.Proofs.YtdoomkcgdcfmlaaW.PrintLast Go.Proofs.YtdoomkcgdcfmlaaW.PrintMore
open Oml
theorem spec_YesOf.ev (U : List (List Int)) (N : List Int) : Ev (fun k => spec_YesOf.f k U N) (if logicB U N = true then yesI U N else -1) := by
  unfold spec_YesOf.f
  refine Ev.bind (spec_NoOf.ev U N) ?_
  cases hl:logicB U N with
  | false =>
    rw [if_neg (by simp),if_neg (by simp)]
    refine Ev.bind (spec_NotOf.ev U N _) ?_
    rw [hl]
    exact Ev.now _
  | true =>
    have L:=logicB_iff.1 hl
    rw [if_pos rfl,if_pos rfl]
    refine Ev.bind (spec_NotOf.ev U N _) ?_
    rw [hl,if_pos rfl,if_pos (inR_iff.2 L.in_no)]
    exact Ev.now _
theorem spec_l9State.ev {U : List (List Int)} {N : List Int} (L : Logic U N) (s : Nat) : Ev (fun k => spec_l9State.f k U N (s : Int) (yesI U N)) (stB U N s) := by
  rw [← stS_eq L]
  unfold spec_l9State.f stS
  have hs:=L.small
  have hln:=L.len
  have O:=L.toOrder
  rw [yes_fin L,smod_nat s (show (L.ol.top).1≤64 by have:=(L.ol.top).2;omega),Int.toNat_natCast]
  repeat(first|((with_reducible refine Ev.ite_pos ?_ ?_);(first|assumption|(focus omega)|(focus (simp;done))))|((with_reducible refine Ev.ite_neg ?_ ?_);(first|assumption|(focus omega)|(focus (simp;done)))))
  cases ht:s.testBit (L.ol.top).1 with
  | false =>
    rw [if_neg (by simp)]
    repeat(first|((with_reducible refine Ev.ite_pos ?_ ?_);(first|assumption|(focus omega)|(focus (simp;done))))|((with_reducible refine Ev.ite_neg ?_ ?_);(first|assumption|(focus omega)|(focus (simp;done)))))
    rw [Bool.false_and]
    exact Ev.now _
  | true =>
    rw [if_pos rfl,Bool.true_and]
    repeat(first|((with_reducible refine Ev.ite_pos ?_ ?_);(first|assumption|(focus omega)|(focus (simp;done))))|((with_reducible refine Ev.ite_neg ?_ ?_);(first|assumption|(focus omega)|(focus (simp;done)))))
    refine Ev.eq (Ev.all (n:=U.length) (g:=fun k a=>spec_l9State.l0 k (s:Int) a U N) (fun a=>(s.testBit a !=s.testBit (notI N a).toNat) && allN a fun b=>!leI U a (notI N b)||(!(s.testBit a && s.testBit b) && (s.testBit (orI U a b).toNat==(s.testBit a||s.testBit b)))) (go:=true) (stop:=false) (by omega) (fun _=>?_) fun a ha _ R hR=>?_) (by cases allN U.length _ <;> rfl)
    · refine Ev.succ ?_
      simp only [spec_l9State.l0]
      repeat(first|((with_reducible refine Ev.ite_pos ?_ ?_);(first|assumption|(focus omega)|(focus (simp;done))))|((with_reducible refine Ev.ite_neg ?_ ?_);(first|assumption|(focus omega)|(focus (simp;done)))))
      exact Ev.now _
    · have hra := O.row a ha
      have hna:at1 N a=(((L.ol.neg ⟨a,ha⟩).1:Nat):Int):=L.ng_eq ⟨a,ha⟩
      have hna2 : (notI N (a : Int)).toNat = (L.ol.neg ⟨a, ha⟩).1 := by
        have:=not_fin L (⟨a,ha⟩:Fin U.length)
        rw [this,Int.toNat_natCast]
      have hnl:=(L.ol.neg ⟨a,ha⟩).2
      refine Ev.succ ?_
      simp only [spec_l9State.l0,rd_nat,hna,smod_nat s (show a≤64 by omega),smod_nat s (show (L.ol.neg ⟨a,ha⟩).1≤64 by omega)]
      rw [hna2] at hR ⊢
      repeat(first|((with_reducible refine Ev.ite_pos ?_ ?_);(first|assumption|(focus omega)|(focus (simp;done))))|((with_reducible refine Ev.ite_neg ?_ ?_);(first|assumption|(focus omega)|(focus (simp;done)))))
      generalize hn:s.testBit (L.ol.neg ⟨a,ha⟩).1=n at hR ⊢
      generalize hp:s.testBit a=p at hR ⊢
      by_cases hne:p=n
      · subst hne
        have hw: ¬wrap64 ((if p=true then 1 else 0)+(if p=true then 1 else 0))=1:=by cases p <;> simp [wrap64]
        repeat(first|((with_reducible refine Ev.ite_pos ?_ ?_);(first|assumption|(focus omega)|(focus (simp;done))))|((with_reducible refine Ev.ite_neg ?_ ?_);(first|assumption|(focus omega)|(focus (simp;done)))))
        exact Ev.eq (Ev.now _) (by cases p <;> rfl)
      · have hw : wrap64 ((if p = true then 1 else 0) + (if n = true then 1 else 0)) = 1 := by cases p <;> cases n <;> simp_all [wrap64]
        have hb:(p !=n)=true:=by cases p <;> cases n <;> simp_all
        rw [hb,Bool.true_and] at hR ⊢
        repeat(first|((with_reducible refine Ev.ite_pos ?_ ?_);(first|assumption|(focus omega)|(focus (simp;done))))|((with_reducible refine Ev.ite_neg ?_ ?_);(first|assumption|(focus omega)|(focus (simp;done)))))
        refine Ev.eq (Ev.all (n:=a) (g:=fun k b=>spec_l9State.l1 k (s:Int) (a:Int) b U N) (fun b=>!leI U a (notI N b)||(!(p && s.testBit b) && (s.testBit (orI U a b).toNat==(p||s.testBit b)))) (go:=R) (stop:=false) (by omega) (fun hall=>?_) fun b hb2 _ R2 hR2=>?_) rfl
        · refine Ev.succ ?_
          simp only [spec_l9State.l1]
          repeat(first|((with_reducible refine Ev.ite_pos ?_ ?_);(first|assumption|(focus omega)|(focus (simp;done))))|((with_reducible refine Ev.ite_neg ?_ ?_);(first|assumption|(focus omega)|(focus (simp;done)))))
          exact hR (allN_iff.2 hall)
        · have hbn : b < U.length := by omega
          have hnb:at1 N b=(((L.ol.neg ⟨b,hbn⟩).1:Nat):Int):=L.ng_eq ⟨b,hbn⟩
          have hnb2:notI N (b:Int)=(((L.ol.neg ⟨b,hbn⟩).1:Nat):Int):=not_fin L (⟨b,hbn⟩:Fin U.length)
          have hnbl:=(L.ol.neg ⟨b,hbn⟩).2
          have hjo:orI U (a:Int) (b:Int)=(((L.ol.join ⟨a,ha⟩ ⟨b,hbn⟩).1:Nat):Int):=or_fin L ⟨a,ha⟩ ⟨b,hbn⟩
          have hjl:=(L.ol.join ⟨a,ha⟩ ⟨b,hbn⟩).2
          have hev:Ev (fun k=>spec_l1Join.f k U (a:Int) (b:Int)) (((L.ol.join ⟨a,ha⟩ ⟨b,hbn⟩).1:Nat):Int):=by rw [← hjo];exact join_in L ⟨by omega,by omega⟩ ⟨by omega,by omega⟩
          have hv:=O.val ha hnbl
          have hle:leI U (a:Int) (((L.ol.neg ⟨b,hbn⟩).1:Nat):Int)=leB U a (L.ol.neg ⟨b,hbn⟩).1:=by simp [leI]
          refine Ev.succ ?_
          simp only [spec_l9State.l1,rd_nat,rdL_nat,hnb,rd_row,hra]
          rw [hnb2,hjo,Int.toNat_natCast,hle] at hR2 ⊢
          rw [hv]
          repeat(first|((with_reducible refine Ev.ite_pos ?_ ?_);(first|assumption|(focus omega)|(focus (simp;done))))|((with_reducible refine Ev.ite_neg ?_ ?_);(first|assumption|(focus omega)|(focus (simp;done)))))
          generalize leB U a (L.ol.neg ⟨b,hbn⟩).1=le at hR2 ⊢
          cases le with
          | false =>
            repeat(first|((with_reducible refine Ev.ite_pos ?_ ?_);(first|assumption|(focus omega)|(focus (simp;done))))|((with_reducible refine Ev.ite_neg ?_ ?_);(first|assumption|(focus omega)|(focus (simp;done)))))
            exact Ev.eq (hR2 rfl) rfl
          | true =>
            repeat(first|((with_reducible refine Ev.ite_pos ?_ ?_);(first|assumption|(focus omega)|(focus (simp;done))))|((with_reducible refine Ev.ite_neg ?_ ?_);(first|assumption|(focus omega)|(focus (simp;done)))))
            refine Ev.bind hev ?_
            rw [smod_nat s (show a≤64 by omega),smod_nat s (show b≤64 by omega),smod_nat s (show (L.ol.join ⟨a,ha⟩ ⟨b,hbn⟩).1≤64 by omega),hp]
            generalize s.testBit b=q at hR2 ⊢
            generalize s.testBit (L.ol.join ⟨a,ha⟩ ⟨b,hbn⟩).1=z at hR2 ⊢
            repeat(first|((with_reducible refine Ev.ite_pos ?_ ?_);(first|assumption|(focus omega)|(focus (simp;done))))|((with_reducible refine Ev.ite_neg ?_ ?_);(first|assumption|(focus omega)|(focus (simp;done)))))
            by_cases hs2:(!(p && q) && (z==(p||q)))=true
            · have hw2 : wrap64 ((if p = true then 1 else 0) + (if q = true then 1 else 0)) = (if z = true then 1 else 0) := by revert hs2; cases p <;> cases q <;> cases z <;> simp [wrap64]
              repeat(first|((with_reducible refine Ev.ite_pos ?_ ?_);(first|assumption|(focus omega)|(focus (simp;done))))|((with_reducible refine Ev.ite_neg ?_ ?_);(first|assumption|(focus omega)|(focus (simp;done)))))
              exact Ev.eq (hR2 (by rw [hs2];rfl)) (by rw [hs2];rfl)
            · have hw2 : ¬ wrap64 ((if p = true then 1 else 0) + (if q = true then 1 else 0)) = (if z = true then 1 else 0) := by revert hs2; cases p <;> cases q <;> cases z <;> simp [wrap64]
              repeat(first|((with_reducible refine Ev.ite_pos ?_ ?_);(first|assumption|(focus omega)|(focus (simp;done))))|((with_reducible refine Ev.ite_neg ?_ ?_);(first|assumption|(focus omega)|(focus (simp;done)))))
              exact Ev.eq (Ev.now _) (by rw [show (!(p && q) && (z==(p||q)))=false by simpa using hs2];rfl)
theorem spec_StateOk.ev (U : List (List Int)) (N : List Int) (a : Int) : Ev (fun k => spec_StateOk.f k U N a) (if logicB U N = true then isSt U N a else false) := by
  unfold spec_StateOk.f
  refine Ev.bind (spec_LogicOk.ev U N) ?_
  cases hl:logicB U N with
  | false =>
    repeat(first|((with_reducible refine Ev.ite_pos ?_ ?_);(first|assumption|(focus omega)|(focus (simp;done))))|((with_reducible refine Ev.ite_neg ?_ ?_);(first|assumption|(focus omega)|(focus (simp;done)))))
    refine Ev.succ ?_
    simp only [spec_StateOk.j0]
    repeat(first|((with_reducible refine Ev.ite_pos ?_ ?_);(first|assumption|(focus omega)|(focus (simp;done))))|((with_reducible refine Ev.ite_neg ?_ ?_);(first|assumption|(focus omega)|(focus (simp;done)))))
    exact Ev.now _
  | true =>
    have L:=logicB_iff.1 hl
    have hs:=L.small
    rw [if_pos rfl]
    repeat(first|((with_reducible refine Ev.ite_pos ?_ ?_);(first|assumption|(focus omega)|(focus (simp;done))))|((with_reducible refine Ev.ite_neg ?_ ?_);(first|assumption|(focus omega)|(focus (simp;done)))))
    rw [L.len,shl_nat (show U.length≤40 by omega)]
    have h1:=two_pow_le (show U.length≤40 by omega)
    have h1':=Nat.one_le_two_pow (n:=U.length)
    generalize hM:2 ^ U.length=M at h1 h1' ⊢
    rw [show wrap64 ((M:Int) - 1)=(M:Int) - 1 by unfold wrap64;omega]
    refine Ev.pbind (l1In_eq _ _ _) ?_
    refine Ev.succ ?_
    simp only [spec_StateOk.j0]
    unfold isSt
    rw [hM]
    by_cases h:0≤a∧a<(M:Int)
    · obtain ⟨x, rfl⟩ : ∃ x : Nat, a = x := ⟨a.toNat, by omega⟩
      rw [decide_eq_true h.1,decide_eq_true h.2,decide_eq_true (show (x:Int)≤(M:Int) - 1 by omega)]
      simp only [Bool.and_self,Bool.not_true,Bool.true_and]
      repeat(first|((with_reducible refine Ev.ite_pos ?_ ?_);(first|assumption|(focus omega)|(focus (simp;done))))|((with_reducible refine Ev.ite_neg ?_ ?_);(first|assumption|(focus omega)|(focus (simp;done)))))
      refine Ev.bind (spec_YesOf.ev U N) ?_
      rw [hl,if_pos rfl]
      refine Ev.bind (spec_l9State.ev L x) ?_
      rw [Int.toNat_natCast]
      exact Ev.now _
    · have h2 : (decide (0 ≤ a) && decide (a ≤ (M : Int) - 1)) = false := by
        rw [Bool.eq_false_iff];intro h3;simp at h3;omega
      have h3 : (decide (0 ≤ a) && (decide (a < (M : Int)) && stB U N a.toNat)) = false := by
        rw [← Bool.and_assoc,show (decide (0≤a) && decide (a<(M:Int)))=false by rw [Bool.eq_false_iff];intro h3;simp at h3;omega];rfl
      rw [h2,h3]
      repeat(first|((with_reducible refine Ev.ite_pos ?_ ?_);(first|assumption|(focus omega)|(focus (simp;done))))|((with_reducible refine Ev.ite_neg ?_ ?_);(first|assumption|(focus omega)|(focus (simp;done)))))
      exact Ev.now _
theorem isSt_nat {U : List (List Int)} {N : List Int} {s : Nat} (h : s < 2 ^ U.length) : isSt U N (s : Int) = stB U N s := by
  unfold isSt
  rw [decide_eq_true (by omega), decide_eq_true (by omega), Int.toNat_natCast]; rfl
theorem spec_StatesOf.ev (U : List (List Int)) (N : List Int) : Ev (fun k => spec_StatesOf.f k U N) (if logicB U N = true then stL U N else []) := by
  unfold spec_StatesOf.f
  refine Ev.pbind rfl (Ev.bind (spec_LogicOk.ev U N) ?_)
  cases hl:logicB U N with
  | false =>
    repeat(first|((with_reducible refine Ev.ite_pos ?_ ?_);(first|assumption|(focus omega)|(focus (simp;done))))|((with_reducible refine Ev.ite_neg ?_ ?_);(first|assumption|(focus omega)|(focus (simp;done)))))
    exact Ev.now _
  | true =>
    have L:=logicB_iff.1 hl
    have hs:=L.small
    rw [if_pos rfl]
    repeat(first|((with_reducible refine Ev.ite_pos ?_ ?_);(first|assumption|(focus omega)|(focus (simp;done))))|((with_reducible refine Ev.ite_neg ?_ ?_);(first|assumption|(focus omega)|(focus (simp;done)))))
    refine Ev.bind (spec_YesOf.ev U N) ?_
    rw [hl,if_pos rfl]
    have hM1:1≤2 ^ U.length:=Nat.one_le_two_pow
    have hM2:2 ^ U.length≤4096:=Nat.pow_le_pow_right (by omega) hs
    have key : ∀ d s, s + d = 2 ^ U.length → Ev (fun k => spec_StatesOf.l0 k (filI s fun (s : Nat) => isSt U N (s : Int)) (yesI U N) (s : Int) U N) (stL U N) := by
      intro d
      induction d with
      | zero =>
        intro s hsd
        refine Ev.succ ?_
        simp only [spec_StatesOf.l0,L.len,shl_nat (show U.length≤40 by omega)]
        repeat(first|((with_reducible refine Ev.ite_pos ?_ ?_);(first|assumption|(focus omega)|(focus (simp;done))))|((with_reducible refine Ev.ite_neg ?_ ?_);(first|assumption|(focus omega)|(focus (simp;done)))))
        rw [show s=2 ^ U.length by omega]
        exact Ev.now _
      | succ d ih =>
        intro s hsd
        have K:=ih (s+1) (by omega)
        refine Ev.succ ?_
        simp only [spec_StatesOf.l0,L.len,shl_nat (show U.length≤40 by omega),wrap_nat (show s<4611686018427387904 by omega)]
        repeat(first|((with_reducible refine Ev.ite_pos ?_ ?_);(first|assumption|(focus omega)|(focus (simp;done))))|((with_reducible refine Ev.ite_neg ?_ ?_);(first|assumption|(focus omega)|(focus (simp;done)))))
        refine Ev.bind (spec_l9State.ev L s) ?_
        rw [filI_succ,isSt_nat (show s<2 ^ U.length by omega)] at K
        have hlen:(filI s fun(s:Nat)=>isSt U N (s:Int)).length<17592186044416:=by have:=filI_length s (fun(s:Nat)=>isSt U N (s:Int));omega
        cases hb:stB U N s with
        | true =>
          rw [hb,if_pos rfl] at K
          repeat(first|((with_reducible refine Ev.ite_pos ?_ ?_);(first|assumption|(focus omega)|(focus (simp;done))))|((with_reducible refine Ev.ite_neg ?_ ?_);(first|assumption|(focus omega)|(focus (simp;done)))))
          exact K
        | false =>
          rw [hb,if_neg (by simp)] at K
          repeat(first|((with_reducible refine Ev.ite_pos ?_ ?_);(first|assumption|(focus omega)|(focus (simp;done))))|((with_reducible refine Ev.ite_neg ?_ ?_);(first|assumption|(focus omega)|(focus (simp;done)))))
          exact K
    have h0 : (filI 1 fun (s : Nat) => isSt U N (s : Int)) = [] := by
      rw [filI_succ,filI_zero,if_neg]
      · have : isSt U N ((0 : Nat) : Int) = false := by
          unfold isSt stB
          rw [show (((0:Nat):Int)).toNat=0 from rfl,Nat.zero_testBit];simp
        rw [this];simp
    have:=key (2 ^ U.length - 1) 1 (by omega)
    rw [h0] at this
    exact this
end Go.Proofs.Ytdoomkcgdcfmlaa.Print
end
section
namespace Go.Proofs.Ytdoomkcgdcfmlaa.Print
open Go.RowKit Go.Proofs.YtdoomkcgdcfmlaaW.PrintWords Go.Proofs.YtdoomkcgdcfmlaaW.PrintLast Go.Proofs.YtdoomkcgdcfmlaaW.PrintMore
def spec_DrawStateOk.j0 : Nat → List Int → Bool → List Int → Int → List (List Int) → List Int → Option ((List (List Int)) × List Int × Int)
 | 0, _, _, _, _, _, _ => none
 | k + 1, x6, x20, x1017000, x1017001, x1025000, x1025001 => if x20 = true then ((spec_l20Rd_pick.f k x1017000 x1017001 (x6.length : Int)).bind fun bt1030 => (if 0 ≤ bt1030.1 then (if bt1030.1 < (x6.length : Int) then (some (x1025000, x1025001, rd x6 bt1030.1)) else (none)) else (none))) else ((spec_l20Rd_pick.f k x1017000 x1017001 64).bind fun bt1033 => ((spec_l20Rd_pick.f k x1017000 bt1033.2 64).bind fun bt1035 => ((spec_l20Rd_pick.f k x1017000 bt1035.2 20).bind fun bt1037 => (some (x1025000, x1025001, wrap64 ((wrap64 ((wrap64 (bt1033.1 * 64)) + bt1035.1)) - (wrap64 (Int.tdiv bt1037.1 19))))))))
def spec_DrawStateOk.f (k : Nat) (l0 : List Int) : Option ((List (List Int)) × List Int × Int) := (spec_l20Open.f l0).bind fun bt1014 => ((spec_l20Logic.f k bt1014.1 bt1014.2 12).bind fun bt1017 => ((spec_StatesOf.f k bt1017.1 bt1017.2.1).bind fun t1025 => (if (t1025.length : Int) > 0 then ((spec_l20Rd_pick.f k bt1014.1 bt1017.2.2 3).bind fun bt1028 => (spec_DrawStateOk.j0 k t1025 (decide (bt1028.1 > 0)) bt1014.1 bt1028.2 bt1017.1 bt1017.2.1)) else (spec_DrawStateOk.j0 k t1025 false bt1014.1 bt1017.2.2 bt1017.1 bt1017.2.1))))
def spec_DrawStateOk.T5 : Bool × List (List Nat × List Nat) := (true, [([], []), ([], []), ([], []), ([], []), ([3], [3]), ([2, 4], [2, 4]), ([1, 5], [1, 5]), ([6], [6]), ([0, 5, 0], [0]), ([7, 8, 0, 1, 2, 3, 4, 5, 6, 7, 8], [7])])
def spec_DrawStateOk.B5 : List Nat := [0, 0, 0, 0, 8, 28, 62, 126, 61, 511]
theorem spec_DrawStateOk.tab5 : rtab .any (opsOf Try.f58 5) = spec_DrawStateOk.T5 := by kernel_rfl
theorem spec_DrawStateOk.bits5 : waitsOk spec_DrawStateOk.T5.2 spec_DrawStateOk.B5 = true := by kernel_rfl
def spec_DrawStateOk.T6 : Bool × List (List Nat × List Nat) := (true, [([], []), ([], []), ([1], [1]), ([2], [2]), ([], []), ([4, 2], [4]), ([3, 5], [3, 5]), ([], []), ([7, 5], [7]), ([8], [8]), ([6, 9], [6, 9]), ([0, 8, 0], [0]), ([10, 11, 0, 1, 2, 3, 4, 5, 6, 7, 8, 9, 10, 11], [10])])
def spec_DrawStateOk.B6 : List Nat := [0, 0, 2, 6, 0, 22, 62, 0, 182, 438, 1022, 439, 4095]
theorem spec_DrawStateOk.tab6 : rtab .any (opsOf Try.f58 6) = spec_DrawStateOk.T6 := by kernel_rfl
theorem spec_DrawStateOk.bits6 : waitsOk spec_DrawStateOk.T6.2 spec_DrawStateOk.B6 = true := by kernel_rfl
set_option maxHeartbeats 8000000 in
set_option maxRecDepth 100000 in
theorem spec_DrawStateOk.calls (k : Nat) (A0 : Option Addr) (c0 : Nat) (l0 : List Int) (r1 : List (List Int)) (r2 : List Int) (r3 : Int) (w : World) (hr0 : Kd.C (Kd.int .u8) w A0 l0.length l0) (hc0 : l0.length ≤ c0) (h : spec_DrawStateOk.f k l0 = some (r1, r2, r3)) :
  Calls Try.prog 58 #[.slice A0 l0.length c0] w fun e w' => ∃ v0_ v1_ : Value, e = .returned (.tuple #[.agg #[v0_, v1_], .int .i64 r3]) ∧ Kd.S (Kd.slice 3 (Kd.int .i64)) 28 w' w.heap.size (fun k_ => some k_ ≠ (v1_ : Value).ownBlock) v0_ r1 ∧ Kd.Q (Kd.int .i64) 3 w' w.heap.size (fun _ => True) v1_ r2 ∧ Below w.heap.size w w' := by
 have hu30:=Try.underlying30;have j4:=zqm hr0;have j5:=zqm hc0;clear hr0 hc0;have HB:=zqm (Below.refl w.heap.size w);have H:((spec_l20Open.f l0).bind fun d4=>((spec_l20Logic.f k d4.1 d4.2 12).bind fun b6=>((spec_StatesOf.f k b6.1 b6.2.1).bind fun b0=>(if(b0.length:Int)>0 then((spec_l20Rd_pick.f k d4.1 b6.2.2 3).bind fun c6=>(spec_DrawStateOk.j0 k b0 (decide (c6.1>0)) d4.1 c6.2 b6.1 b6.2.1)) else(spec_DrawStateOk.j0 k b0 false d4.1 b6.2.2 b6.1 b6.2.1)))))=some (r1,r2,r3):=h;clear h;replace H:=Option.bind_eq_some_iff.mp H;obtain⟨⟨a6,e7⟩,h8,H⟩:=H;replace H:((spec_l20Logic.f k a6 e7 12).bind fun b6=>((spec_StatesOf.f k b6.1 b6.2.1).bind fun b0=>(if(b0.length:Int)>0 then((spec_l20Rd_pick.f k a6 b6.2.2 3).bind fun c6=>(spec_DrawStateOk.j0 k b0 (decide (c6.1>0)) a6 c6.2 b6.1 b6.2.1)) else(spec_DrawStateOk.j0 k b0 false a6 b6.2.2 b6.1 b6.2.1))))=some (r1,r2,r3):=H;have A2:=zqm h8;clear h8;replace H:=Option.bind_eq_some_iff.mp H;obtain⟨⟨a7,a8,d1⟩,f7,H⟩:=H;replace H:((spec_StatesOf.f k a7 a8).bind fun b0=>(if(b0.length:Int)>0 then((spec_l20Rd_pick.f k a6 d1 3).bind fun c6=>(spec_DrawStateOk.j0 k b0 (decide (c6.1>0)) a6 c6.2 a7 a8)) else(spec_DrawStateOk.j0 k b0 false a6 d1 a7 a8)))=some (r1,r2,r3):=H;have A3:=zqm f7;clear f7;replace H:=Option.bind_eq_some_iff.mp H;obtain⟨b0,h9,H⟩:=H;replace H:(if(b0.length:Int)>0 then((spec_l20Rd_pick.f k a6 d1 3).bind fun c6=>(spec_DrawStateOk.j0 k b0 (decide (c6.1>0)) a6 c6.2 a7 a8)) else(spec_DrawStateOk.j0 k b0 false a6 d1 a7 a8))=some (r1,r2,r3):=H;have A4:=zqm h9;clear h9;have g7:=zqm H;clear H
 go_enter Try.func58,Try.ntmps58
 go_upto_region 4 with (first|((with_reducible refine gate_dst (N:=2) rfl ?_);refine box_event ?hg (N:=2) ?hd (cs:= #[.slice none 0 0,.slice none 0 0]) (t:=30) ?hr ?_;(case hd=>rfl);(case hg=>rfl);(case hr=>first|(go_simp;done)|(go_simp;rfl));intro a4 hg w6 hbox hb;have f4:=zqm (below_step zq0 hb);have a1:=zqm (hbox);have j6:=zqm ((by rw [hg];exact(below_size zq0):w.heap.size≤a4));have b3:=zqm ((by rw [hg];exact(below_size zq0):w.heap.size≤a4));clear HB;have HB:=f4;clear f4 hb hbox hg)|((with_reducible refine gate_callee (f:=72) rfl ?_);refine goesL_ (some 8) rfl rfl Try.func72 zqk rfl #[.slice A0 l0.length c0] rfl zq1 ?_;(with_reducible refine(spec_l20Open.calls _ _ l0 a6 e7 w _ ?side1 ?side2 ?side3 A2.out).mono ?_);(case side1=>repeat(first|(with_reducible first|exact HB.out|apply below_alloc|apply pw_below_drewN|apply below_drew1|refine below_set ?_ b3.out)|exact HB.out));(case side2=>exact j4.out);(case side3=>exact j5.out);rintro e w7 ⟨g1016,rfl,hi,hb,hb2⟩;refine⟨_,rfl,?_⟩;have f4:=zqm (blk_below (g:=a4) (o:= .cells #[.slice none 0 0,.slice none 0 0] 30 (0,0)) zq16 hb2);replace HB:=zqm (hb);have a0:=zqm (hi);have a2:=zqm (IsS87.ne_blk hi (blk_below (g:=a4) (o:= .cells #[.slice none 0 0,.slice none 0 0] 30 (0,0)) zq16 hb2) (by decide));have c3:=zqm (Ne.symm (IsS87.ne_blk hi (blk_below (g:=a4) (o:= .cells #[.slice none 0 0,.slice none 0 0] 30 (0,0)) zq16 hb2) (by decide)));clear a1;have a1:=f4;clear f4 hb hb2 hi)|((with_reducible refine gate_callee (f:=85) rfl ?_);refine goesL_ (some 10) rfl rfl Try.func85 zqk rfl #[.pointer (some ⟨g1016,0,none⟩),.int .i64 12] rfl zq1 ?_;(with_reducible refine(spec_l20Logic.calls k g1016 a6 e7 12 a7 a8 d1 w _ ?side1 ?side2 A3.out).mono ?_);(case side1=> exact zq342);(case side2=> exact zq121);rintro e w8 ⟨k6,k7,rfl,e3,i0,hi,hb,hk⟩;refine⟨_,rfl,?_⟩;replace a1:=zqm (KeepBut.blk hk (g':=a4) (o:= .cells #[.slice none 0 0,.slice none 0 0] 30 (0,0)) zq16 c3.out (by simp));have c9:=zqm (Kd.S_lower e3 (below_size zq121));have c2:=zqm (Kd.Q_lower i0 (below_size zq121));replace HB:=zqm (hb);replace a0:=zqm (hi);clear hb hk hi e3 i0)|((with_reducible refine gate_dst (N:=5) rfl ?_);refine box_event ?hg (N:=5) ?hd (cs:= #[.slice none 0 0,.slice none 0 0]) (t:=30) ?hr ?_;(case hd=>rfl);(case hg=>rfl);(case hr=>first|(go_simp;done)|(go_simp;rfl));intro a9 hg w9 hbox hb;replace c9:=zqm (Kd.S_below zq390 hb);replace c2:=zqm (Kd.Q_below zq396 hb);have i1:=zqm (blk_below (g:=a4) (o:= .cells #[.slice none 0 0,.slice none 0 0] 30 (0,0)) zq16 hb);have i2:=zqm (IsS87.below zq342 hb);have f5:=zqm (below_step zq121 hb);have a5:=zqm (hbox);have j7:=zqm ((by rw [hg];exact(below_size zq121):w.heap.size≤a9));have d0:=zqm ((by rw [hg];exact(below_size zq121):w.heap.size≤a9));have b9:=zqm ((by rw [hg];exact Nat.ne_of_lt (blk_lt (g:=a4) (o:= .cells #[.slice none 0 0,.slice none 0 0] 30 (0,0)) zq16):a4≠a9));have b1:=zqm ((by rw [hg];exact Nat.ne_of_gt (blk_lt (g:=a4) (o:= .cells #[.slice none 0 0,.slice none 0 0] 30 (0,0)) zq16):a9≠a4));have a3:=zqm ((by rw [hg];exact Nat.ne_of_lt (IsS87.lt (show IsS87 w _ g1016 a6 d1 from by repeat(first|(with_reducible first|exact a0.out|apply IsS87.alloc|apply IsS87.drewN|apply IsS87.drew|apply IsS87.set_1|refine IsS87.far ?_ a2.out _)|exact a0.out))):g1016≠a9));have c4:=zqm ((by rw [hg];exact Nat.ne_of_gt (IsS87.lt (show IsS87 w _ g1016 a6 d1 from by repeat(first|(with_reducible first|exact a0.out|apply IsS87.alloc|apply IsS87.drewN|apply IsS87.drew|apply IsS87.set_1|refine IsS87.far ?_ a2.out _)|exact a0.out))):a9≠g1016));clear a1 a0 HB;have a1:=i1;have a0:=i2;have HB:=f5;clear i1 i2 f5 hb hbox hg;obtain⟨b7,b4,i8⟩:=Kd.S_slice c9.out;subst i8;have k8:=b1.out;have k9:=b9.out;have l1:=c4.out;have l2:=a3.out;have g3:w9.cell? ⟨a9,0,none⟩=some (.slice none 0 0):=(blk_cell a5.out 0).trans rfl;have g4:w9.cell? ⟨a9,1,none⟩=some (.slice none 0 0):=(blk_cell a5.out 1).trans rfl;have g5:=blk_frozen a5.out 0;have g6:=blk_frozen a5.out 1;obtain⟨b8,b5,i9,_⟩:=Kd.Q_slice c2.out;subst i9)|((with_reducible refine gate_callee (f:=102) rfl ?_);refine goesL_ (some 12) rfl rfl Try.func102 zqk rfl #[.agg #[.slice b7 a7.length b4,.slice b8 a8.length b5]] rfl zq1 ?_;(with_reducible refine(spec_StatesOf.calls k _ _ a7 _ _ a8 b0 _ ?side1 ?side2 ?side3 ?side4 A4.out).mono ?_);(case side1=>refine(Kd.S_reads' (e:=28) (base:=w.heap.size) (ok:=fun k_=>some k_≠(.slice b8 a8.length b5:Value).ownBlock) (n:=a7.length) (c:=b4) ?_).2.2;exact zq226);(case side2=>exact(Kd.S_reads' c9.out).2.1);(case side3=>refine(Kd.Q_reads' (e:=3) (base:=w.heap.size) (ok:=fun k_=>True) (n:=a8.length) (c:=b5) ?_).2.2;exact zq145);(case side4=>exact(Kd.Q_reads' c2.out).2.1);rintro e m1 ⟨e8,rfl,e3,hb⟩;refine⟨_,rfl,?_⟩;replace c9:=zqm (Kd.S_elder' zq226 (Kd.R_base e3) hb);have i3:=zqm (Kd.Q_elder' zq145 (Kd.R_base e3) hb);have d3:=zqm (Kd.R_lower (Kd.R_new' e3 (Kd.Q_lt zq145)) (below_size zq49));replace a1:=zqm (blk_below (g:=a4) (o:= .cells #[.slice none 0 0,.slice none 0 0] 30 (0,0)) (by(with_reducible repeat(first|refine blk_drewN ?_ _|refine blk_drew ?_|refine blk_alloc ?_ _));refine blk_far ?_ b9.out _;(with_reducible repeat(first|refine blk_drewN ?_ _|refine blk_drew ?_|refine blk_alloc ?_ _));refine blk_far ?_ b9.out _;(with_reducible repeat(first|refine blk_drewN ?_ _|refine blk_drew ?_|refine blk_alloc ?_ _));exact a1.out) hb);have f5:=zqm (IsS87.below (show IsS87 w ((w9.setCell ⟨a9,0,none⟩ (.slice b7 a7.length b4)).setCell ⟨a9,1,none⟩ (.slice b8 a8.length b5)) g1016 a6 d1 from by repeat(first|(with_reducible first|exact a0.out|apply IsS87.alloc|apply IsS87.drewN|apply IsS87.drew|apply IsS87.set_1|refine IsS87.far ?_ a2.out _|refine IsS87.far ?_ a3.out _)|exact a0.out)) hb);replace a5:=zqm (blk_below (g:=a9) (o:= .cells #[.slice b7 a7.length b4,.slice b8 a8.length b5] 30 (0,0)) (by(with_reducible repeat(first|refine blk_drewN ?_ _|refine blk_drew ?_|refine blk_alloc ?_ _));refine blk_put (cs:= #[.slice b7 a7.length b4,.slice none 0 0]) ?_ 1 _ rfl;(with_reducible repeat(first|refine blk_drewN ?_ _|refine blk_drew ?_|refine blk_alloc ?_ _));refine blk_put (cs:= #[.slice none 0 0,.slice none 0 0]) ?_ 0 _ rfl;(with_reducible repeat(first|refine blk_drewN ?_ _|refine blk_drew ?_|refine blk_alloc ?_ _));exact a5.out) hb);replace HB:=zqm (below_step zq49 hb);clear c2 a0;have c2:=i3;have a0:=f5;clear i3 f5 hb e3))
 (try simp only [Act.put,List.setIfInBounds_toArray,List.set_cons_zero,List.set_cons_succ])
 go_cut [20] (fun j8 wc=> ∃(kq:Nat) (e1:Bool) (b2:Int),j8= .bool e1∧Aside0 (spec_DrawStateOk.j0 kq b0 e1 a6 b2 a7 a8=some (r1,r2,r3))∧Aside0 (kq≤k)∧Aside0 (Kd.R (Kd.int .i64) 3 wc w.heap.size (fun k_=>some k_≠((.slice b8 a8.length b5):Value).ownBlock) e8 b0)∧Aside0 (Kd.S (Kd.slice 3 (Kd.int .i64)) 28 wc w.heap.size (fun k_=>some k_≠(e8:Value).ownBlock∧some k_≠((.slice b8 a8.length b5):Value).ownBlock) (.slice b7 a7.length b4) a7)∧Aside0 (Kd.Q (Kd.int .i64) 3 wc w.heap.size (fun k_=>some k_≠(e8:Value).ownBlock) (.slice b8 a8.length b5) a8)∧Aside0 (wc.heap[a4]? =some (.cells #[(.slice none 0 0),(.slice none 0 0)] 30 (0,0)))∧Aside0 (wc.heap[a9]? =some (.cells #[(.slice b7 a7.length b4),(.slice b8 a8.length b5)] 30 (0,0)))∧Aside0 (IsS87 w wc g1016 a6 b2)∧Aside0 (Below w.heap.size w wc))
 case first=>
  have H:=g7.out;clear g7
  by_cases e4:(b0.length:Int)>0
  ·rw [if_pos e4] at H;have d8:decide (0<(b0.length:Int))=true:=decide_eq_true e4;have f8:decide (0<b0.length)=true:=decide_eq_true (by omega);clear e4;(first|rw [d8]|(simp only [i64_w,i32_w];rw [d8])|skip);replace H:=Option.bind_eq_some_iff.mp H;obtain⟨⟨e9,f0⟩,g8,H⟩:=H;replace H:(spec_DrawStateOk.j0 k b0 (decide (e9>0)) a6 f0 a7 a8)=some (r1,r2,r3):=H;have j9:=zqm g8;clear g8;have H':=zqm H;clear H;obtain⟨l5,l6,j1⟩:=Kd.R_slice d3.out;subst j1
   go_wp2_with (first|(go_at_call 103;(with_reducible refine(spec_l20Rd_pick.calls k g1016 a6 d1 3 e9 f0 w _ ?side1 ?side2 j9.out).mono ?_);(case side1=> exact zq86);(case side2=> exact zq49);rintro e m2 ⟨rfl,hi,hb,hk⟩;replace a1:=zqm (KeepBut.blk hk (g':=a4) (o:= .cells #[.slice none 0 0,.slice none 0 0] 30 (0,0)) zq16 c3.out (by simp));replace c9:=zqm (Kd.S_mono (Kd.S_keep (IsS87.apartS (show IsS87 w _ g1016 a6 d1 from by repeat(first|(with_reducible first|exact a0.out|apply IsS87.alloc|apply IsS87.drewN|apply IsS87.drew|apply IsS87.set_1|refine IsS87.far ?_ a2.out _|refine IsS87.far ?_ a3.out _)|exact a0.out)) zq390 (by decide)) hk (fun _ h=>h.2)) (fun _ h=>h.1));replace c2:=zqm (Kd.Q_mono (Kd.Q_keep (IsS87.apartQ (show IsS87 w _ g1016 a6 d1 from by repeat(first|(with_reducible first|exact a0.out|apply IsS87.alloc|apply IsS87.drewN|apply IsS87.drew|apply IsS87.set_1|refine IsS87.far ?_ a2.out _|refine IsS87.far ?_ a3.out _)|exact a0.out)) zq396 (by decide)) hk (fun _ h=>h.2)) (fun _ h=>h.1));replace a5:=zqm (KeepBut.blk hk (g':=a9) (o:= .cells #[.slice b7 a7.length b4,.slice b8 a8.length b5] 30 (0,0)) zq100 c4.out (by simp));replace d3:=zqm (Kd.R_mono (Kd.R_keep (IsS87.apart (show IsS87 w _ g1016 a6 d1 from by repeat(first|(with_reducible first|exact a0.out|apply IsS87.alloc|apply IsS87.drewN|apply IsS87.drew|apply IsS87.set_1|refine IsS87.far ?_ a2.out _|refine IsS87.far ?_ a3.out _)|exact a0.out)) (by(with_reducible repeat(first|apply Kd.R_alloc|apply Kd.R_drewN|apply Kd.R_drew));exact d3.out) (by decide)) hk (fun _ h=>h.2)) (fun _ h=>h.1));replace HB:=zqm (hb);replace a0:=zqm (hi);clear hb hk hi))
   go_meet
   case rel=>exact⟨_,(decide (e9>0)),(f0),(by first|rfl|(simp;done)|(simp [*];done)),H',⟨by first|omega|exact Nat.le_refl _⟩,⟨zq376⟩,⟨zq374⟩,⟨zq377⟩,⟨zq16⟩,⟨zq100⟩,⟨zq86⟩,⟨zq49⟩⟩
  ·rw [if_neg e4] at H;have d8:decide (0<(b0.length:Int))=false:=decide_eq_false e4;have f8:decide (0<b0.length)=false:=decide_eq_false (by omega);clear e4;(first|rw [d8]|(simp only [i64_w,i32_w];rw [d8])|skip);have H':=zqm H;clear H;obtain⟨l7,l8,j2⟩:=Kd.R_slice d3.out;subst j2
   go_wp2
   go_meet
   case rel=>exact⟨_,(false),(d1),(by first|rfl|(simp;done)|(simp [*];done)),H',⟨by first|omega|exact Nat.le_refl _⟩,⟨zq376⟩,⟨zq374⟩,⟨zq377⟩,⟨zq16⟩,⟨zq100⟩,⟨zq86⟩,⟨zq49⟩⟩
 case rest=>
  clear g7;(try clear c1);(try clear p2);(try clear c5);(try clear c7);(try clear c8);(try clear m3);(try clear m4);(try clear m5);(try clear e4);(try clear d8);(try clear f8);(try clear g3);(try clear g4);(try clear g5);(try clear g6);obtain⟨kq,e1,b2,rfl,HA,m6,HO_6,HO_1025000,HO_1025001,a1,a5,a0,HB⟩:=hcut
  cases kq with
  |zero=>exact absurd HA.out (by simp [spec_DrawStateOk.j0])
  |succ d5=>
   have H:=HA.out;clear HA;simp only [spec_DrawStateOk.j0] at H
   by_cases f9:e1=true
   ·subst f9;(have H1:((spec_l20Rd_pick.f d5 a6 b2 (b0.length:Int)).bind fun e5=>(if 0≤e5.1 then(if e5.1<(b0.length:Int) then(some (a7,a8,rd b0 e5.1)) else(none)) else(none)))=some (r1,r2,r3):=by rw [if_pos rfl] at H;exact H);clear H;have H:=H1;clear H1;replace H:=Option.bind_eq_some_iff.mp H;obtain⟨⟨d2,h5⟩,g9,H⟩:=H;replace H:(if 0≤d2 then(if d2<(b0.length:Int) then(some (a7,a8,rd b0 d2)) else(none)) else(none))=some (r1,r2,r3):=H;have k0:=zqm g9;clear g9
    by_cases g0:0≤d2
    ·rw [if_pos g0] at H;have l3:decide (0≤d2)=true:=decide_eq_true g0;clear g0
     by_cases g1:d2<(b0.length:Int)
     ·rw [if_pos g1] at H;have l4:decide (d2<(b0.length:Int))=true:=decide_eq_true g1;clear g1;simp only [Option.some.injEq,Prod.mk.injEq] at H;obtain⟨rfl,rfl,rfl⟩:=H;(try go_wp2);replace HO_6:=zqm (Kd.R_drew HO_6.out);replace HO_1025000:=zqm (Kd.S_drew HO_1025000.out);replace HO_1025001:=zqm (Kd.Q_drew HO_1025001.out);replace a1:=zqm (blk_drew a1.out);replace a5:=zqm (blk_drew a5.out);replace a0:=zqm (IsS87.drew a0.out);replace HB:=zqm (below_drew1 HB.out);obtain⟨l9,m0,h0⟩:=Kd.R_slice HO_6.out;(first|subst h0|(injection h0 with i4 k1 i5;have k2:=i4.symm;have k3:=i5.symm;clear i4 k1 i5;subst k2;subst k3));have f1:0≤(d2:Int):=zqo;have f2:d2<(b0.length:Int):=zqo;obtain⟨h1,h6,e6⟩:=Kd.at_int (Kd.R_reads' HO_6.out).2.2 d2 f1 f2
      cases h6
      replace f1:=eq_true f1;replace f2:=eq_true f2;refine start_ (n:=10) (S:=fun w'=>w'.cell? ⟨a9,0,none⟩=some (.slice b7 a7.length b4)∧w'.cell? ⟨a9,1,none⟩=some (.slice b8 a8.length b5)∧w'.cell? (h1.add (d2).toNat)=some (.int .i64 (rd b0 d2))) (ds:= []) (zqb 10 0) zqk rfl rfl ⟨(blk_cell a5.out 0).trans rfl,(blk_cell a5.out 1).trans rfl,e6⟩ (fun hHeld=>?_);refine with_tabW spec_DrawStateOk.tab5 spec_DrawStateOk.bits5 (fun HT_ HW_=>?_);generalize wc.drew=m7 at HO_6 HO_1025000 HO_1025001 a1 a5 a0 HB e6 hHeld ⊢;refine pure_ (i:=1) (N:=some 22) (v:=?_) (a':=?_) (zqb 10 2) rfl rfl (any_of HT_.out zqk) (fun _ _ _ h=>h) (Or.inl ⟨by rfl,?_⟩) ?_ ?_;rotate_left
      ·exact zqt
      rotate_left
      ·exact zqs
      refine pure_ (i:=2) (N:=some 23) (v:=?_) (a':=?_) (zqb 10 6) rfl rfl (any_of HT_.out zqk) (fun _ _ _ h=>h) (Or.inl ⟨by rfl,?_⟩) ?_ ?_;rotate_left
      ·exact zqt
      rotate_left
      ·exact zqs
      refine pure_ (i:=3) (N:=some 24) (v:=?_) (a':=?_) (zqb 10 14) rfl rfl (any_of HT_.out zqk) (fun _ _ _ h=>h) (Or.inl ⟨by rfl,?_⟩) ?_ ?_;rotate_left
      ·exact zqt
      rotate_left
      ·exact zqs
      refine pure_ (i:=4) (N:=some 25) (v:=?_) (a':=?_) (zqb 10 30) rfl rfl (any_of HT_.out zqk) (fun _ _ _ h=>h) (Or.inl ⟨by rfl,?_⟩) ?_ ?_;rotate_left
      ·exact zqt
      rotate_left
      ·exact zqs
      refine take_ (i:=0) (N:=some 21) (v:=?_) (a':=?_) (zqb 10 31) rfl rfl (take_ofW HT_.out HW_.out zqk) (fun _ _ _ h=>h) (Or.inl ⟨by rfl,?_⟩) hHeld ?_ ?_;rotate_left
      ·rintro w' ⟨s0,s1,s2⟩;go_simp;with_reducible rfl
      rotate_left
      ·exact zqs
      refine one_ (i:=5) (N:=some 26) (zqb 10 63) rfl rfl (one_of HT_.out zqk) (by decide) (fun K hK=>?_);refine goes_ Try.func103 zqk rfl #[.pointer (some ⟨g1016,0,none⟩),.int .i64 (b0.length:Int)] (by rfl) rfl rfl zq1 ?_;(with_reducible refine(spec_l20Rd_pick.calls d5 g1016 a6 b2 (b0.length:Int) d2 h5 w _ ?side1 ?side2 k0.out).mono ?_);(case side1=> exact zq86);(case side2=> exact zq49);rintro e i6 ⟨rfl,hi,hb,hk⟩;have j3:=keep_cell hk (hHeld.2.2) (by first|(rw [add_block];exact Kd.own_blk (IsS87.own_ne a0.out HO_6.out (by decide)))|(show (Addr.add _ _).block≠_;rw [add_block];exact Kd.own_blk (IsS87.own_ne a0.out HO_6.out (by decide)))|exact Kd.own_blk (IsS87.own_ne a0.out HO_6.out (by decide)));refine⟨_,rfl,?_⟩;replace HO_6:=zqm (Kd.R_mono (Kd.R_keep (IsS87.apart (show IsS87 w _ g1016 a6 b2 from by repeat(first|(with_reducible first|exact a0.out|apply IsS87.alloc|apply IsS87.drewN|apply IsS87.drew|apply IsS87.set_1|refine IsS87.far ?_ a2.out _|refine IsS87.far ?_ a3.out _)|exact a0.out)) zq104 (by decide)) hk (fun _ h=>h.2)) (fun _ h=>h.1));replace HO_1025000:=zqm (Kd.S_mono (Kd.S_keep (IsS87.apartS (show IsS87 w _ g1016 a6 b2 from by repeat(first|(with_reducible first|exact a0.out|apply IsS87.alloc|apply IsS87.drewN|apply IsS87.drew|apply IsS87.set_1|refine IsS87.far ?_ a2.out _|refine IsS87.far ?_ a3.out _)|exact a0.out)) zq319 (by decide)) hk (fun _ h=>h.2)) (fun _ h=>h.1));replace HO_1025001:=zqm (Kd.Q_mono (Kd.Q_keep (IsS87.apartQ (show IsS87 w _ g1016 a6 b2 from by repeat(first|(with_reducible first|exact a0.out|apply IsS87.alloc|apply IsS87.drewN|apply IsS87.drew|apply IsS87.set_1|refine IsS87.far ?_ a2.out _|refine IsS87.far ?_ a3.out _)|exact a0.out)) zq320 (by decide)) hk (fun _ h=>h.2)) (fun _ h=>h.1));replace a1:=zqm (KeepBut.blk hk (g':=a4) (o:= .cells #[.slice none 0 0,.slice none 0 0] 30 (0,0)) zq16 c3.out (by simp));replace a5:=zqm (KeepBut.blk hk (g':=a9) (o:= .cells #[.slice b7 a7.length b4,.slice b8 a8.length b5] 30 (0,0)) zq100 c4.out (by simp));replace HB:=zqm (hb);replace a0:=zqm (hi);clear hb hk hi;refine hK.out _ _ ⟨(blk_cell a5.out 0).trans rfl,(blk_cell a5.out 1).trans rfl,j3⟩ (fun hHeld=>?_);clear hK K;refine norm_ (a':=?_) ?_ ?_;rotate_left
      ·show Act.put _ (some 26) _=_;exact zqs
      refine pure_ (i:=6) (N:=some 27) (v:=?_) (a':=?_) (zqb 10 127) rfl rfl (any_of HT_.out zqk) (fun _ _ _ h=>h) (Or.inl ⟨by rfl,?_⟩) ?_ ?_;rotate_left
      ·exact zqt
      rotate_left
      ·exact zqs
      refine take_ (i:=7) (N:=some 28) (v:=?_) (a':=?_) (zqb 10 255) rfl rfl (take_ofW HT_.out HW_.out zqk) (fun _ _ _ h=>h) (Or.inl ⟨by rfl,?_⟩) hHeld ?_ ?_;rotate_left
      ·rintro w' ⟨s0,s1,s2⟩;go_simp;with_reducible rfl
      rotate_left
      ·exact zqs
      refine one_ (i:=8) (N:=none) (zqb 10 511) rfl rfl (one_of HT_.out zqk) (by decide) (fun K hK=>?_);have hs28:i6.cell? ⟨a4,0,none⟩=some (.slice none 0 0):=(blk_cell a1.out 0).trans rfl;have hfs28:=blk_frozen a1.out 0;have hns28_1:=b1.out;have hms28_1:=b9.out;have hs29:i6.cell? ⟨a4,1,none⟩=some (.slice none 0 0):=(blk_cell a1.out 1).trans rfl;have hfs29:=blk_frozen a1.out 1;have hns29_1:=b1.out;have hms29_1:=b9.out;refine skip_ (w1:=?_) (by rfl) rfl ?_ ?_;rotate_left
      ·go_simp;rfl
      refine hK.out _ _ ⟨((cell_far (p:=⟨a4,_,none⟩) b1.out _).trans (((cell_far (p:=⟨a4,_,none⟩) b1.out _).trans (hHeld.1)))),((cell_far (p:=⟨a4,_,none⟩) b1.out _).trans (((cell_far (p:=⟨a4,_,none⟩) b1.out _).trans (hHeld.2.1)))),((cell_far (p:=⟨a4,_,none⟩) zq183 _).trans (((cell_far (p:=⟨a4,_,none⟩) zq183 _).trans (hHeld.2.2))))⟩ (fun hHeld=>?_);clear hK K;refine pure_ (i:=9) (N:=some 3) (v:=?_) (a':=?_) (zqb 10 1023) rfl rfl (any_of HT_.out zqk) (fun _ _ _ h=>h) (Or.inl ⟨by rfl,?_⟩) ?_ ?_;rotate_left
      ·exact zqt
      rotate_left
      ·exact zqs
      refine done_ (done_of HT_.out zqk) ?_;(try go_wp2);refine bodyPost_ret (results_ct rfl _ _ a4 30 #[.slice b7 a7.length b4,.slice b8 a8.length b5] (0,0) _ rfl zq147 Try.underlying30 rfl zqk) rfl ?_;exact⟨_,_,zq11,zq182,zq181,zq49⟩
     ·rw [if_neg g1] at H;exact absurd H (by simp)
    ·rw [if_neg g0] at H;exact absurd H (by simp)
   ·replace f9:=Bool.eq_false_iff.mpr f9;subst f9;(have H1:((spec_l20Rd_pick.f d5 a6 b2 64).bind fun f6=>((spec_l20Rd_pick.f d5 a6 f6.2 64).bind fun d6=>((spec_l20Rd_pick.f d5 a6 d6.2 20).bind fun d7=>(some (a7,a8,wrap64 ((wrap64 ((wrap64 (f6.1*64))+d6.1)) - (wrap64 (Int.tdiv d7.1 19))))))))=some (r1,r2,r3):=by rw [if_neg (show¬(false=true) by decide)] at H;exact H);clear H;have H:=H1;clear H1;replace H:=Option.bind_eq_some_iff.mp H;obtain⟨⟨e2,d9⟩,h2,H⟩:=H;replace H:((spec_l20Rd_pick.f d5 a6 d9 64).bind fun d6=>((spec_l20Rd_pick.f d5 a6 d6.2 20).bind fun d7=>(some (a7,a8,wrap64 ((wrap64 ((wrap64 (e2*64))+d6.1)) - (wrap64 (Int.tdiv d7.1 19)))))))=some (r1,r2,r3):=H;have f7:=zqm h2;clear h2;replace H:=Option.bind_eq_some_iff.mp H;obtain⟨⟨f3,e0⟩,h3,H⟩:=H;replace H:((spec_l20Rd_pick.f d5 a6 e0 20).bind fun d7=>(some (a7,a8,wrap64 ((wrap64 ((wrap64 (e2*64))+f3)) - (wrap64 (Int.tdiv d7.1 19))))))=some (r1,r2,r3):=H;have k4:=zqm h3;clear h3;replace H:=Option.bind_eq_some_iff.mp H;obtain⟨⟨g2,h7⟩,h4,H⟩:=H;replace H:(some (a7,a8,wrap64 ((wrap64 ((wrap64 (e2*64))+f3)) - (wrap64 (Int.tdiv g2 19)))))=some (r1,r2,r3):=H;have k5:=zqm h4;clear h4;simp only [Option.some.injEq,Prod.mk.injEq] at H;obtain⟨rfl,rfl,rfl⟩:=H;(try go_wp2);replace HO_6:=zqm (Kd.R_drew HO_6.out);replace HO_1025000:=zqm (Kd.S_drew HO_1025000.out);replace HO_1025001:=zqm (Kd.Q_drew HO_1025001.out);replace a1:=zqm (blk_drew a1.out);replace a5:=zqm (blk_drew a5.out);replace a0:=zqm (IsS87.drew a0.out);replace HB:=zqm (below_drew1 HB.out);refine start_ (n:=13) (S:=fun w'=>w'.cell? ⟨a9,0,none⟩=some (.slice b7 a7.length b4)∧w'.cell? ⟨a9,1,none⟩=some (.slice b8 a8.length b5)) (ds:= []) (zqb 13 0) zqk rfl rfl ⟨(blk_cell a5.out 0).trans rfl,(blk_cell a5.out 1).trans rfl⟩ (fun hHeld=>?_);refine with_tabW spec_DrawStateOk.tab6 spec_DrawStateOk.bits6 (fun HT_ HW_=>?_);generalize wc.drew=m8 at HO_6 HO_1025000 HO_1025001 a1 a5 a0 HB hHeld ⊢;refine pure_ (i:=1) (N:=some 30) (v:=?_) (a':=?_) (zqb 13 2) rfl rfl (any_of HT_.out zqk) (fun _ _ _ h=>h) (Or.inl ⟨by rfl,?_⟩) ?_ ?_;rotate_left
    ·exact zqt
    rotate_left
    ·exact zqs
    refine pure_ (i:=4) (N:=some 33) (v:=?_) (a':=?_) (zqb 13 18) rfl rfl (any_of HT_.out zqk) (fun _ _ _ h=>h) (Or.inl ⟨by rfl,?_⟩) ?_ ?_;rotate_left
    ·exact zqt
    rotate_left
    ·exact zqs
    refine pure_ (i:=7) (N:=some 36) (v:=?_) (a':=?_) (zqb 13 146) rfl rfl (any_of HT_.out zqk) (fun _ _ _ h=>h) (Or.inl ⟨by rfl,?_⟩) ?_ ?_;rotate_left
    ·exact zqt
    rotate_left
    ·exact zqs
    refine take_ (i:=0) (N:=some 29) (v:=?_) (a':=?_) (zqb 13 147) rfl rfl (take_ofW HT_.out HW_.out zqk) (fun _ _ _ h=>h) (Or.inl ⟨by rfl,?_⟩) hHeld ?_ ?_;rotate_left
    ·rintro w' ⟨s0,s1⟩;go_simp;with_reducible rfl
    rotate_left
    ·exact zqs
    refine one_ (i:=2) (N:=some 31) (zqb 13 151) rfl rfl (one_of HT_.out zqk) (by decide) (fun K hK=>?_);refine goes_ Try.func103 zqk rfl #[.pointer (some ⟨g1016,0,none⟩),.int .i64 64] (by rfl) rfl rfl zq1 ?_;(with_reducible refine(spec_l20Rd_pick.calls d5 g1016 a6 b2 64 e2 d9 w _ ?side1 ?side2 f7.out).mono ?_);(case side1=> exact zq86);(case side2=> exact zq49);rintro e m9 ⟨rfl,hi,hb,hk⟩;refine⟨_,rfl,?_⟩;replace HO_6:=zqm (Kd.R_mono (Kd.R_keep (IsS87.apart (show IsS87 w _ g1016 a6 b2 from by repeat(first|(with_reducible first|exact a0.out|apply IsS87.alloc|apply IsS87.drewN|apply IsS87.drew|apply IsS87.set_1|refine IsS87.far ?_ a2.out _|refine IsS87.far ?_ a3.out _)|exact a0.out)) zq104 (by decide)) hk (fun _ h=>h.2)) (fun _ h=>h.1));replace HO_1025000:=zqm (Kd.S_mono (Kd.S_keep (IsS87.apartS (show IsS87 w _ g1016 a6 b2 from by repeat(first|(with_reducible first|exact a0.out|apply IsS87.alloc|apply IsS87.drewN|apply IsS87.drew|apply IsS87.set_1|refine IsS87.far ?_ a2.out _|refine IsS87.far ?_ a3.out _)|exact a0.out)) zq319 (by decide)) hk (fun _ h=>h.2)) (fun _ h=>h.1));replace HO_1025001:=zqm (Kd.Q_mono (Kd.Q_keep (IsS87.apartQ (show IsS87 w _ g1016 a6 b2 from by repeat(first|(with_reducible first|exact a0.out|apply IsS87.alloc|apply IsS87.drewN|apply IsS87.drew|apply IsS87.set_1|refine IsS87.far ?_ a2.out _|refine IsS87.far ?_ a3.out _)|exact a0.out)) zq320 (by decide)) hk (fun _ h=>h.2)) (fun _ h=>h.1));replace a1:=zqm (KeepBut.blk hk (g':=a4) (o:= .cells #[.slice none 0 0,.slice none 0 0] 30 (0,0)) zq16 c3.out (by simp));replace a5:=zqm (KeepBut.blk hk (g':=a9) (o:= .cells #[.slice b7 a7.length b4,.slice b8 a8.length b5] 30 (0,0)) zq100 c4.out (by simp));replace HB:=zqm (hb);replace a0:=zqm (hi);clear hb hk hi;refine hK.out _ _ ⟨(blk_cell a5.out 0).trans rfl,(blk_cell a5.out 1).trans rfl⟩ (fun hHeld=>?_);clear hK K;refine norm_ (a':=?_) ?_ ?_;rotate_left
    ·show Act.put _ (some 31) _=_;exact zqs
    refine pure_ (i:=3) (N:=some 32) (v:=?_) (a':=?_) (zqb 13 159) rfl rfl (any_of HT_.out zqk) (fun _ _ _ h=>h) (Or.inl ⟨by rfl,?_⟩) ?_ ?_;rotate_left
    ·exact zqt
    rotate_left
    ·exact zqs
    refine one_ (i:=5) (N:=some 34) (zqb 13 191) rfl rfl (one_of HT_.out zqk) (by decide) (fun K hK=>?_);refine goes_ Try.func103 zqk rfl #[.pointer (some ⟨g1016,0,none⟩),.int .i64 64] (by rfl) rfl rfl zq1 ?_;(with_reducible refine(spec_l20Rd_pick.calls d5 g1016 a6 d9 64 f3 e0 w _ ?side1 ?side2 k4.out).mono ?_);(case side1=> exact zq86);(case side2=> exact zq49);rintro e n0 ⟨rfl,hi,hb,hk⟩;refine⟨_,rfl,?_⟩;replace HO_6:=zqm (Kd.R_mono (Kd.R_keep (IsS87.apart (show IsS87 w _ g1016 a6 d9 from by repeat(first|(with_reducible first|exact a0.out|apply IsS87.alloc|apply IsS87.drewN|apply IsS87.drew|apply IsS87.set_1|refine IsS87.far ?_ a2.out _|refine IsS87.far ?_ a3.out _)|exact a0.out)) zq104 (by decide)) hk (fun _ h=>h.2)) (fun _ h=>h.1));replace HO_1025000:=zqm (Kd.S_mono (Kd.S_keep (IsS87.apartS (show IsS87 w _ g1016 a6 d9 from by repeat(first|(with_reducible first|exact a0.out|apply IsS87.alloc|apply IsS87.drewN|apply IsS87.drew|apply IsS87.set_1|refine IsS87.far ?_ a2.out _|refine IsS87.far ?_ a3.out _)|exact a0.out)) zq319 (by decide)) hk (fun _ h=>h.2)) (fun _ h=>h.1));replace HO_1025001:=zqm (Kd.Q_mono (Kd.Q_keep (IsS87.apartQ (show IsS87 w _ g1016 a6 d9 from by repeat(first|(with_reducible first|exact a0.out|apply IsS87.alloc|apply IsS87.drewN|apply IsS87.drew|apply IsS87.set_1|refine IsS87.far ?_ a2.out _|refine IsS87.far ?_ a3.out _)|exact a0.out)) zq320 (by decide)) hk (fun _ h=>h.2)) (fun _ h=>h.1));replace a1:=zqm (KeepBut.blk hk (g':=a4) (o:= .cells #[.slice none 0 0,.slice none 0 0] 30 (0,0)) zq16 c3.out (by simp));replace a5:=zqm (KeepBut.blk hk (g':=a9) (o:= .cells #[.slice b7 a7.length b4,.slice b8 a8.length b5] 30 (0,0)) zq100 c4.out (by simp));replace HB:=zqm (hb);replace a0:=zqm (hi);clear hb hk hi;refine hK.out _ _ ⟨(blk_cell a5.out 0).trans rfl,(blk_cell a5.out 1).trans rfl⟩ (fun hHeld=>?_);clear hK K;refine norm_ (a':=?_) ?_ ?_;rotate_left
    ·show Act.put _ (some 34) _=_;exact zqs
    refine pure_ (i:=6) (N:=some 35) (v:=?_) (a':=?_) (zqb 13 255) rfl rfl (any_of HT_.out zqk) (fun _ _ _ h=>h) (Or.inl ⟨by rfl,?_⟩) ?_ ?_;rotate_left
    ·exact zqt
    rotate_left
    ·exact zqs
    refine one_ (i:=8) (N:=some 37) (zqb 13 511) rfl rfl (one_of HT_.out zqk) (by decide) (fun K hK=>?_);refine goes_ Try.func103 zqk rfl #[.pointer (some ⟨g1016,0,none⟩),.int .i64 20] (by rfl) rfl rfl zq1 ?_;(with_reducible refine(spec_l20Rd_pick.calls d5 g1016 a6 e0 20 g2 h7 w _ ?side1 ?side2 k5.out).mono ?_);(case side1=> exact zq86);(case side2=> exact zq49);rintro e i7 ⟨rfl,hi,hb,hk⟩;refine⟨_,rfl,?_⟩;replace HO_6:=zqm (Kd.R_mono (Kd.R_keep (IsS87.apart (show IsS87 w _ g1016 a6 e0 from by repeat(first|(with_reducible first|exact a0.out|apply IsS87.alloc|apply IsS87.drewN|apply IsS87.drew|apply IsS87.set_1|refine IsS87.far ?_ a2.out _|refine IsS87.far ?_ a3.out _)|exact a0.out)) zq104 (by decide)) hk (fun _ h=>h.2)) (fun _ h=>h.1));replace HO_1025000:=zqm (Kd.S_mono (Kd.S_keep (IsS87.apartS (show IsS87 w _ g1016 a6 e0 from by repeat(first|(with_reducible first|exact a0.out|apply IsS87.alloc|apply IsS87.drewN|apply IsS87.drew|apply IsS87.set_1|refine IsS87.far ?_ a2.out _|refine IsS87.far ?_ a3.out _)|exact a0.out)) zq319 (by decide)) hk (fun _ h=>h.2)) (fun _ h=>h.1));replace HO_1025001:=zqm (Kd.Q_mono (Kd.Q_keep (IsS87.apartQ (show IsS87 w _ g1016 a6 e0 from by repeat(first|(with_reducible first|exact a0.out|apply IsS87.alloc|apply IsS87.drewN|apply IsS87.drew|apply IsS87.set_1|refine IsS87.far ?_ a2.out _|refine IsS87.far ?_ a3.out _)|exact a0.out)) zq320 (by decide)) hk (fun _ h=>h.2)) (fun _ h=>h.1));replace a1:=zqm (KeepBut.blk hk (g':=a4) (o:= .cells #[.slice none 0 0,.slice none 0 0] 30 (0,0)) zq16 c3.out (by simp));replace a5:=zqm (KeepBut.blk hk (g':=a9) (o:= .cells #[.slice b7 a7.length b4,.slice b8 a8.length b5] 30 (0,0)) zq100 c4.out (by simp));replace HB:=zqm (hb);replace a0:=zqm (hi);clear hb hk hi;refine hK.out _ _ ⟨(blk_cell a5.out 0).trans rfl,(blk_cell a5.out 1).trans rfl⟩ (fun hHeld=>?_);clear hK K;refine norm_ (a':=?_) ?_ ?_;rotate_left
    ·show Act.put _ (some 37) _=_;exact zqs
    refine pure_ (i:=9) (N:=some 38) (v:=?_) (a':=?_) (zqb 13 1023) rfl rfl (any_of HT_.out zqk) (fun _ _ _ h=>h) (Or.inl ⟨by rfl,?_⟩) ?_ ?_;rotate_left
    ·exact zqt
    rotate_left
    ·exact zqs
    refine pure_ (i:=10) (N:=some 39) (v:=?_) (a':=?_) (zqb 13 2047) rfl rfl (any_of HT_.out zqk) (fun _ _ _ h=>h) (Or.inl ⟨by rfl,?_⟩) ?_ ?_;rotate_left
    ·exact zqt
    rotate_left
    ·exact zqs
    refine one_ (i:=11) (N:=none) (zqb 13 4095) rfl rfl (one_of HT_.out zqk) (by decide) (fun K hK=>?_);have hs37:i7.cell? ⟨a4,0,none⟩=some (.slice none 0 0):=(blk_cell a1.out 0).trans rfl;have hfs37:=blk_frozen a1.out 0;have hns37_1:=b1.out;have hms37_1:=b9.out;have hs38:i7.cell? ⟨a4,1,none⟩=some (.slice none 0 0):=(blk_cell a1.out 1).trans rfl;have hfs38:=blk_frozen a1.out 1;have hns38_1:=b1.out;have hms38_1:=b9.out;refine skip_ (w1:=?_) (by rfl) rfl ?_ ?_;rotate_left
    ·go_simp;rfl
    refine hK.out _ _ ⟨((cell_far (p:=⟨a4,_,none⟩) b1.out _).trans (((cell_far (p:=⟨a4,_,none⟩) b1.out _).trans (hHeld.1)))),((cell_far (p:=⟨a4,_,none⟩) b1.out _).trans (((cell_far (p:=⟨a4,_,none⟩) b1.out _).trans (hHeld.2))))⟩ (fun hHeld=>?_);clear hK K;refine pure_ (i:=12) (N:=some 3) (v:=?_) (a':=?_) (zqb 13 8191) rfl rfl (any_of HT_.out zqk) (fun _ _ _ h=>h) (Or.inl ⟨by rfl,?_⟩) ?_ ?_;rotate_left
    ·exact zqt
    rotate_left
    ·exact zqs
    refine done_ (done_of HT_.out zqk) ?_;(try go_wp2);refine bodyPost_ret (results_ct rfl _ _ a4 30 #[.slice b7 a7.length b4,.slice b8 a8.length b5] (0,0) _ rfl zq147 Try.underlying30 rfl zqk) rfl ?_;exact⟨_,_,zq11,zq182,zq181,zq49⟩
end Go.Proofs.Ytdoomkcgdcfmlaa.Print
end
