/- Part 1 of what this is proved by: The law of SameOk. -/
import Derived.Test.YtcbjpdaogicibaaLC8
import Derived.Below
import Derived.Deep.Draws
import Derived.Deep.AppendLies
import Derived.Maps.AppendAt
import Derived.OwnWalk
import Derived.Laws.BytesArg
import Derived.Laws.MakeOwn
import Derived.Laws.OwnMore
import Derived.Deep.OwnRows
import Derived.Tactics
import Derived.Lib.ConvBytes
import Derived.Laws.Slices
import Derived.WalkKit
import Derived.KernelRfl
import Derived.RowKit3
import Derived.Deep.LoopGhost
import Derived.Deep.QuietTactic
import Derived.BigQuiet
import Derived.WideLaws
import Derived.Deep.DeepCutAuto
import Derived.Deep.CutBlock
import Derived.Deep.RegionHeld3
import Derived.Laws.Rows
import Derived.Lib.AppendStr
import Derived.ArgAppend
import Derived.Laws.IdiomCopy
import Derived.RowKit
import Derived.Test.YtcbjpdaogicibaaProg
import Derived.OrdersHeld
import Derived.Laws.BitsLemmas
import Derived.ProofKit
import Derived.OpenShut
set_option linter.all false
section
namespace Go.Proofs.YtcbjpdaogicibaaW.PrintWords
open Go.RowKit
section
section
variable {P : Program}
theorem results_ctt {fn : Func} {p u v : Tmp} {ty : TypeId} (h : fn.results = #[.cell p ty, .tmp u, .tmp v]) (tmps : Array Value) (w : World) (g : Nat) (t : TypeId) (cs : Array Value) (fr : Nat × Nat) (d : TypeDesc)
 (hp:tmps.getD p undef= .pointer (some ⟨g,0,none⟩)) (hg:w.heap[g]? =some (.cells cs t fr))
 (hu:P.underlying ty=some d) (hd:(match d with| .struct _| .array _ _=>true|_=>false)=true) (hi:(P.info? ty).map (·.size)=some cs.size):
 (results fn tmps).run P w= .ok (.tuple #[.agg cs,tmps.getD u undef,tmps.getD v undef]) w:=by
 have hp':tmps[p]?.getD undef= .pointer (some ⟨g,0,none⟩):=by simpa using hp
 simp [results,h,hp',asAddr,run_loadVar_row w g t ty cs fr d hg hu hd hi]
end
theorem cell_far {W : World} {p a : Addr} (h : a.block ≠ p.block) (u : Value) : (W.setCell p u).cell? a = W.cell? a := by
 have := Below.heap_setCell W p u a.block h
 simp [World.cell?, this]
end
end Go.Proofs.YtcbjpdaogicibaaW.PrintWords
end
section
namespace Go.Proofs.Ytcbjpdaogicibaa
section
variable {p : Prop}
open Go.RowKit Go.Proofs.YtcbjpdaogicibaaW.PrintWords Go.Proofs.YtcbjpdaogicibaaW.PrintLast
theorem zqt {p : Prop} (h : p := by intro w'; go_simp; with_reducible rfl) : p := h
theorem zq8 (h:p:=by repeat(first|exact(Kd.Q_reads' a2.out).2.2|(with_reducible refine Kd.C_alloc ?_ _)|(with_reducible refine Kd.C_drewN ?_ _)|(with_reducible refine Kd.C_drew ?_))):p:=h
theorem zq9 (h:p:=by repeat(first|exact(Kd.S_reads' a1.out).2.2|(with_reducible refine Kd.C_alloc ?_ _)|(with_reducible refine Kd.C_drewN ?_ _)|(with_reducible refine Kd.C_drew ?_))):p:=h
theorem zq16 (h:p:=by repeat(first|(with_reducible first|exact a0.out|apply IsS110.alloc|apply IsS110.drewN|apply IsS110.drew|apply IsS110.set_1|refine IsS110.far ?_ a2.out _|refine IsS110.far ?_ a6.out _)|exact a0.out)):p:=h
theorem zq18 (h:p:=by repeat(first|(with_reducible first|exact HB.out|apply below_alloc|apply pw_below_drewN|apply below_drew1|refine below_set ?_ (IsS110.ge a0.out)|refine below_set ?_ a8.out)|exact HB.out)):p:=h
theorem zq27 (h:p:=by repeat(first|(with_reducible first|exact HB.out|apply below_alloc|apply pw_below_drewN|apply below_drew1|refine below_set ?_ (IsS110.ge a0.out)|refine below_set ?_ a8.out|refine below_set ?_ c3.out)|exact HB.out)):p:=h
theorem zq28 (h:p:=by repeat(first|(with_reducible first|exact a0.out|apply IsS110.alloc|apply IsS110.drewN|apply IsS110.drew|apply IsS110.set_1|refine IsS110.far ?_ a2.out _)|exact a0.out)):p:=h
theorem zq35 (h:p:=by exact(Kd.Q_reads' a2.out).2.1):p:=h
theorem zq36 (h:p:=by exact(Kd.S_reads' a1.out).2.1):p:=h
theorem zq44 (h:p:=by repeat(first|exact(Kd.C_below b1.out HB.out)|(with_reducible refine Kd.C_alloc ?_ _)|(with_reducible refine Kd.C_drewN ?_ _)|(with_reducible refine Kd.C_drew ?_))):p:=h
theorem zq53 (h:p:=by repeat(first|exact f6.out|(with_reducible refine Kd.C_alloc ?_ _)|(with_reducible refine Kd.C_drewN ?_ _)|(with_reducible refine Kd.C_drew ?_))):p:=h
theorem zq67 (h:p:=by repeat(first|exact(Kd.C_below b2.out HB.out)|(with_reducible refine Kd.C_alloc ?_ _)|(with_reducible refine Kd.C_drewN ?_ _)|(with_reducible refine Kd.C_drew ?_))):p:=h
theorem zq73 (h:p:=by repeat(first|exact HB4.out|apply pw_below_drewN|apply below_drew1|apply below_alloc|apply below_set)):p:=h
theorem zq83 (h:p:=by repeat(first|exact(Kd.C_below b1.out (by repeat(first|(with_reducible first|exact HB.out|apply below_alloc|apply pw_below_drewN|apply below_drew1|refine below_set ?_ a5.out)|exact HB.out)))|(with_reducible refine Kd.C_alloc ?_ _)|(with_reducible refine Kd.C_drewN ?_ _)|(with_reducible refine Kd.C_drew ?_))):p:=h
theorem zq110 (h:p:=by refine zqfQ ?_;exact(Kd.Q_mono (Kd.Q_far (p:=⟨a3,1,none⟩) (Kd.Q_far (p:=⟨a3,0,none⟩) (Kd.Q_types a2.out a0.out (by decide)) (fun _ hk=>hk.2) (.slice b2 a4.length b0)) (fun _ hk=>hk.2) (.slice b3 a5.length b1)) (fun _ h_=>h_.1))):p:=h
theorem zq112 (h:p:=by refine zqfQ ?_;exact(Kd.Q_mono (Kd.Q_far (p:=⟨a3,1,none⟩) (Kd.Q_far (p:=⟨a3,0,none⟩) (Kd.Q_types a2.out a0.out (by decide)) (fun _ hk=>hk.2) (.slice b6 a4.length b4)) (fun _ hk=>hk.2) (.slice b7 a5.length b5)) (fun _ h_=>h_.1))):p:=h
theorem zq114 (h:p:=by refine zqfQ ?_;exact(Kd.Q_mono (Kd.Q_far (p:=⟨a3,1,none⟩) (Kd.Q_far (p:=⟨a3,0,none⟩) (Kd.Q_types a2.out a0.out (by decide)) (fun _ hk=>hk.2) (.slice c3 a4.length b8)) (fun _ hk=>hk.2) (.slice c4 a5.length b9)) (fun _ h_=>h_.1))):p:=h
theorem zq116 (h:p:=by refine zqfQ ?_;exact(Kd.Q_mono (Kd.Q_far (p:=⟨a3,1,none⟩) (Kd.Q_far (p:=⟨a3,0,none⟩) (Kd.Q_types a2.out a0.out (by decide)) (fun _ hk=>hk.2) (.slice d1 a4.length c9)) (fun _ hk=>hk.2) (.slice d2 a5.length d0)) (fun _ h_=>h_.1))):p:=h
theorem zq117 (h:p:=by refine zqfQ ?_;exact(Kd.Q_mono (Kd.Q_far (p:=⟨a3,1,none⟩) (Kd.Q_far (p:=⟨a3,0,none⟩) (Kd.Q_types a2.out a0.out (by decide)) (fun _ hk=>hk.2) (.slice d3 a4.length c7)) (fun _ hk=>hk.2) (.slice d4 a5.length c8)) (fun _ h_=>h_.1))):p:=h
theorem zq121 (h:p:=by refine zqfQ ?_;exact(Kd.Q_mono (Kd.Q_far (p:=⟨a3,1,none⟩) (Kd.Q_far (p:=⟨a3,0,none⟩) (Kd.Q_types a2.out a0.out (by decide)) (fun _ hk=>hk.2) (.slice e4 a4.length e2)) (fun _ hk=>hk.2) (.slice e5 a5.length e3)) (fun _ h_=>h_.1))):p:=h
theorem zq124 (h:p:=by refine zqfQ ?_;exact(Kd.Q_mono (Kd.Q_far (p:=⟨a3,1,none⟩) (Kd.Q_far (p:=⟨a3,0,none⟩) (Kd.Q_types a2.out a0.out (by decide)) (fun _ hk=>hk.2) (.slice f4 a4.length f1)) (fun _ hk=>hk.2) (.slice e7 a5.length e6)) (fun _ h_=>h_.1))):p:=h
theorem zq129 (h:p:=by refine zqfS ?_;exact(Kd.S_mono (Kd.S_far (p:=⟨a3,1,none⟩) (Kd.S_far (p:=⟨a3,0,none⟩) (Kd.S_types a1.out a0.out (by decide)) (fun _ hk=>hk.2) (.slice b2 a4.length b0)) (fun _ hk=>hk.2) (.slice b3 a5.length b1)) (fun _ h_=>h_.1))):p:=h
theorem zq131 (h:p:=by refine zqfS ?_;exact(Kd.S_mono (Kd.S_far (p:=⟨a3,1,none⟩) (Kd.S_far (p:=⟨a3,0,none⟩) (Kd.S_types a1.out a0.out (by decide)) (fun _ hk=>hk.2) (.slice b6 a4.length b4)) (fun _ hk=>hk.2) (.slice b7 a5.length b5)) (fun _ h_=>h_.1))):p:=h
theorem zq133 (h:p:=by refine zqfS ?_;exact(Kd.S_mono (Kd.S_far (p:=⟨a3,1,none⟩) (Kd.S_far (p:=⟨a3,0,none⟩) (Kd.S_types a1.out a0.out (by decide)) (fun _ hk=>hk.2) (.slice c3 a4.length b8)) (fun _ hk=>hk.2) (.slice c4 a5.length b9)) (fun _ h_=>h_.1))):p:=h
theorem zq135 (h:p:=by refine zqfS ?_;exact(Kd.S_mono (Kd.S_far (p:=⟨a3,1,none⟩) (Kd.S_far (p:=⟨a3,0,none⟩) (Kd.S_types a1.out a0.out (by decide)) (fun _ hk=>hk.2) (.slice d1 a4.length c9)) (fun _ hk=>hk.2) (.slice d2 a5.length d0)) (fun _ h_=>h_.1))):p:=h
theorem zq136 (h:p:=by refine zqfS ?_;exact(Kd.S_mono (Kd.S_far (p:=⟨a3,1,none⟩) (Kd.S_far (p:=⟨a3,0,none⟩) (Kd.S_types a1.out a0.out (by decide)) (fun _ hk=>hk.2) (.slice d3 a4.length c7)) (fun _ hk=>hk.2) (.slice d4 a5.length c8)) (fun _ h_=>h_.1))):p:=h
theorem zq140 (h:p:=by refine zqfS ?_;exact(Kd.S_mono (Kd.S_far (p:=⟨a3,1,none⟩) (Kd.S_far (p:=⟨a3,0,none⟩) (Kd.S_types a1.out a0.out (by decide)) (fun _ hk=>hk.2) (.slice e4 a4.length e2)) (fun _ hk=>hk.2) (.slice e5 a5.length e3)) (fun _ h_=>h_.1))):p:=h
theorem zq143 (h:p:=by refine zqfS ?_;exact(Kd.S_mono (Kd.S_far (p:=⟨a3,1,none⟩) (Kd.S_far (p:=⟨a3,0,none⟩) (Kd.S_types a1.out a0.out (by decide)) (fun _ hk=>hk.2) (.slice f4 a4.length f1)) (fun _ hk=>hk.2) (.slice e7 a5.length e6)) (fun _ h_=>h_.1))):p:=h
theorem zq146 (h:p:=by refine zqe ?_;refine blk_far ?_ b4.out _;refine zqe ?_;refine blk_far ?_ b4.out _;refine zqe ?_;exact a1.out):p:=h
theorem zq162 (h:p:=by repeat (first | exact HB1.out | apply below_alloc | apply pw_below_drewN | apply below_drew1)):p:=h
theorem zq171 (h:p:=by (try simp only [List.map_toArray, List.map_cons, List.map_nil]); first | done | rfl):p:=h
theorem zq184 (h:p:=by repeat (first | exact HB3.out | apply below_alloc | apply pw_below_drewN | apply below_drew1)):p:=h
theorem zq200 (h:p:=by repeat(first|exact HB3.out|apply pw_below_drewN|apply below_drew1)):p:=h
theorem zq218 (h:p:=by first | (rw [← HSI.out]; exact HJj.out) | (rw [← HSI.out]; exact HD.out _ _ _ HJj.out)):p:=h
theorem zq243 (h:p:=by repeat(first|exact HB4.out|apply pw_below_drewN|apply below_drew1)):p:=h
theorem zq244 (h:p:=by exact View.alloc HV.out _):p:=h
end
end Go.Proofs.Ytcbjpdaogicibaa
end
section
namespace Go.Proofs.Ytcbjpdaogicibaa.Print
open Go.RowKit Go.Proofs.YtcbjpdaogicibaaW.PrintWords Go.Proofs.YtcbjpdaogicibaaW.PrintLast Go.Proofs.YtcbjpdaogicibaaW.PrintMore
def spec_DrawSameOk.f (k : Nat) (l0 : List Int) : Option ((List (List Int)) × List Int × ByteArray × ByteArray) := (spec_l20Open.f l0).bind fun bt1043 => ((spec_l20Logic.f k bt1043.1 bt1043.2 14).bind fun bt1046 => ((spec_l20Formed.f k bt1043.1 bt1046.2.2 14).bind fun bt1054 => ((spec_l20Rd_pick.f k bt1043.1 bt1054.2 4).bind fun bt1056 => (if bt1056.1 = 0 then (some (bt1046.1, bt1046.2.1, (⟨#[40, 97, 124, 40, 33, 97, 38, 40, 97, 124, 98, 41, 41, 41]⟩ : ByteArray), (⟨#[40, 97, 124, 98, 41]⟩ : ByteArray))) else (if bt1056.1 = 1 then (some (bt1046.1, bt1046.2.1, (⟨#[40, 97, 38, 40, 98, 124, 99, 41, 41]⟩ : ByteArray), (⟨#[40, 40, 97, 38, 98, 41, 124, 40, 97, 38, 99, 41, 41]⟩ : ByteArray))) else (if bt1056.1 = 2 then (if 2 + bt1054.1.size ≤ 9223372036854775807 then (some (bt1046.1, bt1046.2.1, bt1054.1, (⟨#[33, 33]⟩ : ByteArray) ++ bt1054.1)) else (none)) else ((spec_l20Formed.f k bt1043.1 bt1056.2 14).bind fun bt1058 => (some (bt1046.1, bt1046.2.1, bt1054.1, bt1058.1)))))))))
set_option maxHeartbeats 8000000 in
set_option maxRecDepth 100000 in
theorem spec_DrawSameOk.calls (k : Nat) (A0 : Option Addr) (c0 : Nat) (l0 : List Int) (r1 : List (List Int)) (r2 : List Int) (r3 : ByteArray) (r4 : ByteArray) (w : World) (hr0 : Kd.C (Kd.int .u8) w A0 l0.length l0) (hc0 : l0.length ≤ c0) (h : spec_DrawSameOk.f k l0 = some (r1, r2, r3, r4)) :
  Calls Try.prog 52 #[.slice A0 l0.length c0] w fun e w' => ∃ v0_ v1_ : Value, e = .returned (.tuple #[.agg #[v0_, v1_], .string r3, .string r4]) ∧ Kd.S (Kd.slice 3 (Kd.int .i64)) 24 w' w.heap.size (fun k_ => some k_ ≠ (v1_ : Value).ownBlock) v0_ r1 ∧ Kd.Q (Kd.int .i64) 3 w' w.heap.size (fun _ => True) v1_ r2 ∧ Below w.heap.size w w' := by
 have hu26:=Try.underlying26;have g1:=zqm hr0;have g0:=zqm hc0;clear hr0 hc0;have HB:=zqm (Below.refl w.heap.size w);have H:((spec_l20Open.f l0).bind fun e4=>((spec_l20Logic.f k e4.1 e4.2 14).bind fun b8=>((spec_l20Formed.f k e4.1 b8.2.2 14).bind fun c2=>((spec_l20Rd_pick.f k e4.1 c2.2 4).bind fun b9=>(if b9.1=0 then(some (b8.1,b8.2.1,(⟨#[40,97,124,40,33,97,38,40,97,124,98,41,41,41]⟩:ByteArray),(⟨#[40,97,124,98,41]⟩:ByteArray))) else(if b9.1=1 then(some (b8.1,b8.2.1,(⟨#[40,97,38,40,98,124,99,41,41]⟩:ByteArray),(⟨#[40,40,97,38,98,41,124,40,97,38,99,41,41]⟩:ByteArray))) else(if b9.1=2 then(if 2+c2.1.size≤9223372036854775807 then(some (b8.1,b8.2.1,c2.1,(⟨#[33,33]⟩:ByteArray) ++ c2.1)) else(none)) else((spec_l20Formed.f k e4.1 b9.2 14).bind fun c8=>(some (b8.1,b8.2.1,c2.1,c8.1))))))))))=some (r1,r2,r3,r4):=h;clear h;replace H:=Option.bind_eq_some_iff.mp H;obtain⟨⟨a9,c9⟩,h2,H⟩:=H;replace H:((spec_l20Logic.f k a9 c9 14).bind fun b8=>((spec_l20Formed.f k a9 b8.2.2 14).bind fun c2=>((spec_l20Rd_pick.f k a9 c2.2 4).bind fun b9=>(if b9.1=0 then(some (b8.1,b8.2.1,(⟨#[40,97,124,40,33,97,38,40,97,124,98,41,41,41]⟩:ByteArray),(⟨#[40,97,124,98,41]⟩:ByteArray))) else(if b9.1=1 then(some (b8.1,b8.2.1,(⟨#[40,97,38,40,98,124,99,41,41]⟩:ByteArray),(⟨#[40,40,97,38,98,41,124,40,97,38,99,41,41]⟩:ByteArray))) else(if b9.1=2 then(if 2+c2.1.size≤9223372036854775807 then(some (b8.1,b8.2.1,c2.1,(⟨#[33,33]⟩:ByteArray) ++ c2.1)) else(none)) else((spec_l20Formed.f k a9 b9.2 14).bind fun c8=>(some (b8.1,b8.2.1,c2.1,c8.1)))))))))=some (r1,r2,r3,r4):=H;have A2:=zqm h2;clear h2;replace H:=Option.bind_eq_some_iff.mp H;obtain⟨⟨a7,b0,b7⟩,h3,H⟩:=H;replace H:((spec_l20Formed.f k a9 b7 14).bind fun c2=>((spec_l20Rd_pick.f k a9 c2.2 4).bind fun b9=>(if b9.1=0 then(some (a7,b0,(⟨#[40,97,124,40,33,97,38,40,97,124,98,41,41,41]⟩:ByteArray),(⟨#[40,97,124,98,41]⟩:ByteArray))) else(if b9.1=1 then(some (a7,b0,(⟨#[40,97,38,40,98,124,99,41,41]⟩:ByteArray),(⟨#[40,40,97,38,98,41,124,40,97,38,99,41,41]⟩:ByteArray))) else(if b9.1=2 then(if 2+c2.1.size≤9223372036854775807 then(some (a7,b0,c2.1,(⟨#[33,33]⟩:ByteArray) ++ c2.1)) else(none)) else((spec_l20Formed.f k a9 b9.2 14).bind fun c8=>(some (a7,b0,c2.1,c8.1))))))))=some (r1,r2,r3,r4):=H;have A3:=zqm h3;clear h3;replace H:=Option.bind_eq_some_iff.mp H;obtain⟨⟨c5,c4⟩,h4,H⟩:=H;replace H:((spec_l20Rd_pick.f k a9 c4 4).bind fun b9=>(if b9.1=0 then(some (a7,b0,(⟨#[40,97,124,40,33,97,38,40,97,124,98,41,41,41]⟩:ByteArray),(⟨#[40,97,124,98,41]⟩:ByteArray))) else(if b9.1=1 then(some (a7,b0,(⟨#[40,97,38,40,98,124,99,41,41]⟩:ByteArray),(⟨#[40,40,97,38,98,41,124,40,97,38,99,41,41]⟩:ByteArray))) else(if b9.1=2 then(if 2+c5.size≤9223372036854775807 then(some (a7,b0,c5,(⟨#[33,33]⟩:ByteArray) ++ c5)) else(none)) else((spec_l20Formed.f k a9 b9.2 14).bind fun c8=>(some (a7,b0,c5,c8.1)))))))=some (r1,r2,r3,r4):=H;have A4:=zqm h4;clear h4;replace H:=Option.bind_eq_some_iff.mp H;obtain⟨⟨c1,d2⟩,h5,H⟩:=H;replace H:(if c1=0 then(some (a7,b0,(⟨#[40,97,124,40,33,97,38,40,97,124,98,41,41,41]⟩:ByteArray),(⟨#[40,97,124,98,41]⟩:ByteArray))) else(if c1=1 then(some (a7,b0,(⟨#[40,97,38,40,98,124,99,41,41]⟩:ByteArray),(⟨#[40,40,97,38,98,41,124,40,97,38,99,41,41]⟩:ByteArray))) else(if c1=2 then(if 2+c5.size≤9223372036854775807 then(some (a7,b0,c5,(⟨#[33,33]⟩:ByteArray) ++ c5)) else(none)) else((spec_l20Formed.f k a9 d2 14).bind fun c8=>(some (a7,b0,c5,c8.1))))))=some (r1,r2,r3,r4):=H;have A5:=zqm h5;clear h5
 by_cases c6:c1=0
 ·rw [if_pos c6] at H;have i1:(c1==0)=true:=beq_iff_eq.mpr c6;have i2:(c1 !=0)=false:=bne_eq_false_iff_eq.mpr c6;clear c6;simp only [Option.some.injEq,Prod.mk.injEq] at H;obtain⟨rfl,rfl,rfl,rfl⟩:=H
  go_enter Try.func52,Try.ntmps52
  go_wp2_with (first|((with_reducible refine gate_dst (N:=2) rfl ?_);refine box_event ?hg (N:=2) ?hd (cs:= #[.slice none 0 0,.slice none 0 0]) (t:=26) ?hr ?_;(case hd=>rfl);(case hg=>rfl);(case hr=> exact zq17);intro a3 hg w7 hbox hb;have c7:=zqm (below_step zq0 hb);have a1:=zqm (hbox);have f3:=zqm ((by rw [hg];exact(below_size zq0):w.heap.size≤a3));have a8:=zqm ((by rw [hg];exact(below_size zq0):w.heap.size≤a3));clear HB;have HB:=c7;clear c7 hb hbox hg)|((with_reducible refine gate_callee (f:=69) rfl ?_);refine goesL_ (some 9) rfl rfl Try.func69 zqk rfl #[.slice A0 l0.length c0] rfl zq1 ?_;(with_reducible refine(spec_l20Open.calls _ _ l0 a9 c9 w _ ?side1 ?side2 ?side3 A2.out).mono ?_);(case side1=> exact zq25);(case side2=>exact g1.out);(case side3=>exact g0.out);rintro e w8 ⟨g1045,rfl,hi,hb,hb2⟩;refine⟨_,rfl,?_⟩;have c7:=zqm (blk_below (g:=a3) (o:= .cells #[.slice none 0 0,.slice none 0 0] 26 (0,0)) (zqe a1.out) hb2);replace HB:=zqm (hb);have a0:=zqm (hi);have a2:=zqm (IsS110.ne_blk hi (blk_below (g:=a3) (o:= .cells #[.slice none 0 0,.slice none 0 0] 26 (0,0)) (zqe a1.out) hb2) (by decide));have b3:=zqm (Ne.symm (IsS110.ne_blk hi (blk_below (g:=a3) (o:= .cells #[.slice none 0 0,.slice none 0 0] 26 (0,0)) (zqe a1.out) hb2) (by decide)));clear a1;have a1:=c7;clear c7 hb hb2 hi)|((with_reducible refine gate_callee (f:=68) rfl ?_);refine goesL_ (some 11) rfl rfl Try.func68 zqk rfl #[.pointer (some ⟨g1045,0,none⟩),.int .i64 14] rfl zq1 ?_;(with_reducible refine(spec_l20Logic.calls k g1045 a9 c9 14 a7 b0 b7 w _ ?side1 ?side2 A3.out).mono ?_);(case side1=> exact zq28);(case side2=> exact zq18);rintro e w9 ⟨f7,f8,rfl,e8,e9,hi,hb,hk⟩;refine⟨_,rfl,?_⟩;replace a1:=zqm (KeepBut.blk hk (g':=a3) (o:= .cells #[.slice none 0 0,.slice none 0 0] 26 (0,0)) (zqe a1.out) b3.out (by simp));have b1:=zqm (Kd.S_lower e8 (below_size zq18));have b2:=zqm (Kd.Q_lower e9 (below_size zq18));replace HB:=zqm (hb);replace a0:=zqm (hi);clear hb hk hi e8 e9)|((with_reducible refine gate_dst (N:=6) rfl ?_);refine box_event ?hg (N:=6) ?hd (cs:= #[.slice none 0 0,.slice none 0 0]) (t:=26) ?hr ?_;(case hd=>rfl);(case hg=>rfl);(case hr=> exact zq17);intro a4 hg h6 hbox hb;replace b1:=zqm (Kd.S_below (zqfS b1.out) hb);replace b2:=zqm (Kd.Q_below (zqfQ b2.out) hb);have f0:=zqm (blk_below (g:=a3) (o:= .cells #[.slice none 0 0,.slice none 0 0] 26 (0,0)) (zqe a1.out) hb);have f1:=zqm (IsS110.below zq28 hb);have f2:=zqm (below_step zq18 hb);have a5:=zqm (hbox);have f4:=zqm ((by rw [hg];exact(below_size zq18):w.heap.size≤a4));have c3:=zqm ((by rw [hg];exact(below_size zq18):w.heap.size≤a4));have b4:=zqm ((by rw [hg];exact Nat.ne_of_lt (blk_lt (g:=a3) (o:= .cells #[.slice none 0 0,.slice none 0 0] 26 (0,0)) (zqe a1.out)):a3≠a4));have b6:=zqm ((by rw [hg];exact Nat.ne_of_gt (blk_lt (g:=a3) (o:= .cells #[.slice none 0 0,.slice none 0 0] 26 (0,0)) (zqe a1.out)):a4≠a3));have a6:=zqm ((by rw [hg];exact Nat.ne_of_lt (IsS110.lt (show IsS110 w _ g1045 a9 b7 from zq28)):g1045≠a4));have b5:=zqm ((by rw [hg];exact Nat.ne_of_gt (IsS110.lt (show IsS110 w _ g1045 a9 b7 from zq28)):a4≠g1045));clear a1 a0 HB;have a1:=f0;have a0:=f1;have HB:=f2;clear f0 f1 f2 hb hbox hg;obtain⟨d3,d6,i3⟩:=Kd.S_slice b1.out;subst i3;have n7:=b6.out;have o8:=b4.out;have n8:=b5.out;have o9:=a6.out;have j1:h6.cell? ⟨a4,0,none⟩=some (.slice none 0 0):=(blk_cell a5.out 0).trans rfl;have j2:h6.cell? ⟨a4,1,none⟩=some (.slice none 0 0):=(blk_cell a5.out 1).trans rfl;have l2:=blk_frozen a5.out 0;have l3:=blk_frozen a5.out 1;obtain⟨e1,e5,i4,_⟩:=Kd.Q_slice b2.out;subst i4)|((with_reducible refine gate_callee (f:=102) rfl ?_);refine goesL_ (some 13) rfl rfl Try.func102 zqk rfl #[.pointer (some ⟨g1045,0,none⟩),.int .i64 14] rfl zq1 ?_;(with_reducible refine(spec_l20Formed.calls k g1045 a9 b7 14 c5 c4 w _ ?side1 ?side2 A4.out).mono ?_);(case side1=> exact zq16);(case side2=> exact zq27);rintro e p9 ⟨rfl,hi,hb,hk⟩;refine⟨_,rfl,?_⟩;replace a1:=zqm (KeepBut.blk hk (g':=a3) (o:= .cells #[.slice none 0 0,.slice none 0 0] 26 (0,0)) zq146 b3.out (by simp));replace b1:=zqm (Kd.S_mono (Kd.S_keep (IsS110.apartS (show IsS110 w _ g1045 a9 b7 from zq16) (by refine zqfS ?_;exact(Kd.S_mono (Kd.S_far (p:=⟨a4,1,none⟩) (Kd.S_far (p:=⟨a4,0,none⟩) (Kd.S_types b1.out a5.out (by decide)) (fun _ hk=>hk.2) (.slice d3 a7.length d6)) (fun _ hk=>hk.2) (.slice e1 b0.length e5)) (fun _ h_=>h_.1))) (by decide)) hk (fun _ h=>h.2)) (fun _ h=>h.1));replace b2:=zqm (Kd.Q_mono (Kd.Q_keep (IsS110.apartQ (show IsS110 w _ g1045 a9 b7 from zq16) (by refine zqfQ ?_;exact(Kd.Q_mono (Kd.Q_far (p:=⟨a4,1,none⟩) (Kd.Q_far (p:=⟨a4,0,none⟩) (Kd.Q_types b2.out a5.out (by decide)) (fun _ hk=>hk.2) (.slice d3 a7.length d6)) (fun _ hk=>hk.2) (.slice e1 b0.length e5)) (fun _ h_=>h_.1))) (by decide)) hk (fun _ h=>h.2)) (fun _ h=>h.1));replace a5:=zqm (KeepBut.blk hk (g':=a4) (o:= .cells #[.slice d3 a7.length d6,.slice e1 b0.length e5] 26 (0,0)) (by refine zqe ?_;refine blk_put (cs:= #[.slice d3 a7.length d6,.slice none 0 0]) ?_ 1 _ rfl;refine zqe ?_;refine blk_put (cs:= #[.slice none 0 0,.slice none 0 0]) ?_ 0 _ rfl;refine zqe ?_;exact a5.out) b5.out (by simp));replace HB:=zqm (hb);replace a0:=zqm (hi);clear hb hk hi)|((with_reducible refine gate_callee (f:=91) rfl ?_);refine goesL_ (some 15) rfl rfl Try.func91 zqk rfl #[.pointer (some ⟨g1045,0,none⟩),.int .i64 4] rfl zq1 ?_;(with_reducible refine(spec_l20Rd_pick.calls k g1045 a9 c4 4 c1 d2 w _ ?side1 ?side2 A5.out).mono ?_);(case side1=> exact zq16);(case side2=> exact zq27);rintro e g3 ⟨rfl,hi,hb,hk⟩;refine⟨_,rfl,?_⟩;replace a1:=zqm (KeepBut.blk hk (g':=a3) (o:= .cells #[.slice none 0 0,.slice none 0 0] 26 (0,0)) (zqe a1.out) b3.out (by simp));replace b1:=zqm (Kd.S_mono (Kd.S_keep (IsS110.apartS (show IsS110 w _ g1045 a9 c4 from zq16) (zqfS b1.out) (by decide)) hk (fun _ h=>h.2)) (fun _ h=>h.1));replace b2:=zqm (Kd.Q_mono (Kd.Q_keep (IsS110.apartQ (show IsS110 w _ g1045 a9 c4 from zq16) (zqfQ b2.out) (by decide)) hk (fun _ h=>h.2)) (fun _ h=>h.1));replace a5:=zqm (KeepBut.blk hk (g':=a4) (o:= .cells #[.slice d3 a7.length d6,.slice e1 b0.length e5] 26 (0,0)) (zqe a5.out) b5.out (by simp));replace HB:=zqm (hb);replace a0:=zqm (hi);clear hb hk hi;have j3:g3.cell? ⟨a4,0,none⟩=some (.slice d3 a7.length d6):=(blk_cell a5.out 0).trans rfl;have j4:g3.cell? ⟨a4,1,none⟩=some (.slice e1 b0.length e5):=(blk_cell a5.out 1).trans rfl;have l4:=blk_frozen a5.out 0;have l5:=blk_frozen a5.out 1;have n9:=b3.out;have p0:=a2.out;have j5:g3.cell? ⟨a3,0,none⟩=some (.slice none 0 0):=(blk_cell a1.out 0).trans rfl;have j6:g3.cell? ⟨a3,1,none⟩=some (.slice none 0 0):=(blk_cell a1.out 1).trans rfl;have l6:=blk_frozen a1.out 0;have l7:=blk_frozen a1.out 1))
  refine bodyPost_ret (results_ctt rfl _ _ a3 26 #[.slice d3 a7.length d6,.slice e1 b0.length e5] (0,0) _ rfl (by refine zqe ?_;refine blk_put (cs:= #[.slice d3 a7.length d6,.slice none 0 0]) ?_ 1 _ rfl;refine zqe ?_;refine blk_put (cs:= #[.slice none 0 0,.slice none 0 0]) ?_ 0 _ rfl;refine zqe ?_;exact a1.out) Try.underlying26 rfl zqk) rfl ?_;exact⟨_,_,zq13,by refine zqfS ?_;exact Kd.S_mono (Kd.S_far (p:=⟨a3,1,none⟩) (Kd.S_far (p:=⟨a3,0,none⟩) (Kd.S_types b1.out a1.out (by decide)) (fun _ hk=>hk.2) (.slice d3 a7.length d6)) (fun _ hk=>hk.2) (.slice e1 b0.length e5)) (fun _ hk=>hk.1),by refine zqfQ ?_;exact Kd.Q_mono (Kd.Q_far (p:=⟨a3,1,none⟩) (Kd.Q_far (p:=⟨a3,0,none⟩) (Kd.Q_types b2.out a1.out (by decide)) (fun _ hk=>hk.2) (.slice d3 a7.length d6)) (fun _ hk=>hk.2) (.slice e1 b0.length e5)) (fun _ hk=>trivial),zq27⟩
 ·rw [if_neg c6] at H;have i1:(c1==0)=false:=beq_eq_false_iff_ne.mpr c6;have i2:(c1 !=0)=true:=bne_iff_ne.mpr c6
  by_cases f5:c1=1
  ·rw [if_pos f5] at H;have g7:(c1==1)=true:=beq_iff_eq.mpr f5;have g8:(c1 !=1)=false:=bne_eq_false_iff_eq.mpr f5;clear f5;simp only [Option.some.injEq,Prod.mk.injEq] at H;obtain⟨rfl,rfl,rfl,rfl⟩:=H
   go_enter Try.func52,Try.ntmps52
   go_wp2_with (first|((with_reducible refine gate_dst (N:=2) rfl ?_);refine box_event ?hg (N:=2) ?hd (cs:= #[.slice none 0 0,.slice none 0 0]) (t:=26) ?hr ?_;(case hd=>rfl);(case hg=>rfl);(case hr=> exact zq17);intro a3 hg q0 hbox hb;have c7:=zqm (below_step zq0 hb);have a1:=zqm (hbox);have f3:=zqm ((by rw [hg];exact(below_size zq0):w.heap.size≤a3));have a8:=zqm ((by rw [hg];exact(below_size zq0):w.heap.size≤a3));clear HB;have HB:=c7;clear c7 hb hbox hg)|((with_reducible refine gate_callee (f:=69) rfl ?_);refine goesL_ (some 9) rfl rfl Try.func69 zqk rfl #[.slice A0 l0.length c0] rfl zq1 ?_;(with_reducible refine(spec_l20Open.calls _ _ l0 a9 c9 w _ ?side1 ?side2 ?side3 A2.out).mono ?_);(case side1=> exact zq25);(case side2=>exact g1.out);(case side3=>exact g0.out);rintro e q1 ⟨g1045,rfl,hi,hb,hb2⟩;refine⟨_,rfl,?_⟩;have c7:=zqm (blk_below (g:=a3) (o:= .cells #[.slice none 0 0,.slice none 0 0] 26 (0,0)) (zqe a1.out) hb2);replace HB:=zqm (hb);have a0:=zqm (hi);have a2:=zqm (IsS110.ne_blk hi (blk_below (g:=a3) (o:= .cells #[.slice none 0 0,.slice none 0 0] 26 (0,0)) (zqe a1.out) hb2) (by decide));have b3:=zqm (Ne.symm (IsS110.ne_blk hi (blk_below (g:=a3) (o:= .cells #[.slice none 0 0,.slice none 0 0] 26 (0,0)) (zqe a1.out) hb2) (by decide)));clear a1;have a1:=c7;clear c7 hb hb2 hi)|((with_reducible refine gate_callee (f:=68) rfl ?_);refine goesL_ (some 11) rfl rfl Try.func68 zqk rfl #[.pointer (some ⟨g1045,0,none⟩),.int .i64 14] rfl zq1 ?_;(with_reducible refine(spec_l20Logic.calls k g1045 a9 c9 14 a7 b0 b7 w _ ?side1 ?side2 A3.out).mono ?_);(case side1=> exact zq28);(case side2=> exact zq18);rintro e q2 ⟨f7,f8,rfl,e8,e9,hi,hb,hk⟩;refine⟨_,rfl,?_⟩;replace a1:=zqm (KeepBut.blk hk (g':=a3) (o:= .cells #[.slice none 0 0,.slice none 0 0] 26 (0,0)) (zqe a1.out) b3.out (by simp));have b1:=zqm (Kd.S_lower e8 (below_size zq18));have b2:=zqm (Kd.Q_lower e9 (below_size zq18));replace HB:=zqm (hb);replace a0:=zqm (hi);clear hb hk hi e8 e9)|((with_reducible refine gate_dst (N:=6) rfl ?_);refine box_event ?hg (N:=6) ?hd (cs:= #[.slice none 0 0,.slice none 0 0]) (t:=26) ?hr ?_;(case hd=>rfl);(case hg=>rfl);(case hr=> exact zq17);intro a4 hg h7 hbox hb;replace b1:=zqm (Kd.S_below (zqfS b1.out) hb);replace b2:=zqm (Kd.Q_below (zqfQ b2.out) hb);have f0:=zqm (blk_below (g:=a3) (o:= .cells #[.slice none 0 0,.slice none 0 0] 26 (0,0)) (zqe a1.out) hb);have f1:=zqm (IsS110.below zq28 hb);have f2:=zqm (below_step zq18 hb);have a5:=zqm (hbox);have f4:=zqm ((by rw [hg];exact(below_size zq18):w.heap.size≤a4));have c3:=zqm ((by rw [hg];exact(below_size zq18):w.heap.size≤a4));have b4:=zqm ((by rw [hg];exact Nat.ne_of_lt (blk_lt (g:=a3) (o:= .cells #[.slice none 0 0,.slice none 0 0] 26 (0,0)) (zqe a1.out)):a3≠a4));have b6:=zqm ((by rw [hg];exact Nat.ne_of_gt (blk_lt (g:=a3) (o:= .cells #[.slice none 0 0,.slice none 0 0] 26 (0,0)) (zqe a1.out)):a4≠a3));have a6:=zqm ((by rw [hg];exact Nat.ne_of_lt (IsS110.lt (show IsS110 w _ g1045 a9 b7 from zq28)):g1045≠a4));have b5:=zqm ((by rw [hg];exact Nat.ne_of_gt (IsS110.lt (show IsS110 w _ g1045 a9 b7 from zq28)):a4≠g1045));clear a1 a0 HB;have a1:=f0;have a0:=f1;have HB:=f2;clear f0 f1 f2 hb hbox hg;obtain⟨d4,d7,i5⟩:=Kd.S_slice b1.out;subst i5;have o0:=b6.out;have p1:=b4.out;have o1:=b5.out;have p2:=a6.out;have j7:h7.cell? ⟨a4,0,none⟩=some (.slice none 0 0):=(blk_cell a5.out 0).trans rfl;have j8:h7.cell? ⟨a4,1,none⟩=some (.slice none 0 0):=(blk_cell a5.out 1).trans rfl;have l8:=blk_frozen a5.out 0;have l9:=blk_frozen a5.out 1;obtain⟨e2,e6,i6,_⟩:=Kd.Q_slice b2.out;subst i6)|((with_reducible refine gate_callee (f:=102) rfl ?_);refine goesL_ (some 13) rfl rfl Try.func102 zqk rfl #[.pointer (some ⟨g1045,0,none⟩),.int .i64 14] rfl zq1 ?_;(with_reducible refine(spec_l20Formed.calls k g1045 a9 b7 14 c5 c4 w _ ?side1 ?side2 A4.out).mono ?_);(case side1=> exact zq16);(case side2=> exact zq27);rintro e q3 ⟨rfl,hi,hb,hk⟩;refine⟨_,rfl,?_⟩;replace a1:=zqm (KeepBut.blk hk (g':=a3) (o:= .cells #[.slice none 0 0,.slice none 0 0] 26 (0,0)) zq146 b3.out (by simp));replace b1:=zqm (Kd.S_mono (Kd.S_keep (IsS110.apartS (show IsS110 w _ g1045 a9 b7 from zq16) (by refine zqfS ?_;exact(Kd.S_mono (Kd.S_far (p:=⟨a4,1,none⟩) (Kd.S_far (p:=⟨a4,0,none⟩) (Kd.S_types b1.out a5.out (by decide)) (fun _ hk=>hk.2) (.slice d4 a7.length d7)) (fun _ hk=>hk.2) (.slice e2 b0.length e6)) (fun _ h_=>h_.1))) (by decide)) hk (fun _ h=>h.2)) (fun _ h=>h.1));replace b2:=zqm (Kd.Q_mono (Kd.Q_keep (IsS110.apartQ (show IsS110 w _ g1045 a9 b7 from zq16) (by refine zqfQ ?_;exact(Kd.Q_mono (Kd.Q_far (p:=⟨a4,1,none⟩) (Kd.Q_far (p:=⟨a4,0,none⟩) (Kd.Q_types b2.out a5.out (by decide)) (fun _ hk=>hk.2) (.slice d4 a7.length d7)) (fun _ hk=>hk.2) (.slice e2 b0.length e6)) (fun _ h_=>h_.1))) (by decide)) hk (fun _ h=>h.2)) (fun _ h=>h.1));replace a5:=zqm (KeepBut.blk hk (g':=a4) (o:= .cells #[.slice d4 a7.length d7,.slice e2 b0.length e6] 26 (0,0)) (by refine zqe ?_;refine blk_put (cs:= #[.slice d4 a7.length d7,.slice none 0 0]) ?_ 1 _ rfl;refine zqe ?_;refine blk_put (cs:= #[.slice none 0 0,.slice none 0 0]) ?_ 0 _ rfl;refine zqe ?_;exact a5.out) b5.out (by simp));replace HB:=zqm (hb);replace a0:=zqm (hi);clear hb hk hi)|((with_reducible refine gate_callee (f:=91) rfl ?_);refine goesL_ (some 15) rfl rfl Try.func91 zqk rfl #[.pointer (some ⟨g1045,0,none⟩),.int .i64 4] rfl zq1 ?_;(with_reducible refine(spec_l20Rd_pick.calls k g1045 a9 c4 4 c1 d2 w _ ?side1 ?side2 A5.out).mono ?_);(case side1=> exact zq16);(case side2=> exact zq27);rintro e g4 ⟨rfl,hi,hb,hk⟩;refine⟨_,rfl,?_⟩;replace a1:=zqm (KeepBut.blk hk (g':=a3) (o:= .cells #[.slice none 0 0,.slice none 0 0] 26 (0,0)) (zqe a1.out) b3.out (by simp));replace b1:=zqm (Kd.S_mono (Kd.S_keep (IsS110.apartS (show IsS110 w _ g1045 a9 c4 from zq16) (zqfS b1.out) (by decide)) hk (fun _ h=>h.2)) (fun _ h=>h.1));replace b2:=zqm (Kd.Q_mono (Kd.Q_keep (IsS110.apartQ (show IsS110 w _ g1045 a9 c4 from zq16) (zqfQ b2.out) (by decide)) hk (fun _ h=>h.2)) (fun _ h=>h.1));replace a5:=zqm (KeepBut.blk hk (g':=a4) (o:= .cells #[.slice d4 a7.length d7,.slice e2 b0.length e6] 26 (0,0)) (zqe a5.out) b5.out (by simp));replace HB:=zqm (hb);replace a0:=zqm (hi);clear hb hk hi;have j9:g4.cell? ⟨a4,0,none⟩=some (.slice d4 a7.length d7):=(blk_cell a5.out 0).trans rfl;have k0:g4.cell? ⟨a4,1,none⟩=some (.slice e2 b0.length e6):=(blk_cell a5.out 1).trans rfl;have m0:=blk_frozen a5.out 0;have m1:=blk_frozen a5.out 1;have o2:=b3.out;have p3:=a2.out;have k1:g4.cell? ⟨a3,0,none⟩=some (.slice none 0 0):=(blk_cell a1.out 0).trans rfl;have k2:g4.cell? ⟨a3,1,none⟩=some (.slice none 0 0):=(blk_cell a1.out 1).trans rfl;have m2:=blk_frozen a1.out 0;have m3:=blk_frozen a1.out 1))
   refine bodyPost_ret (results_ctt rfl _ _ a3 26 #[.slice d4 a7.length d7,.slice e2 b0.length e6] (0,0) _ rfl (by refine zqe ?_;refine blk_put (cs:= #[.slice d4 a7.length d7,.slice none 0 0]) ?_ 1 _ rfl;refine zqe ?_;refine blk_put (cs:= #[.slice none 0 0,.slice none 0 0]) ?_ 0 _ rfl;refine zqe ?_;exact a1.out) Try.underlying26 rfl zqk) rfl ?_;exact⟨_,_,zq13,by refine zqfS ?_;exact Kd.S_mono (Kd.S_far (p:=⟨a3,1,none⟩) (Kd.S_far (p:=⟨a3,0,none⟩) (Kd.S_types b1.out a1.out (by decide)) (fun _ hk=>hk.2) (.slice d4 a7.length d7)) (fun _ hk=>hk.2) (.slice e2 b0.length e6)) (fun _ hk=>hk.1),by refine zqfQ ?_;exact Kd.Q_mono (Kd.Q_far (p:=⟨a3,1,none⟩) (Kd.Q_far (p:=⟨a3,0,none⟩) (Kd.Q_types b2.out a1.out (by decide)) (fun _ hk=>hk.2) (.slice d4 a7.length d7)) (fun _ hk=>hk.2) (.slice e2 b0.length e6)) (fun _ hk=>trivial),zq27⟩
  ·rw [if_neg f5] at H;have g7:(c1==1)=false:=beq_eq_false_iff_ne.mpr f5;have g8:(c1 !=1)=true:=bne_iff_ne.mpr f5
   by_cases f6:c1=2
   ·rw [if_pos f6] at H;have g9:(c1==2)=true:=beq_iff_eq.mpr f6;have h0:(c1 !=2)=false:=bne_eq_false_iff_eq.mpr f6;clear f6
    by_cases f9:2+c5.size≤9223372036854775807
    ·rw [if_pos f9] at H;have n4:=eq_true f9;have n5:decide (2+c5.size≤9223372036854775807)=true:=decide_eq_true f9;(try have n6:(9223372036854775807<2+c5.size)=False:=eq_false (Nat.not_lt.2 f9));simp only [Option.some.injEq,Prod.mk.injEq] at H;obtain⟨rfl,rfl,rfl,rfl⟩:=H
     go_enter Try.func52,Try.ntmps52
     go_wp2_with (first|((with_reducible refine gate_dst (N:=2) rfl ?_);refine box_event ?hg (N:=2) ?hd (cs:= #[.slice none 0 0,.slice none 0 0]) (t:=26) ?hr ?_;(case hd=>rfl);(case hg=>rfl);(case hr=> exact zq17);intro a3 hg q4 hbox hb;have c7:=zqm (below_step zq0 hb);have a1:=zqm (hbox);have f3:=zqm ((by rw [hg];exact(below_size zq0):w.heap.size≤a3));have a8:=zqm ((by rw [hg];exact(below_size zq0):w.heap.size≤a3));clear HB;have HB:=c7;clear c7 hb hbox hg)|((with_reducible refine gate_callee (f:=69) rfl ?_);refine goesL_ (some 9) rfl rfl Try.func69 zqk rfl #[.slice A0 l0.length c0] rfl zq1 ?_;(with_reducible refine(spec_l20Open.calls _ _ l0 a9 c9 w _ ?side1 ?side2 ?side3 A2.out).mono ?_);(case side1=> exact zq25);(case side2=>exact g1.out);(case side3=>exact g0.out);rintro e q5 ⟨g1045,rfl,hi,hb,hb2⟩;refine⟨_,rfl,?_⟩;have c7:=zqm (blk_below (g:=a3) (o:= .cells #[.slice none 0 0,.slice none 0 0] 26 (0,0)) (zqe a1.out) hb2);replace HB:=zqm (hb);have a0:=zqm (hi);have a2:=zqm (IsS110.ne_blk hi (blk_below (g:=a3) (o:= .cells #[.slice none 0 0,.slice none 0 0] 26 (0,0)) (zqe a1.out) hb2) (by decide));have b3:=zqm (Ne.symm (IsS110.ne_blk hi (blk_below (g:=a3) (o:= .cells #[.slice none 0 0,.slice none 0 0] 26 (0,0)) (zqe a1.out) hb2) (by decide)));clear a1;have a1:=c7;clear c7 hb hb2 hi)|((with_reducible refine gate_callee (f:=68) rfl ?_);refine goesL_ (some 11) rfl rfl Try.func68 zqk rfl #[.pointer (some ⟨g1045,0,none⟩),.int .i64 14] rfl zq1 ?_;(with_reducible refine(spec_l20Logic.calls k g1045 a9 c9 14 a7 b0 b7 w _ ?side1 ?side2 A3.out).mono ?_);(case side1=> exact zq28);(case side2=> exact zq18);rintro e q6 ⟨f7,f8,rfl,e8,e9,hi,hb,hk⟩;refine⟨_,rfl,?_⟩;replace a1:=zqm (KeepBut.blk hk (g':=a3) (o:= .cells #[.slice none 0 0,.slice none 0 0] 26 (0,0)) (zqe a1.out) b3.out (by simp));have b1:=zqm (Kd.S_lower e8 (below_size zq18));have b2:=zqm (Kd.Q_lower e9 (below_size zq18));replace HB:=zqm (hb);replace a0:=zqm (hi);clear hb hk hi e8 e9)|((with_reducible refine gate_dst (N:=6) rfl ?_);refine box_event ?hg (N:=6) ?hd (cs:= #[.slice none 0 0,.slice none 0 0]) (t:=26) ?hr ?_;(case hd=>rfl);(case hg=>rfl);(case hr=> exact zq17);intro a4 hg h8 hbox hb;replace b1:=zqm (Kd.S_below (zqfS b1.out) hb);replace b2:=zqm (Kd.Q_below (zqfQ b2.out) hb);have f0:=zqm (blk_below (g:=a3) (o:= .cells #[.slice none 0 0,.slice none 0 0] 26 (0,0)) (zqe a1.out) hb);have f1:=zqm (IsS110.below zq28 hb);have f2:=zqm (below_step zq18 hb);have a5:=zqm (hbox);have f4:=zqm ((by rw [hg];exact(below_size zq18):w.heap.size≤a4));have c3:=zqm ((by rw [hg];exact(below_size zq18):w.heap.size≤a4));have b4:=zqm ((by rw [hg];exact Nat.ne_of_lt (blk_lt (g:=a3) (o:= .cells #[.slice none 0 0,.slice none 0 0] 26 (0,0)) (zqe a1.out)):a3≠a4));have b6:=zqm ((by rw [hg];exact Nat.ne_of_gt (blk_lt (g:=a3) (o:= .cells #[.slice none 0 0,.slice none 0 0] 26 (0,0)) (zqe a1.out)):a4≠a3));have a6:=zqm ((by rw [hg];exact Nat.ne_of_lt (IsS110.lt (show IsS110 w _ g1045 a9 b7 from zq28)):g1045≠a4));have b5:=zqm ((by rw [hg];exact Nat.ne_of_gt (IsS110.lt (show IsS110 w _ g1045 a9 b7 from zq28)):a4≠g1045));clear a1 a0 HB;have a1:=f0;have a0:=f1;have HB:=f2;clear f0 f1 f2 hb hbox hg;obtain⟨d5,d8,i7⟩:=Kd.S_slice b1.out;subst i7;have o3:=b6.out;have p4:=b4.out;have o4:=b5.out;have p5:=a6.out;have k3:h8.cell? ⟨a4,0,none⟩=some (.slice none 0 0):=(blk_cell a5.out 0).trans rfl;have k4:h8.cell? ⟨a4,1,none⟩=some (.slice none 0 0):=(blk_cell a5.out 1).trans rfl;have m4:=blk_frozen a5.out 0;have m5:=blk_frozen a5.out 1;obtain⟨e3,e7,i8,_⟩:=Kd.Q_slice b2.out;subst i8)|((with_reducible refine gate_callee (f:=102) rfl ?_);refine goesL_ (some 13) rfl rfl Try.func102 zqk rfl #[.pointer (some ⟨g1045,0,none⟩),.int .i64 14] rfl zq1 ?_;(with_reducible refine(spec_l20Formed.calls k g1045 a9 b7 14 c5 c4 w _ ?side1 ?side2 A4.out).mono ?_);(case side1=> exact zq16);(case side2=> exact zq27);rintro e q7 ⟨rfl,hi,hb,hk⟩;refine⟨_,rfl,?_⟩;replace a1:=zqm (KeepBut.blk hk (g':=a3) (o:= .cells #[.slice none 0 0,.slice none 0 0] 26 (0,0)) zq146 b3.out (by simp));replace b1:=zqm (Kd.S_mono (Kd.S_keep (IsS110.apartS (show IsS110 w _ g1045 a9 b7 from zq16) (by refine zqfS ?_;exact(Kd.S_mono (Kd.S_far (p:=⟨a4,1,none⟩) (Kd.S_far (p:=⟨a4,0,none⟩) (Kd.S_types b1.out a5.out (by decide)) (fun _ hk=>hk.2) (.slice d5 a7.length d8)) (fun _ hk=>hk.2) (.slice e3 b0.length e7)) (fun _ h_=>h_.1))) (by decide)) hk (fun _ h=>h.2)) (fun _ h=>h.1));replace b2:=zqm (Kd.Q_mono (Kd.Q_keep (IsS110.apartQ (show IsS110 w _ g1045 a9 b7 from zq16) (by refine zqfQ ?_;exact(Kd.Q_mono (Kd.Q_far (p:=⟨a4,1,none⟩) (Kd.Q_far (p:=⟨a4,0,none⟩) (Kd.Q_types b2.out a5.out (by decide)) (fun _ hk=>hk.2) (.slice d5 a7.length d8)) (fun _ hk=>hk.2) (.slice e3 b0.length e7)) (fun _ h_=>h_.1))) (by decide)) hk (fun _ h=>h.2)) (fun _ h=>h.1));replace a5:=zqm (KeepBut.blk hk (g':=a4) (o:= .cells #[.slice d5 a7.length d8,.slice e3 b0.length e7] 26 (0,0)) (by refine zqe ?_;refine blk_put (cs:= #[.slice d5 a7.length d8,.slice none 0 0]) ?_ 1 _ rfl;refine zqe ?_;refine blk_put (cs:= #[.slice none 0 0,.slice none 0 0]) ?_ 0 _ rfl;refine zqe ?_;exact a5.out) b5.out (by simp));replace HB:=zqm (hb);replace a0:=zqm (hi);clear hb hk hi)|((with_reducible refine gate_callee (f:=91) rfl ?_);refine goesL_ (some 15) rfl rfl Try.func91 zqk rfl #[.pointer (some ⟨g1045,0,none⟩),.int .i64 4] rfl zq1 ?_;(with_reducible refine(spec_l20Rd_pick.calls k g1045 a9 c4 4 c1 d2 w _ ?side1 ?side2 A5.out).mono ?_);(case side1=> exact zq16);(case side2=> exact zq27);rintro e g5 ⟨rfl,hi,hb,hk⟩;refine⟨_,rfl,?_⟩;replace a1:=zqm (KeepBut.blk hk (g':=a3) (o:= .cells #[.slice none 0 0,.slice none 0 0] 26 (0,0)) (zqe a1.out) b3.out (by simp));replace b1:=zqm (Kd.S_mono (Kd.S_keep (IsS110.apartS (show IsS110 w _ g1045 a9 c4 from zq16) (zqfS b1.out) (by decide)) hk (fun _ h=>h.2)) (fun _ h=>h.1));replace b2:=zqm (Kd.Q_mono (Kd.Q_keep (IsS110.apartQ (show IsS110 w _ g1045 a9 c4 from zq16) (zqfQ b2.out) (by decide)) hk (fun _ h=>h.2)) (fun _ h=>h.1));replace a5:=zqm (KeepBut.blk hk (g':=a4) (o:= .cells #[.slice d5 a7.length d8,.slice e3 b0.length e7] 26 (0,0)) (zqe a5.out) b5.out (by simp));replace HB:=zqm (hb);replace a0:=zqm (hi);clear hb hk hi;have k5:g5.cell? ⟨a4,0,none⟩=some (.slice d5 a7.length d8):=(blk_cell a5.out 0).trans rfl;have k6:g5.cell? ⟨a4,1,none⟩=some (.slice e3 b0.length e7):=(blk_cell a5.out 1).trans rfl;have m6:=blk_frozen a5.out 0;have m7:=blk_frozen a5.out 1;have o5:=b3.out;have p6:=a2.out;have k7:g5.cell? ⟨a3,0,none⟩=some (.slice none 0 0):=(blk_cell a1.out 0).trans rfl;have k8:g5.cell? ⟨a3,1,none⟩=some (.slice none 0 0):=(blk_cell a1.out 1).trans rfl;have m8:=blk_frozen a1.out 0;have m9:=blk_frozen a1.out 1))
     refine bodyPost_ret (results_ctt rfl _ _ a3 26 #[.slice d5 a7.length d8,.slice e3 b0.length e7] (0,0) _ rfl (by refine zqe ?_;refine blk_put (cs:= #[.slice d5 a7.length d8,.slice none 0 0]) ?_ 1 _ rfl;refine zqe ?_;refine blk_put (cs:= #[.slice none 0 0,.slice none 0 0]) ?_ 0 _ rfl;refine zqe ?_;exact a1.out) Try.underlying26 rfl zqk) rfl ?_;exact⟨_,_,zq13,by refine zqfS ?_;exact Kd.S_mono (Kd.S_far (p:=⟨a3,1,none⟩) (Kd.S_far (p:=⟨a3,0,none⟩) (Kd.S_types b1.out a1.out (by decide)) (fun _ hk=>hk.2) (.slice d5 a7.length d8)) (fun _ hk=>hk.2) (.slice e3 b0.length e7)) (fun _ hk=>hk.1),by refine zqfQ ?_;exact Kd.Q_mono (Kd.Q_far (p:=⟨a3,1,none⟩) (Kd.Q_far (p:=⟨a3,0,none⟩) (Kd.Q_types b2.out a1.out (by decide)) (fun _ hk=>hk.2) (.slice d5 a7.length d8)) (fun _ hk=>hk.2) (.slice e3 b0.length e7)) (fun _ hk=>trivial),zq27⟩
    ·rw [if_neg f9] at H;exact absurd H (by simp)
   ·rw [if_neg f6] at H;have g9:(c1==2)=false:=beq_eq_false_iff_ne.mpr f6;have h0:(c1 !=2)=true:=bne_iff_ne.mpr f6;replace H:=Option.bind_eq_some_iff.mp H;obtain⟨⟨g2,h1⟩,g6,H⟩:=H;replace H:(some (a7,b0,c5,g2))=some (r1,r2,r3,r4):=H;have n2:=zqm g6;clear g6;simp only [Option.some.injEq,Prod.mk.injEq] at H;obtain⟨rfl,rfl,rfl,rfl⟩:=H
    go_enter Try.func52,Try.ntmps52
    (try go_wp2_with (first|((with_reducible refine gate_dst (N:=2) rfl ?_);refine box_event ?hg (N:=2) ?hd (cs:= #[.slice none 0 0,.slice none 0 0]) (t:=26) ?hr ?_;(case hd=>rfl);(case hg=>rfl);(case hr=> exact zq17);intro a3 hg q8 hbox hb;have c7:=zqm (below_step zq0 hb);have a1:=zqm (hbox);have f3:=zqm ((by rw [hg];exact(below_size zq0):w.heap.size≤a3));have a8:=zqm ((by rw [hg];exact(below_size zq0):w.heap.size≤a3));clear HB;have HB:=c7;clear c7 hb hbox hg)|((with_reducible refine gate_callee (f:=69) rfl ?_);refine goesL_ (some 9) rfl rfl Try.func69 zqk rfl #[.slice A0 l0.length c0] rfl zq1 ?_;(with_reducible refine(spec_l20Open.calls _ _ l0 a9 c9 w _ ?side1 ?side2 ?side3 A2.out).mono ?_);(case side1=> exact zq25);(case side2=>exact g1.out);(case side3=>exact g0.out);rintro e q9 ⟨g1045,rfl,hi,hb,hb2⟩;refine⟨_,rfl,?_⟩;have c7:=zqm (blk_below (g:=a3) (o:= .cells #[.slice none 0 0,.slice none 0 0] 26 (0,0)) (zqe a1.out) hb2);replace HB:=zqm (hb);have a0:=zqm (hi);have a2:=zqm (IsS110.ne_blk hi (blk_below (g:=a3) (o:= .cells #[.slice none 0 0,.slice none 0 0] 26 (0,0)) (zqe a1.out) hb2) (by decide));have b3:=zqm (Ne.symm (IsS110.ne_blk hi (blk_below (g:=a3) (o:= .cells #[.slice none 0 0,.slice none 0 0] 26 (0,0)) (zqe a1.out) hb2) (by decide)));clear a1;have a1:=c7;clear c7 hb hb2 hi)|((with_reducible refine gate_callee (f:=68) rfl ?_);refine goesL_ (some 11) rfl rfl Try.func68 zqk rfl #[.pointer (some ⟨g1045,0,none⟩),.int .i64 14] rfl zq1 ?_;(with_reducible refine(spec_l20Logic.calls k g1045 a9 c9 14 a7 b0 b7 w _ ?side1 ?side2 A3.out).mono ?_);(case side1=> exact zq28);(case side2=> exact zq18);rintro e r0 ⟨f7,f8,rfl,e8,e9,hi,hb,hk⟩;refine⟨_,rfl,?_⟩;replace a1:=zqm (KeepBut.blk hk (g':=a3) (o:= .cells #[.slice none 0 0,.slice none 0 0] 26 (0,0)) (zqe a1.out) b3.out (by simp));have b1:=zqm (Kd.S_lower e8 (below_size zq18));have b2:=zqm (Kd.Q_lower e9 (below_size zq18));replace HB:=zqm (hb);replace a0:=zqm (hi);clear hb hk hi e8 e9)|((with_reducible refine gate_dst (N:=6) rfl ?_);refine box_event ?hg (N:=6) ?hd (cs:= #[.slice none 0 0,.slice none 0 0]) (t:=26) ?hr ?_;(case hd=>rfl);(case hg=>rfl);(case hr=> exact zq17);intro a4 hg h9 hbox hb;replace b1:=zqm (Kd.S_below (zqfS b1.out) hb);replace b2:=zqm (Kd.Q_below (zqfQ b2.out) hb);have f0:=zqm (blk_below (g:=a3) (o:= .cells #[.slice none 0 0,.slice none 0 0] 26 (0,0)) (zqe a1.out) hb);have f1:=zqm (IsS110.below zq28 hb);have f2:=zqm (below_step zq18 hb);have a5:=zqm (hbox);have f4:=zqm ((by rw [hg];exact(below_size zq18):w.heap.size≤a4));have c3:=zqm ((by rw [hg];exact(below_size zq18):w.heap.size≤a4));have b4:=zqm ((by rw [hg];exact Nat.ne_of_lt (blk_lt (g:=a3) (o:= .cells #[.slice none 0 0,.slice none 0 0] 26 (0,0)) (zqe a1.out)):a3≠a4));have b6:=zqm ((by rw [hg];exact Nat.ne_of_gt (blk_lt (g:=a3) (o:= .cells #[.slice none 0 0,.slice none 0 0] 26 (0,0)) (zqe a1.out)):a4≠a3));have a6:=zqm ((by rw [hg];exact Nat.ne_of_lt (IsS110.lt (show IsS110 w _ g1045 a9 b7 from zq28)):g1045≠a4));have b5:=zqm ((by rw [hg];exact Nat.ne_of_gt (IsS110.lt (show IsS110 w _ g1045 a9 b7 from zq28)):a4≠g1045));clear a1 a0 HB;have a1:=f0;have a0:=f1;have HB:=f2;clear f0 f1 f2 hb hbox hg;obtain⟨d0,d1,i9⟩:=Kd.S_slice b1.out;subst i9;have o6:=b6.out;have p7:=b4.out;have o7:=b5.out;have p8:=a6.out;have k9:h9.cell? ⟨a4,0,none⟩=some (.slice none 0 0):=(blk_cell a5.out 0).trans rfl;have l1:h9.cell? ⟨a4,1,none⟩=some (.slice none 0 0):=(blk_cell a5.out 1).trans rfl;have n0:=blk_frozen a5.out 0;have n1:=blk_frozen a5.out 1;obtain⟨d9,e0,j0,_⟩:=Kd.Q_slice b2.out;subst j0)|((with_reducible refine gate_callee (f:=102) rfl ?_);refine goesL_ (some 13) rfl rfl Try.func102 zqk rfl #[.pointer (some ⟨g1045,0,none⟩),.int .i64 14] rfl zq1 ?_;(with_reducible refine(spec_l20Formed.calls k g1045 a9 b7 14 c5 c4 w _ ?side1 ?side2 A4.out).mono ?_);(case side1=> exact zq16);(case side2=> exact zq27);rintro e r5 ⟨rfl,hi,hb,hk⟩;refine⟨_,rfl,?_⟩;replace a1:=zqm (KeepBut.blk hk (g':=a3) (o:= .cells #[.slice none 0 0,.slice none 0 0] 26 (0,0)) zq146 b3.out (by simp));replace b1:=zqm (Kd.S_mono (Kd.S_keep (IsS110.apartS (show IsS110 w _ g1045 a9 b7 from zq16) (by refine zqfS ?_;exact(Kd.S_mono (Kd.S_far (p:=⟨a4,1,none⟩) (Kd.S_far (p:=⟨a4,0,none⟩) (Kd.S_types b1.out a5.out (by decide)) (fun _ hk=>hk.2) (.slice d0 a7.length d1)) (fun _ hk=>hk.2) (.slice d9 b0.length e0)) (fun _ h_=>h_.1))) (by decide)) hk (fun _ h=>h.2)) (fun _ h=>h.1));replace b2:=zqm (Kd.Q_mono (Kd.Q_keep (IsS110.apartQ (show IsS110 w _ g1045 a9 b7 from zq16) (by refine zqfQ ?_;exact(Kd.Q_mono (Kd.Q_far (p:=⟨a4,1,none⟩) (Kd.Q_far (p:=⟨a4,0,none⟩) (Kd.Q_types b2.out a5.out (by decide)) (fun _ hk=>hk.2) (.slice d0 a7.length d1)) (fun _ hk=>hk.2) (.slice d9 b0.length e0)) (fun _ h_=>h_.1))) (by decide)) hk (fun _ h=>h.2)) (fun _ h=>h.1));replace a5:=zqm (KeepBut.blk hk (g':=a4) (o:= .cells #[.slice d0 a7.length d1,.slice d9 b0.length e0] 26 (0,0)) (by refine zqe ?_;refine blk_put (cs:= #[.slice d0 a7.length d1,.slice none 0 0]) ?_ 1 _ rfl;refine zqe ?_;refine blk_put (cs:= #[.slice none 0 0,.slice none 0 0]) ?_ 0 _ rfl;refine zqe ?_;exact a5.out) b5.out (by simp));replace HB:=zqm (hb);replace a0:=zqm (hi);clear hb hk hi)|((with_reducible refine gate_callee (f:=91) rfl ?_);refine goesL_ (some 15) rfl rfl Try.func91 zqk rfl #[.pointer (some ⟨g1045,0,none⟩),.int .i64 4] rfl zq1 ?_;(with_reducible refine(spec_l20Rd_pick.calls k g1045 a9 c4 4 c1 d2 w _ ?side1 ?side2 A5.out).mono ?_);(case side1=> exact zq16);(case side2=> exact zq27);rintro e n3 ⟨rfl,hi,hb,hk⟩;refine⟨_,rfl,?_⟩;replace a1:=zqm (KeepBut.blk hk (g':=a3) (o:= .cells #[.slice none 0 0,.slice none 0 0] 26 (0,0)) (zqe a1.out) b3.out (by simp));replace b1:=zqm (Kd.S_mono (Kd.S_keep (IsS110.apartS (show IsS110 w _ g1045 a9 c4 from zq16) (zqfS b1.out) (by decide)) hk (fun _ h=>h.2)) (fun _ h=>h.1));replace b2:=zqm (Kd.Q_mono (Kd.Q_keep (IsS110.apartQ (show IsS110 w _ g1045 a9 c4 from zq16) (zqfQ b2.out) (by decide)) hk (fun _ h=>h.2)) (fun _ h=>h.1));replace a5:=zqm (KeepBut.blk hk (g':=a4) (o:= .cells #[.slice d0 a7.length d1,.slice d9 b0.length e0] 26 (0,0)) (zqe a5.out) b5.out (by simp));replace HB:=zqm (hb);replace a0:=zqm (hi);clear hb hk hi)))
    replace b1:=zqm (Kd.S_drew b1.out);replace b2:=zqm (Kd.Q_drew b2.out);replace a1:=zqm (blk_drew a1.out);replace a5:=zqm (blk_drew a5.out);replace a0:=zqm (IsS110.drew a0.out);replace HB:=zqm (below_drew1 HB.out);refine start_ (n:=7) (S:=fun w'=>w'.cell? ⟨a4,0,none⟩=some (.slice d0 a7.length d1)∧w'.cell? ⟨a4,1,none⟩=some (.slice d9 b0.length e0)) (ds:= []) (zqb 7 0) zqk rfl rfl ⟨(blk_cell a5.out 0).trans rfl,(blk_cell a5.out 1).trans rfl⟩ (fun hHeld=>?_);generalize n3.drew=r6 at b1 b2 a1 a5 a0 HB hHeld ⊢;refine pure_ (i:=1) (N:=some 29) (v:=?_) (a':=?_) (zqb 7 2) rfl rfl zqk (fun _ _ _ h=>h) (Or.inl ⟨by rfl,?_⟩) ?_ ?_;rotate_left
    ·exact zqt
    rotate_left
    ·exact zqs
    refine pure_ (i:=2) (N:=some 30) (v:=?_) (a':=?_) (zqb 7 6) rfl rfl zqk (fun _ _ _ h=>h) (Or.inl ⟨by rfl,?_⟩) ?_ ?_;rotate_left
    ·exact zqt
    rotate_left
    ·exact zqs
    refine take_ (i:=0) (N:=some 28) (v:=?_) (a':=?_) (zqb 7 7) rfl rfl zqk (fun _ _ _ h=>h) (Or.inl ⟨by rfl,?_⟩) hHeld ?_ ?_;rotate_left
    ·rintro w' ⟨s0,s1⟩;go_simp;with_reducible rfl
    rotate_left
    ·exact zqs
    refine one_ (i:=3) (N:=some 31) (zqb 7 15) rfl rfl zqk (by decide) (fun K hK=>?_);refine goes_ Try.func102 zqk rfl #[.pointer (some ⟨g1045,0,none⟩),.int .i64 14] (by rfl) rfl rfl zq1 ?_;(with_reducible refine(spec_l20Formed.calls k g1045 a9 d2 14 g2 h1 w _ ?side1 ?side2 n2.out).mono ?_);(case side1=> exact zq16);(case side2=> exact zq27);rintro e i0 ⟨rfl,hi,hb,hk⟩;refine⟨_,rfl,?_⟩;replace a1:=zqm (KeepBut.blk hk (g':=a3) (o:= .cells #[.slice none 0 0,.slice none 0 0] 26 (0,0)) (zqe a1.out) b3.out (by simp));replace b1:=zqm (Kd.S_mono (Kd.S_keep (IsS110.apartS (show IsS110 w _ g1045 a9 d2 from zq16) (zqfS b1.out) (by decide)) hk (fun _ h=>h.2)) (fun _ h=>h.1));replace b2:=zqm (Kd.Q_mono (Kd.Q_keep (IsS110.apartQ (show IsS110 w _ g1045 a9 d2 from zq16) (zqfQ b2.out) (by decide)) hk (fun _ h=>h.2)) (fun _ h=>h.1));replace a5:=zqm (KeepBut.blk hk (g':=a4) (o:= .cells #[.slice d0 a7.length d1,.slice d9 b0.length e0] 26 (0,0)) (zqe a5.out) b5.out (by simp));replace HB:=zqm (hb);replace a0:=zqm (hi);clear hb hk hi;refine hK.out _ _ ⟨(blk_cell a5.out 0).trans rfl,(blk_cell a5.out 1).trans rfl⟩ (fun hHeld=>?_);clear hK K;refine norm_ (a':=?_) ?_ ?_;rotate_left
    ·show Act.put _ (some 31) _=_;exact zqs
    refine one_ (i:=4) (N:=none) (zqb 7 31) rfl rfl zqk (by decide) (fun K hK=>?_);have hs66:i0.cell? ⟨a3,0,none⟩=some (.slice none 0 0):=(blk_cell a1.out 0).trans rfl;have hfs66:=blk_frozen a1.out 0;have hns66_1:=b6.out;have hms66_1:=b4.out;have hs67:i0.cell? ⟨a3,1,none⟩=some (.slice none 0 0):=(blk_cell a1.out 1).trans rfl;have hfs67:=blk_frozen a1.out 1;have hns67_1:=b6.out;have hms67_1:=b4.out;refine skip_ (w1:=?_) (by rfl) rfl ?_ ?_;rotate_left
    ·go_simp;rfl
    refine hK.out _ _ ⟨((cell_far (p:=⟨a3,_,none⟩) b6.out _).trans (((cell_far (p:=⟨a3,_,none⟩) b6.out _).trans (hHeld.1)))),((cell_far (p:=⟨a3,_,none⟩) b6.out _).trans (((cell_far (p:=⟨a3,_,none⟩) b6.out _).trans (hHeld.2))))⟩ (fun hHeld=>?_);clear hK K;refine pure_ (i:=5) (N:=some 3) (v:=?_) (a':=?_) (zqb 7 63) rfl rfl zqk (fun _ _ _ h=>h) (Or.inl ⟨by rfl,?_⟩) ?_ ?_;rotate_left
    ·exact zqt
    rotate_left
    ·exact zqs
    refine pure_ (i:=6) (N:=some 4) (v:=?_) (a':=?_) (zqb 7 127) rfl rfl zqk (fun _ _ _ h=>h) (Or.inl ⟨by rfl,?_⟩) ?_ ?_;rotate_left
    ·exact zqt
    rotate_left
    ·exact zqs
    refine done_ zqk ?_;(try go_wp2);refine bodyPost_ret (results_ctt rfl _ _ a3 26 #[.slice d0 a7.length d1,.slice d9 b0.length e0] (0,0) _ rfl (by refine zqe ?_;refine blk_put (cs:= #[.slice d0 a7.length d1,.slice none 0 0]) ?_ 1 _ rfl;refine zqe ?_;refine blk_put (cs:= #[.slice none 0 0,.slice none 0 0]) ?_ 0 _ rfl;refine zqe ?_;exact a1.out) Try.underlying26 rfl zqk) rfl ?_;exact⟨_,_,zq13,by refine zqfS ?_;exact Kd.S_mono (Kd.S_far (p:=⟨a3,1,none⟩) (Kd.S_far (p:=⟨a3,0,none⟩) (Kd.S_types b1.out a1.out (by decide)) (fun _ hk=>hk.2) (.slice d0 a7.length d1)) (fun _ hk=>hk.2) (.slice d9 b0.length e0)) (fun _ hk=>hk.1),by refine zqfQ ?_;exact Kd.Q_mono (Kd.Q_far (p:=⟨a3,1,none⟩) (Kd.Q_far (p:=⟨a3,0,none⟩) (Kd.Q_types b2.out a1.out (by decide)) (fun _ hk=>hk.2) (.slice d0 a7.length d1)) (fun _ hk=>hk.2) (.slice d9 b0.length e0)) (fun _ hk=>trivial),zq27⟩
mutual
def spec_SameOk.j0 : Nat → ByteArray → ByteArray → Bool → List (List Int) → List Int → Option (Bool)
 | 0, _, _, _, _, _ => none
 | k + 1, x1, x2, x22, x1061000, x1061001 => if x22 = true then (some false) else ((spec_NoOf.f k x1061000 x1061001).bind fun t1064 => (spec_SameOk.l0 k x1 x2 (x1061001.length : Int) t1064 0 x1061000 x1061001))
def spec_SameOk.l0 : Nat → ByteArray → ByteArray → Int → Int → Int → List (List Int) → List Int → Option (Bool)
 | 0, _, _, _, _, _, _, _ => none
 | k + 1, x1, x2, x7, x8, x9, x1061000, x1061001 => if x9 < (wrap64 ((wrap64 (x7 * x7)) * x7)) then (if x7 = 0 then (none) else ((spec_l10Value.f k x1061000 x1061001 x1 (wrap64 (Int.tdiv (wrap64 (Int.tdiv x9 x7)) x7)) (Int.tmod (wrap64 (Int.tdiv x9 x7)) x7) (Int.tmod x9 x7) x8).bind fun t1065 => ((spec_l10Value.f k x1061000 x1061001 x2 (wrap64 (Int.tdiv (wrap64 (Int.tdiv x9 x7)) x7)) (Int.tmod (wrap64 (Int.tdiv x9 x7)) x7) (Int.tmod x9 x7) x8).bind fun t1066 => (if t1065 = t1066 then (spec_SameOk.l0 k x1 x2 x7 x8 (wrap64 (x9 + 1)) x1061000 x1061001) else (some false))))) else (some true)
end
def spec_SameOk.f (k : Nat) (l0_0 : List (List Int)) (l0_1 : List Int) (a1 : ByteArray) (a2 : ByteArray) : Option (Bool) := (spec_FormulaOk.f k a1).bind fun t1061 => (if t1061 = true then ((spec_FormulaOk.f k a2).bind fun t1062 => (if t1062 = true then ((spec_LogicOk.f k l0_0 l0_1).bind fun t1063 => (spec_SameOk.j0 k a1 a2 (!t1063) l0_0 l0_1)) else (spec_SameOk.j0 k a1 a2 true l0_0 l0_1))) else (spec_SameOk.j0 k a1 a2 true l0_0 l0_1))
def spec_SameOk.T8 : Bool × List (List Nat × List Nat) := (true, [([], []), ([], []), ([], []), ([], []), ([2, 3], [2, 3]), ([], []), ([4, 5], [4, 5]), ([], []), ([], []), ([7, 8], [7, 8]), ([], []), ([9, 10], [9, 10]), ([], []), ([], []), ([12, 13], [12, 13]), ([], []), ([0, 1, 6, 11, 14, 15], [0, 1, 6, 11, 14, 15]), ([], []), ([], []), ([], []), ([], []), ([19, 20], [19, 20]), ([], []), ([21, 22], [21, 22]), ([], []), ([], []), ([24, 25], [24, 25]), ([], []), ([26, 27], [26, 27]), ([], []), ([], []), ([29, 30], [29, 30]), ([], []), ([17, 18, 23, 28, 31, 32, 16], [17, 18, 23, 28, 31, 32]), ([16, 33], [16, 33])])
def spec_SameOk.B8 : List Nat := [0, 0, 0, 0, 12, 0, 60, 0, 0, 384, 0, 1920, 0, 0, 12288, 0, 65535, 0, 0, 0, 0, 1572864, 0, 7864320, 0, 0, 50331648, 0, 251658240, 0, 0, 1610612736, 0, 8589934591, 17179869183]
theorem spec_SameOk.tab8 : rtab .any (opsOf Try.f54 8) = spec_SameOk.T8 := by kernel_rfl
theorem spec_SameOk.bits8 : waitsOk spec_SameOk.T8.2 spec_SameOk.B8 = true := by kernel_rfl
set_option maxHeartbeats 8000000 in
set_option maxRecDepth 100000 in
theorem spec_SameOk.calls (k : Nat) (A0_0 : Option Addr) (c0_0 : Nat) (l0_0 : List (List Int)) (A0_1 : Option Addr) (c0_1 : Nat) (l0_1 : List Int) (a1 : ByteArray) (a2 : ByteArray) (r : Bool) (w : World) (hr0_0 : Kd.C (Kd.slice 3 (Kd.int .i64)) w A0_0 l0_0.length l0_0) (hc0_0 : l0_0.length ≤ c0_0) (hr0_1 : Kd.C (Kd.int .i64) w A0_1 l0_1.length l0_1) (hc0_1 : l0_1.length ≤ c0_1) (h : spec_SameOk.f k l0_0 l0_1 a1 a2 = some r) :
  Calls Try.prog 54 #[.agg #[.slice A0_0 l0_0.length c0_0, .slice A0_1 l0_1.length c0_1], .string a1, .string a2] w fun e w' => e = .returned (.bool r) ∧ Below w.heap.size w w' := by
 have hu26:=Try.underlying26;have b1:=zqm hr0_0;have a9:=zqm hc0_0;clear hr0_0 hc0_0;have b2:=zqm hr0_1;have b0:=zqm hc0_1;clear hr0_1 hc0_1;have HB:=zqm (Below.refl w.heap.size w);have H:((spec_FormulaOk.f k a1).bind fun c2=>(if c2=true then((spec_FormulaOk.f k a2).bind fun c3=>(if c3=true then((spec_LogicOk.f k l0_0 l0_1).bind fun b3=>(spec_SameOk.j0 k a1 a2 (!b3) l0_0 l0_1)) else(spec_SameOk.j0 k a1 a2 true l0_0 l0_1))) else(spec_SameOk.j0 k a1 a2 true l0_0 l0_1)))=some r:=h;clear h;have d7:=zqm H;clear H
 go_enter Try.func54,Try.ntmps54
 go_upto_region 1 with (first|((with_reducible refine gate_dst (N:=3) rfl ?_);refine box_event ?hg (N:=3) ?hd (cs:= #[.slice A0_0 l0_0.length c0_0,.slice A0_1 l0_1.length c0_1]) (t:=26) ?hr ?_;(case hd=>rfl);(case hg=>rfl);(case hr=> exact zq17);intro a4 hg w5 hbox hb;have e8:=zqm (below_step zq0 hb);have a0:=zqm (hbox);have f1:=zqm ((by rw [hg];exact(below_size zq0):w.heap.size≤a4));have a5:=zqm ((by rw [hg];exact(below_size zq0):w.heap.size≤a4));clear HB;have HB:=e8;clear e8 hb hbox hg))
 (try simp only [Act.put,List.setIfInBounds_toArray,List.set_cons_zero,List.set_cons_succ])
 go_cut [22] (fun f3 wc=> ∃(kq:Nat) (b4:Bool),f3= .bool b4∧Aside0 (spec_SameOk.j0 kq a1 a2 b4 l0_0 l0_1=some r)∧Aside0 (kq≤k)∧Aside0 (wc.heap[a4]? =some (.cells #[(.slice A0_0 l0_0.length c0_0),(.slice A0_1 l0_1.length c0_1)] 26 (0,0)))∧Aside0 (Below w.heap.size w wc))
 case first=>
  have H:=d7.out;clear d7;replace H:=Option.bind_eq_some_iff.mp H;obtain⟨c2,e4,H⟩:=H;(try dsimp only at H);have A6:=zqm e4;clear e4
  by_cases c7:c2=true
  ·subst c7;rw [if_pos rfl] at H;replace H:=Option.bind_eq_some_iff.mp H;obtain⟨c3,e5,H⟩:=H;(try dsimp only at H);have A8:=zqm e5;clear e5
   by_cases c9:c3=true
   ·subst c9;rw [if_pos rfl] at H;replace H:=Option.bind_eq_some_iff.mp H;obtain⟨b3,d3,H⟩:=H;(try dsimp only at H);have e9:=zqm d3;clear d3;have H':=zqm H;clear H
    go_wp2_with (first|((with_reducible refine gate_callee (f:=105) rfl ?_);refine goesL_ (some 11) rfl rfl Try.func105 zqk rfl #[.string a1] rfl zq1 ?_;(with_reducible refine(spec_FormulaOk.calls k a1 true _ A6.out).mono ?_);rintro e w' ⟨rfl,⟨nd,rfl⟩⟩;refine⟨_,rfl,?_⟩)|(go_at_call 105;(with_reducible refine(spec_FormulaOk.calls k a2 true _ A8.out).mono ?_);rintro e w' ⟨rfl,⟨nd,rfl⟩⟩;have b7:w5.cell? ⟨a4,0,none⟩=some (.slice A0_0 l0_0.length c0_0):=(blk_cell a0.out 0).trans rfl;have b8:w5.cell? ⟨a4,1,none⟩=some (.slice A0_1 l0_1.length c0_1):=(blk_cell a0.out 1).trans rfl;have b9:=blk_frozen a0.out 0;have c0:=blk_frozen a0.out 1)|(go_at_call 17;(with_reducible refine(spec_LogicOk.calls k _ _ l0_0 _ _ l0_1 b3 _ ?side1 ?side2 ?side3 ?side4 e9.out).mono ?_);(case side1=> exact zq83);(case side2=>exact a9.out);(case side3=>repeat(first|exact(Kd.C_below b2.out zq14)|(with_reducible refine Kd.C_alloc ?_ _)|(with_reducible refine Kd.C_drewN ?_ _)|(with_reducible refine Kd.C_drew ?_)));(case side4=>exact b0.out);rintro e f7 ⟨rfl,hb⟩;replace a0:=zqm (blk_below (g:=a4) (o:= .cells #[.slice A0_0 l0_0.length c0_0,.slice A0_1 l0_1.length c0_1] 26 (0,0)) (zqe a0.out) hb);replace HB:=zqm (below_step zq14 hb);clear hb))
    go_meet
    case rel=>exact⟨_,(!b3),zq7,H',⟨zq62⟩,⟨zqe a0.out⟩,⟨zq14⟩⟩
   ·replace c9:=Bool.eq_false_iff.mpr c9;subst c9;rw [if_neg (show¬(false=true) by decide)] at H;have H':=zqm H;clear H
    go_wp2_with (first|((with_reducible refine gate_callee (f:=105) rfl ?_);refine goesL_ (some 11) rfl rfl Try.func105 zqk rfl #[.string a1] rfl zq1 ?_;(with_reducible refine(spec_FormulaOk.calls k a1 true _ A6.out).mono ?_);rintro e w' ⟨rfl,⟨nd,rfl⟩⟩;refine⟨_,rfl,?_⟩)|(go_at_call 105;(with_reducible refine(spec_FormulaOk.calls k a2 false _ A8.out).mono ?_);rintro e w' ⟨rfl,⟨nd,rfl⟩⟩))
    go_meet
    case rel=>exact⟨_,(true),zq7,H',⟨zq62⟩,⟨zqe a0.out⟩,⟨zq14⟩⟩
  ·replace c7:=Bool.eq_false_iff.mpr c7;subst c7;rw [if_neg (show¬(false=true) by decide)] at H;have H':=zqm H;clear H
   go_wp2_with (first|((with_reducible refine gate_callee (f:=105) rfl ?_);refine goesL_ (some 11) rfl rfl Try.func105 zqk rfl #[.string a1] rfl zq1 ?_;(with_reducible refine(spec_FormulaOk.calls k a1 false _ A6.out).mono ?_);rintro e w' ⟨rfl,⟨nd,rfl⟩⟩;refine⟨_,rfl,?_⟩))
   go_meet
   case rel=>exact⟨_,(true),zq7,H',⟨zq62⟩,⟨zqe a0.out⟩,⟨zq14⟩⟩
 case rest=>
  clear d7;(try clear c1);(try clear p2);(try clear c5);(try clear c7);(try clear c9);(try clear f2);(try clear b7);(try clear b8);(try clear b9);(try clear c0);obtain⟨kq,b4,rfl,HA,e6,a0,HB⟩:=hcut
  cases kq with
  |zero=>exact absurd HA.out (by simp [spec_SameOk.j0])
  |succ d8=>
   have H:=HA.out;clear HA;simp only [spec_SameOk.j0] at H
   by_cases c4:b4=true
   ·subst c4;rw [if_pos rfl] at H;obtain rfl:=Option.some.inj H
    go_wp2
    go_ret
    exact⟨zq13,zq14⟩
   ·replace c4:=Bool.eq_false_iff.mpr c4;subst c4;rw [if_neg (show¬(false=true) by decide)] at H;replace H:=Option.bind_eq_some_iff.mp H;obtain⟨a6,d4,H⟩:=H;(try dsimp only at H);have f0:=zqm d4;clear d4;have H':=zqm H;clear H;have c8:wc.cell? ⟨a4,0,none⟩=some (.slice A0_0 l0_0.length c0_0):=(blk_cell a0.out 0).trans rfl;have d0:wc.cell? ⟨a4,1,none⟩=some (.slice A0_1 l0_1.length c0_1):=(blk_cell a0.out 1).trans rfl;have d1:=blk_frozen a0.out 0;have d2:=blk_frozen a0.out 1
    go_wp2_with (first|((with_reducible refine gate_callee (f:=108) rfl ?_);refine goesL_ (some 27) rfl rfl Try.func108 zqk rfl #[.agg #[.slice A0_0 l0_0.length c0_0,.slice A0_1 l0_1.length c0_1]] rfl zq1 ?_;(with_reducible refine(spec_NoOf.calls d8 _ _ l0_0 _ _ l0_1 a6 _ ?side1 ?side2 ?side3 ?side4 f0.out).mono ?_);(case side1=> exact zq44);(case side2=>exact a9.out);(case side3=> exact zq67);(case side4=>exact b0.out);rintro e f8 ⟨rfl,hb⟩;refine⟨_,rfl,?_⟩;replace a0:=zqm (blk_below (g:=a4) (o:= .cells #[.slice A0_0 l0_0.length c0_0,.slice A0_1 l0_1.length c0_1] 26 (0,0)) (zqe a0.out) hb);replace HB:=zqm (below_step zq14 hb);clear hb))
    go_loopg [9] d8 (fun kq v9 w'=> ∃(a3:Int),v9= .int .i64 a3∧Aside0 (spec_SameOk.l0 kq a1 a2 (l0_1.length:Int) a6 a3 l0_0 l0_1=some r)∧Aside0 (kq≤d8)∧Aside0 (w'.heap[a4]? =some (.cells #[(.slice A0_0 l0_0.length c0_0),(.slice A0_1 l0_1.length c0_1)] 26 (0,0)))∧Aside0 (Below w.heap.size w w'))
    case atStart=>exact⟨(0),zq7,H',⟨Nat.le_refl _⟩,⟨zqe a0.out⟩,⟨zq14⟩⟩
    case round=>
     clear H';(try clear c1);(try clear p2);(try clear c5);(try clear c7);(try clear c9);(try clear f2);(try clear c4);(try clear b7);(try clear b8);(try clear c8);(try clear d0);(try clear b9);(try clear c0);(try clear d1);(try clear d2);(try clear p2);obtain⟨a3,rfl,HA,e7,a0,HB⟩:=hrel
     cases gk with
     |zero=>exact absurd HA.out (by simp [spec_SameOk.l0])
     |succ k2=>
      have H:=HA.out;clear HA;simp only [spec_SameOk.l0] at H
      by_cases b6:a3<(wrap64 ((wrap64 ((l0_1.length:Int)*(l0_1.length:Int)))*(l0_1.length:Int)))
      ·rw [if_pos b6] at H;have d9:decide (a3<(wrap64 ((wrap64 ((l0_1.length:Int)*(l0_1.length:Int)))*(l0_1.length:Int))))=true:=decide_eq_true b6;clear b6
       by_cases c6:(l0_1.length:Int)=0
       ·rw [if_pos c6] at H;exact absurd H (by simp)
       ·rw [if_neg c6] at H;have f4:((l0_1.length:Int)==0)=false:=beq_eq_false_iff_ne.mpr c6;have f5:((l0_1.length:Int) !=0)=true:=bne_iff_ne.mpr c6;have f6: ¬(l0_1= []):=fun h_=>c6 (by rw [h_];rfl);replace H:=Option.bind_eq_some_iff.mp H;obtain⟨a7,d5,H⟩:=H;(try dsimp only at H);have e2:=zqm d5;clear d5;replace H:=Option.bind_eq_some_iff.mp H;obtain⟨a8,d6,H⟩:=H;(try dsimp only at H);have e3:=zqm d6;clear d6
        by_cases b5:a7=a8
        ·rw [if_pos b5] at H;have e0:(a7==a8)=true:=beq_iff_eq.mpr b5;have e1:(a7 !=a8)=false:=bne_eq_false_iff_eq.mpr b5;clear b5;have H':=zqm H;clear H;(try go_wp2);replace a0:=zqm (blk_drew a0.out);replace HB:=zqm (below_drew1 HB.out);refine start_ (n:=35) (S:=fun w'=>w'.cell? ⟨a4,0,none⟩=some (.slice A0_0 l0_0.length c0_0)∧w'.cell? ⟨a4,1,none⟩=some (.slice A0_1 l0_1.length c0_1)) (ds:= []) (zqb 35 0) zqk rfl rfl ⟨(blk_cell a0.out 0).trans rfl,(blk_cell a0.out 1).trans rfl⟩ (fun hHeld=>?_);refine with_tabW spec_SameOk.tab8 spec_SameOk.bits8 (fun HT_ HW_=>?_);generalize wr.drew=f9 at a0 HB hHeld ⊢;refine zqp 1 38 (zqb 35 2) HT_ ?_;refine zqp 2 39 (zqb 35 6) HT_ ?_;refine zqp 3 40 (zqb 35 14) HT_ ?_;refine zqp 4 41 (zqb 35 30) HT_ ?_;refine zqp 5 42 (zqb 35 62) HT_ ?_;refine zqp 6 43 (zqb 35 126) HT_ ?_;refine zqp 7 44 (zqb 35 254) HT_ ?_;refine zqp 8 45 (zqb 35 510) HT_ ?_;refine zqp 9 46 (zqb 35 1022) HT_ ?_;refine zqp 10 47 (zqb 35 2046) HT_ ?_;refine zqp 11 48 (zqb 35 4094) HT_ ?_;refine zqp 12 49 (zqb 35 8190) HT_ ?_;refine zqp 13 50 (zqb 35 16382) HT_ ?_;refine zqp 14 51 (zqb 35 32766) HT_ ?_;refine zqp 15 52 (zqb 35 65534) HT_ ?_;refine zqp 18 55 (zqb 35 327678) HT_ ?_;refine zqp 19 56 (zqb 35 851966) HT_ ?_;refine zqp 20 57 (zqb 35 1900542) HT_ ?_;refine zqp 21 58 (zqb 35 3997694) HT_ ?_;refine zqp 22 59 (zqb 35 8191998) HT_ ?_;refine zqp 23 60 (zqb 35 16580606) HT_ ?_;refine zqp 24 61 (zqb 35 33357822) HT_ ?_;refine zqp 25 62 (zqb 35 66912254) HT_ ?_
         refine zqp 26 63 (zqb 35 134021118) HT_ ?_;refine zqp 27 64 (zqb 35 268238846) HT_ ?_;refine zqp 28 65 (zqb 35 536674302) HT_ ?_;refine zqp 29 66 (zqb 35 1073545214) HT_ ?_;refine zqp 30 67 (zqb 35 2147287038) HT_ ?_;refine zqp 31 68 (zqb 35 4294770686) HT_ ?_;refine zqp 32 69 (zqb 35 8589737982) HT_ ?_;refine zqw 0 37 (zqb 35 8589737983) HT_ HW_ hHeld ?_;refine zqw 17 54 (zqb 35 8589869055) HT_ HW_ hHeld ?_;refine one_ (i:=16) (N:=some 53) (zqb 35 8589934591) rfl rfl (one_of HT_.out zqk) (by decide) (fun K hK=>?_);refine goes_ Try.func107 zqk rfl #[.agg #[.slice A0_0 l0_0.length c0_0,.slice A0_1 l0_1.length c0_1],.string a1,.int .i64 (wrap64 (Int.tdiv (wrap64 (Int.tdiv a3 (l0_1.length:Int))) (l0_1.length:Int))),.int .i64 (Int.tmod (wrap64 (Int.tdiv a3 (l0_1.length:Int))) (l0_1.length:Int)),.int .i64 (Int.tmod a3 (l0_1.length:Int)),.int .i64 a6] (by rfl) rfl rfl zq1 ?_;(with_reducible refine(spec_l10Value.calls k2 _ _ l0_0 _ _ l0_1 a1 (wrap64 (Int.tdiv (wrap64 (Int.tdiv a3 (l0_1.length:Int))) (l0_1.length:Int))) (Int.tmod (wrap64 (Int.tdiv a3 (l0_1.length:Int))) (l0_1.length:Int)) (Int.tmod a3 (l0_1.length:Int)) a6 a7 _ ?side1 ?side2 ?side3 ?side4 e2.out).mono ?_);(case side1=> exact zq44);(case side2=>exact a9.out);(case side3=> exact zq67);(case side4=>exact b0.out);rintro e g0 ⟨rfl,hb⟩;refine⟨_,rfl,?_⟩;replace a0:=zqm (blk_below (g:=a4) (o:= .cells #[.slice A0_0 l0_0.length c0_0,.slice A0_1 l0_1.length c0_1] 26 (0,0)) (zqe a0.out) hb);replace HB:=zqm (below_step zq14 hb);clear hb;refine hK.out _ _ ⟨(blk_cell a0.out 0).trans rfl,(blk_cell a0.out 1).trans rfl⟩ (fun hHeld=>?_);clear hK K;refine norm_ (a':=?_) ?_ ?_;rotate_left
         ·show Act.put _ (some 53) _=_;exact zqs
         refine one_ (i:=33) (N:=some 70) (zqb 35 17179869183) rfl rfl (one_of HT_.out zqk) (by decide) (fun K hK=>?_);refine goes_ Try.func107 zqk rfl #[.agg #[.slice A0_0 l0_0.length c0_0,.slice A0_1 l0_1.length c0_1],.string a2,.int .i64 (wrap64 (Int.tdiv (wrap64 (Int.tdiv a3 (l0_1.length:Int))) (l0_1.length:Int))),.int .i64 (Int.tmod (wrap64 (Int.tdiv a3 (l0_1.length:Int))) (l0_1.length:Int)),.int .i64 (Int.tmod a3 (l0_1.length:Int)),.int .i64 a6] (by rfl) rfl rfl zq1 ?_;(with_reducible refine(spec_l10Value.calls k2 _ _ l0_0 _ _ l0_1 a2 (wrap64 (Int.tdiv (wrap64 (Int.tdiv a3 (l0_1.length:Int))) (l0_1.length:Int))) (Int.tmod (wrap64 (Int.tdiv a3 (l0_1.length:Int))) (l0_1.length:Int)) (Int.tmod a3 (l0_1.length:Int)) a6 a8 _ ?side1 ?side2 ?side3 ?side4 e3.out).mono ?_);(case side1=> exact zq44);(case side2=>exact a9.out);(case side3=> exact zq67);(case side4=>exact b0.out);rintro e g1 ⟨rfl,hb⟩;refine⟨_,rfl,?_⟩;replace a0:=zqm (blk_below (g:=a4) (o:= .cells #[.slice A0_0 l0_0.length c0_0,.slice A0_1 l0_1.length c0_1] 26 (0,0)) (zqe a0.out) hb);replace HB:=zqm (below_step zq14 hb);clear hb;refine hK.out _ _ ⟨(blk_cell a0.out 0).trans rfl,(blk_cell a0.out 1).trans rfl⟩ (fun hHeld=>?_);clear hK K;refine norm_ (a':=?_) ?_ ?_;rotate_left
         ·show Act.put _ (some 70) _=_;exact zqs
         refine zqp 34 71 (zqb 35 34359738367) HT_ ?_;refine done_ (done_of HT_.out zqk) ?_;try go_wp2
         go_roundg k2
         (case measure=>have:=e6.out;have:=e7.out;omega);case rel=>exact⟨(wrap64 (a3+1)),zq7,H',⟨by have:=e6.out;have:=e7.out;omega⟩,⟨zqe a0.out⟩,⟨zq14⟩⟩
        ·rw [if_neg b5] at H;have e0:(a7==a8)=false:=beq_eq_false_iff_ne.mpr b5;have e1:(a7 !=a8)=true:=bne_iff_ne.mpr b5;obtain rfl:=Option.some.inj H;(try go_wp2);replace a0:=zqm (blk_drew a0.out);replace HB:=zqm (below_drew1 HB.out);refine start_ (n:=35) (S:=fun w'=>w'.cell? ⟨a4,0,none⟩=some (.slice A0_0 l0_0.length c0_0)∧w'.cell? ⟨a4,1,none⟩=some (.slice A0_1 l0_1.length c0_1)) (ds:= []) (zqb 35 0) zqk rfl rfl ⟨(blk_cell a0.out 0).trans rfl,(blk_cell a0.out 1).trans rfl⟩ (fun hHeld=>?_);refine with_tabW spec_SameOk.tab8 spec_SameOk.bits8 (fun HT_ HW_=>?_);generalize wr.drew=g2 at a0 HB hHeld ⊢;refine zqp 1 38 (zqb 35 2) HT_ ?_;refine zqp 2 39 (zqb 35 6) HT_ ?_;refine zqp 3 40 (zqb 35 14) HT_ ?_;refine zqp 4 41 (zqb 35 30) HT_ ?_;refine zqp 5 42 (zqb 35 62) HT_ ?_;refine zqp 6 43 (zqb 35 126) HT_ ?_;refine zqp 7 44 (zqb 35 254) HT_ ?_;refine zqp 8 45 (zqb 35 510) HT_ ?_;refine zqp 9 46 (zqb 35 1022) HT_ ?_;refine zqp 10 47 (zqb 35 2046) HT_ ?_;refine zqp 11 48 (zqb 35 4094) HT_ ?_;refine zqp 12 49 (zqb 35 8190) HT_ ?_;refine zqp 13 50 (zqb 35 16382) HT_ ?_;refine zqp 14 51 (zqb 35 32766) HT_ ?_;refine zqp 15 52 (zqb 35 65534) HT_ ?_;refine zqp 18 55 (zqb 35 327678) HT_ ?_;refine zqp 19 56 (zqb 35 851966) HT_ ?_;refine zqp 20 57 (zqb 35 1900542) HT_ ?_;refine zqp 21 58 (zqb 35 3997694) HT_ ?_;refine zqp 22 59 (zqb 35 8191998) HT_ ?_;refine zqp 23 60 (zqb 35 16580606) HT_ ?_;refine zqp 24 61 (zqb 35 33357822) HT_ ?_;refine zqp 25 62 (zqb 35 66912254) HT_ ?_
         refine zqp 26 63 (zqb 35 134021118) HT_ ?_;refine zqp 27 64 (zqb 35 268238846) HT_ ?_;refine zqp 28 65 (zqb 35 536674302) HT_ ?_;refine zqp 29 66 (zqb 35 1073545214) HT_ ?_;refine zqp 30 67 (zqb 35 2147287038) HT_ ?_;refine zqp 31 68 (zqb 35 4294770686) HT_ ?_;refine zqp 32 69 (zqb 35 8589737982) HT_ ?_;refine zqw 0 37 (zqb 35 8589737983) HT_ HW_ hHeld ?_;refine zqw 17 54 (zqb 35 8589869055) HT_ HW_ hHeld ?_;refine one_ (i:=16) (N:=some 53) (zqb 35 8589934591) rfl rfl (one_of HT_.out zqk) (by decide) (fun K hK=>?_);refine goes_ Try.func107 zqk rfl #[.agg #[.slice A0_0 l0_0.length c0_0,.slice A0_1 l0_1.length c0_1],.string a1,.int .i64 (wrap64 (Int.tdiv (wrap64 (Int.tdiv a3 (l0_1.length:Int))) (l0_1.length:Int))),.int .i64 (Int.tmod (wrap64 (Int.tdiv a3 (l0_1.length:Int))) (l0_1.length:Int)),.int .i64 (Int.tmod a3 (l0_1.length:Int)),.int .i64 a6] (by rfl) rfl rfl zq1 ?_;(with_reducible refine(spec_l10Value.calls k2 _ _ l0_0 _ _ l0_1 a1 (wrap64 (Int.tdiv (wrap64 (Int.tdiv a3 (l0_1.length:Int))) (l0_1.length:Int))) (Int.tmod (wrap64 (Int.tdiv a3 (l0_1.length:Int))) (l0_1.length:Int)) (Int.tmod a3 (l0_1.length:Int)) a6 a7 _ ?side1 ?side2 ?side3 ?side4 e2.out).mono ?_);(case side1=> exact zq44);(case side2=>exact a9.out);(case side3=> exact zq67);(case side4=>exact b0.out);rintro e g3 ⟨rfl,hb⟩;refine⟨_,rfl,?_⟩;replace a0:=zqm (blk_below (g:=a4) (o:= .cells #[.slice A0_0 l0_0.length c0_0,.slice A0_1 l0_1.length c0_1] 26 (0,0)) (zqe a0.out) hb);replace HB:=zqm (below_step zq14 hb);clear hb;refine hK.out _ _ ⟨(blk_cell a0.out 0).trans rfl,(blk_cell a0.out 1).trans rfl⟩ (fun hHeld=>?_);clear hK K;refine norm_ (a':=?_) ?_ ?_;rotate_left
         ·show Act.put _ (some 53) _=_;exact zqs
         refine one_ (i:=33) (N:=some 70) (zqb 35 17179869183) rfl rfl (one_of HT_.out zqk) (by decide) (fun K hK=>?_);refine goes_ Try.func107 zqk rfl #[.agg #[.slice A0_0 l0_0.length c0_0,.slice A0_1 l0_1.length c0_1],.string a2,.int .i64 (wrap64 (Int.tdiv (wrap64 (Int.tdiv a3 (l0_1.length:Int))) (l0_1.length:Int))),.int .i64 (Int.tmod (wrap64 (Int.tdiv a3 (l0_1.length:Int))) (l0_1.length:Int)),.int .i64 (Int.tmod a3 (l0_1.length:Int)),.int .i64 a6] (by rfl) rfl rfl zq1 ?_;(with_reducible refine(spec_l10Value.calls k2 _ _ l0_0 _ _ l0_1 a2 (wrap64 (Int.tdiv (wrap64 (Int.tdiv a3 (l0_1.length:Int))) (l0_1.length:Int))) (Int.tmod (wrap64 (Int.tdiv a3 (l0_1.length:Int))) (l0_1.length:Int)) (Int.tmod a3 (l0_1.length:Int)) a6 a8 _ ?side1 ?side2 ?side3 ?side4 e3.out).mono ?_);(case side1=> exact zq44);(case side2=>exact a9.out);(case side3=> exact zq67);(case side4=>exact b0.out);rintro e g4 ⟨rfl,hb⟩;refine⟨_,rfl,?_⟩;replace a0:=zqm (blk_below (g:=a4) (o:= .cells #[.slice A0_0 l0_0.length c0_0,.slice A0_1 l0_1.length c0_1] 26 (0,0)) (zqe a0.out) hb);replace HB:=zqm (below_step zq14 hb);clear hb;refine hK.out _ _ ⟨(blk_cell a0.out 0).trans rfl,(blk_cell a0.out 1).trans rfl⟩ (fun hHeld=>?_);clear hK K;refine norm_ (a':=?_) ?_ ?_;rotate_left
         ·show Act.put _ (some 70) _=_;exact zqs
         refine zqp 34 71 (zqb 35 34359738367) HT_ ?_;refine done_ (done_of HT_.out zqk) ?_;try go_wp2
         go_ret
         exact⟨zq13,zq14⟩
      ·rw [if_neg b6] at H;have d9:decide (a3<(wrap64 ((wrap64 ((l0_1.length:Int)*(l0_1.length:Int)))*(l0_1.length:Int))))=false:=decide_eq_false b6;clear b6;obtain rfl:=Option.some.inj H
       go_wp2
       go_ret
       exact⟨zq13,zq14⟩
end Go.Proofs.Ytcbjpdaogicibaa.Print
end
section
namespace Oml
section
universe u
namespace OL
variable {α : Type u} (L : OL α)
theorem meet_comm (a b : α) : L.meet a b = L.meet b a :=
 L.le_antisymm _ _ (L.le_meet _ _ _ (L.meet_r _ _) (L.meet_l _ _)) (L.le_meet _ _ _ (L.meet_r _ _) (L.meet_l _ _))
theorem join_eq_r (a b : α) : L.join a b = b ↔ L.le a b := by
 constructor
 ·intro h; rw [← h]; exact L.join_l _ _
 ·intro h; exact L.le_antisymm _ _ (L.join_le _ _ _ h (L.le_refl _)) (L.join_r _ _)
def Keeps : Prop := ∀ a b, L.le a b → L.join a (L.meet b (L.neg a)) = b
variable {L}
theorem keeps_iff_eq : L.Keeps ↔ ∀ a b, L.join a (L.meet (L.neg a) (L.join a b)) = L.join a b := by
 constructor
 ·intro K a b
  have:=K a (L.join a b) (L.join_l _ _)
  rwa [L.meet_comm] at this
 ·intro h a b hab
  have:=h a b
  rwa [(L.join_eq_r a b).2 hab,L.meet_comm] at this
end OL
end
theorem allN_false {n : Nat} {p : Nat → Bool} : allN n p = false ↔ ∃ i, i < n ∧ p i = false := by
 rw [← Bool.not_eq_true,allN_iff]
 constructor
 ·intro h
  apply Classical.byContradiction
  intro k
  exact h fun i hi=>by
   cases e:p i
   ·exact absurd ⟨i,hi,e⟩ k
   ·rfl
 ·rintro ⟨i,hi,e⟩ h
  rw [h i hi] at e
  exact absurd e (by simp)
end Oml
end
section
namespace Go.Proofs.Ytcbjpdaogicibaa.Print
open Go.RowKit Go.Proofs.YtcbjpdaogicibaaW.PrintWords Go.Proofs.YtcbjpdaogicibaaW.PrintLast Go.Proofs.YtcbjpdaogicibaaW.PrintMore
open Oml
theorem goesV_ {P : Program} {ops : Array Oper} {Q : Exit → Act → World → Prop} {rest : List Oper} {oi : Oper} {a : Act} {w : World} (N : Option Tmp) (hd : oi.dst = N) (hg : oi.guard = none) {f : FuncId} {fn : Func} {x : Operand} {xo : Array Operand} {ts : Array TypeId} {cs : Array Value}
 (hf : P.funcs[f]? = some fn) (hname : (fn.name == "runtime.NumGoroutine") = false) (hb : fn.body.isSome = true) (args : Array Value)
 (hop : oi.op = .call { callee := .value x, args := xo, argTypes := ts }) (hx : a.eval x = .func (.func f) #[] cs) (hargs : xo.map a.eval = args)
 (h : Calls P f (args ++ cs) w fun e w' => ∃ v, e = .returned v ∧ wpList P ops Q rest (a.put N v) w') : wpList P ops Q (oi :: rest) a w := by
 refine wpList_plain hg fun K hK => ?_
 have he := enters_ hf hname hb (args ++ cs) w
 have hrun : (execOp a.eval oi).run P w = .ok (.enter f (args ++ cs)) w := by
  unfold execOp
  simp [hop, resolve, Deferred.ofValue, invoke, hx, hargs, he]
 unfold Oper.wp
 rw [hrun, Oper.upon_enter]
 refine h.mono fun e w'' hh => ?_
 obtain ⟨v, rfl, hk⟩ := hh
 subst hd
 exact hK _ _ hk
set_option maxHeartbeats 1000000 in
set_option maxRecDepth 100000 in
theorem every_calls (g : Nat) (U : List (List Int)) (N : List Int) (v : Adr) (w : World) (hs : U.length ≤ 12) (fv : Nat) (fn : Func) (cs : Array Value) (hf : Try.prog.funcs[fv]? = some fn) (hname : (fn.name == "runtime.NumGoroutine") = false) (hb : fn.body.isSome = true)
 (p : Nat → Nat → Bool) (J : Nat → World → Prop) (hV : ∀ i w', J i w' → View w' g U N v) (hD : ∀ i w' n, J i w' → J i (w'.drewN n)) (h0 : J 0 w)
 (step : ∀ a b : Nat, a < U.length → b < U.length → ∀ w', J (a * U.length + b) w' → Calls Try.prog fv (#[.int .i64 a, .int .i64 b] ++ cs) w' fun e w'' => e = .returned (.bool (p a b)) ∧ J (a * U.length + b + 1) w'') :
 Calls Try.prog 71 #[.pointer (some ⟨g, 0, none⟩), .func (.func fv) #[] cs] w fun e w' =>
  e = .returned (.bool (allN U.length fun a => allN U.length fun b => p a b)) ∧ ∃ i, J i w' ∧ ((allN U.length fun a => allN U.length fun b => p a b) = true → i = U.length * U.length) := by
 obtain ⟨r, hr⟩ : ∃ r, r = allN U.length fun a => allN U.length fun b => p a b := ⟨_, rfl⟩
 rw [← hr]
 have hu70 := Try.underlying74
 have HF := Aside0.mk hf
 have HNM := Aside0.mk hname
 have HBD := Aside0.mk hb
 have HV := Aside0.mk hV
 have HD := Aside0.mk hD
 have HJ0 := Aside0.mk h0
 have HST := Aside0.mk step
 have HR := Aside0.mk hr
 have hf0 := (hV 0 w h0).f0
 clear hf hname hb hV hD h0 step hr
 go_enter Try.func71, Try.ntmps71
 go_wp2_with fail
 go_loopg [12] (U.length + 1) (fun kq v12 W => ∃ i s : Nat, v12 = .int .i64 i ∧ Aside0 (i + kq = U.length + 1) ∧ Aside0 (i ≤ U.length) ∧ Aside0 (s = i * U.length) ∧ Aside0 (∀ a, a < i → ∀ b, b < U.length → p a b = true) ∧ Aside0 (J s W))
 case atStart => exact ⟨0, 0, rfl, ⟨by omega⟩, ⟨by omega⟩, ⟨by simp⟩, ⟨fun j hj => absurd hj (by omega)⟩, ⟨by first | exact HJ0.out | exact HD.out _ _ _ HJ0.out⟩⟩
 case round =>
  clear hf0
  obtain ⟨i, s, rfl, HK, HK2, HSI, HS, HJ⟩ := hrel
  have hf0 := (HV.out _ _ HJ.out).f0
  cases gk with
  | zero => exact absurd HK.out (by have := HK2.out; omega)
  | succ kn =>
  by_cases hlt : i < U.length
  ·have hlt' : decide (i < U.length) = true := decide_eq_true hlt
   have HLT := Aside0.mk hlt
   clear hlt
   go_wp2_with fail
   go_loopg [20] (U.length + 1) (fun kq v20 W => ∃ j : Nat, v20 = .int .i64 j ∧ Aside0 (j + kq = U.length + 1) ∧ Aside0 (j ≤ U.length) ∧ Aside0 (∀ b, b < j → p i b = true) ∧ Aside0 (J (s + j) W))
   case atStart => exact ⟨0, rfl, ⟨by omega⟩, ⟨by omega⟩, ⟨fun j hj => absurd hj (by omega)⟩, ⟨by first | exact HJ.out | exact HD.out _ _ _ HJ.out⟩⟩
   case round =>
    clear hf0
    obtain ⟨j, rfl, HKj, HKj2, HSj, HJj⟩ := hrel
    cases gk with
    | zero => exact absurd HKj.out (by have := HKj2.out; omega)
    | succ kj =>
    by_cases hlj : j < U.length
    ·have hlj' : decide (j < U.length) = true := decide_eq_true hlj
     have HLJ := Aside0.mk hlj
     clear hlj
     cases hp : p i j with
     | true =>
      have HP := Aside0.mk hp
      clear hp
      go_wp2_with (refine goesV_ (some 26) rfl rfl HF.out HNM.out HBD.out #[.int .i64 i, .int .i64 j] rfl rfl zq171 ?_; refine (HST.out i j HLT.out HLJ.out _ ?sJ).mono ?_; (case sJ => exact zq218); rintro e w1 ⟨he, hj⟩; rw [HP.out] at he; subst he; refine ⟨_, rfl, ?_⟩; have HJ1 := Aside0.mk hj; clear hj)
      go_roundg kj
      case measure => omega
      case rel => exact ⟨j + 1, by first | go_num | (rw [wrap_small (by omega) (by have := HLJ.out; omega)]; go_num), ⟨by have := HKj.out; omega⟩, ⟨by have := HLJ.out; omega⟩, ⟨fun b hb => by
       rcases Nat.lt_or_ge b j with h | h
       ·exact HSj.out b h
       ·obtain rfl : b = j := by omega
        exact HP.out⟩, ⟨by have h1 := HJ1.out; rw [← HSI.out, Nat.add_assoc] at h1; first | exact h1 | exact HD.out _ _ _ h1⟩⟩
     | false =>
      have HP := Aside0.mk hp
      clear hp
      have hrf : r = false := by
       rw [HR.out]
       exact allN_false.2 ⟨i, HLT.out, allN_false.2 ⟨j, HLJ.out, HP.out⟩⟩
      subst hrf
      go_wp2_with (refine goesV_ (some 26) rfl rfl HF.out HNM.out HBD.out #[.int .i64 i, .int .i64 j] rfl rfl zq171 ?_; refine (HST.out i j HLT.out HLJ.out _ ?sJ).mono ?_; (case sJ => exact zq218); rintro e w1 ⟨he, hj⟩; rw [HP.out] at he; subst he; refine ⟨_, rfl, ?_⟩; have HJ1 := Aside0.mk hj; clear hj)
      go_ret
      exact ⟨rfl, _, by first | exact HJ1.out | exact HD.out _ _ _ HJ1.out, fun h => by cases h⟩
    ·have hlj' : decide (j < U.length) = false := decide_eq_false hlj
     obtain rfl : j = U.length := by have := HKj2.out; omega
     clear hlj
     go_wp2_with fail
     go_roundg kn
     case measure => omega
     case rel => exact ⟨i + 1, s + U.length, by first | go_num | (rw [wrap_small (by omega) (by have := HLT.out; omega)]; go_num), ⟨by have := HK.out; omega⟩, ⟨by have := HLT.out; omega⟩, ⟨by rw [Nat.succ_mul, HSI.out]⟩, ⟨fun a ha => by
      rcases Nat.lt_or_ge a i with h | h
      ·exact HS.out a h
      ·obtain rfl : a = i := by omega
       exact HSj.out⟩, ⟨by first | exact HJj.out | exact HD.out _ _ _ HJj.out⟩⟩
  ·have hlt' : decide (i < U.length) = false := decide_eq_false hlt
   obtain rfl : i = U.length := by have := HK2.out; omega
   have hrt : r = true := by
    rw [HR.out, allN_iff]
    intro a ha
    exact allN_iff.2 (HS.out a ha)
   subst hrt
   clear hlt
   go_wp2_with fail
   go_ret
   have hj := HJ.out
   rw [HSI.out] at hj
   exact ⟨rfl, by first | exact hj | exact HD.out _ _ _ hj⟩
theorem every_pure (g : Nat) (U : List (List Int)) (N : List Int) (v : Adr) (w : World) (hs : U.length ≤ 12) (hV : View w g U N v) (fv : Nat) (fn : Func) (cs : Array Value) (hf : Try.prog.funcs[fv]? = some fn) (hname : (fn.name == "runtime.NumGoroutine") = false) (hb : fn.body.isSome = true)
 (p : Nat → Nat → Bool) (step : ∀ a b : Nat, a < U.length → b < U.length → ∀ W, Below w.heap.size w W → Calls Try.prog fv (#[.int .i64 a, .int .i64 b] ++ cs) W fun e w'' => e = .returned (.bool (p a b)) ∧ Below W.heap.size W w'') :
 Calls Try.prog 71 #[.pointer (some ⟨g, 0, none⟩), .func (.func fv) #[] cs] w fun e w' => e = .returned (.bool (allN U.length fun a => allN U.length fun b => p a b)) ∧ Below w.heap.size w w' := by
 refine (every_calls g U N v w hs fv fn cs hf hname hb p (fun _ W => Below w.heap.size w W) (fun _ W h => hV.below h) (fun _ W n h => pw_below_drewN h n) (Below.refl _ _) (fun a b ha hb' W hW => ?_)).mono ?_
 ·refine (step a b ha hb' W hW).mono ?_
  rintro e w2 ⟨rfl, h2⟩
  exact ⟨rfl, below_step hW h2⟩
 ·rintro e w2 ⟨rfl, i, h2, _⟩
  exact ⟨rfl, h2⟩
def filI (n : Nat) (p : Nat → Bool) : List Int := ((List.range n).filter p).map fun (a : Nat) => (a : Int)
theorem filI_succ (n : Nat) (p : Nat → Bool) : filI (n + 1) p = if p n = true then filI n p ++ [(n : Int)] else filI n p := by
 unfold filI
 rw [List.range_succ,List.filter_append,List.map_append]
 cases h:p n <;> simp [h]
theorem filI_length (n : Nat) (p : Nat → Bool) : (filI n p).length ≤ n := by
 unfold filI
 rw [List.length_map]
 exact Nat.le_trans (List.length_filter_le _ _) (by simp)
set_option maxHeartbeats 1000000 in
set_option maxRecDepth 100000 in
theorem all_calls (g : Nat) (U : List (List Int)) (N : List Int) (v : Adr) (w : World) (hs : U.length ≤ 12) (hV : View w g U N v) (fv : Nat) (fn : Func) (cs : Array Value) (hf : Try.prog.funcs[fv]? = some fn) (hname : (fn.name == "runtime.NumGoroutine") = false) (hb : fn.body.isSome = true)
 (p : Nat → Bool) (step : ∀ a : Nat, a < U.length → ∀ W, Below w.heap.size w W → Calls Try.prog fv (#[.int .i64 a] ++ cs) W fun e w'' => e = .returned (.bool (p a)) ∧ Below W.heap.size W w'') :
 Calls Try.prog 73 #[.pointer (some ⟨g, 0, none⟩), .func (.func fv) #[] cs] w fun e w' => ∃ v0, e = .returned v0 ∧ Kd.R (Kd.int .i64) 3 w' w.heap.size (fun _ => True) v0 (filI U.length p) ∧ Below w.heap.size w w' := by
 have hu70 := Try.underlying74
 have HF := Aside0.mk hf
 have HNM := Aside0.mk hname
 have HBD := Aside0.mk hb
 have HV := Aside0.mk hV
 have HST := Aside0.mk step
 have HB := Aside0.mk (Below.refl w.heap.size w)
 have hf0 := hV.f0
 clear hf hname hb hV step
 go_enter Try.func73, Try.ntmps73
 go_wp2_with (first | ((with_reducible refine gate_dst (N := 7) rfl ?_); refine Kd.R_lit (Kd.int .i64) _ 3 ?hg (N := 7) ?hd (xs := ([] : List Int)) (inner := []) (ok := fun _ => True) (okp := fun _ => True) ?hr ?hp (fun _ hk => hk) trivial (Below.refl _ _) (Nat.le_refl _) (by simp) ?_; (case hd => rfl); (case hg => rfl); (case hr => first | (go_simp; done) | (go_simp; rfl)); (case hp => exact (Reps.none _ _)); intro v496 w4 ho5 hb hg_ hnew_; clear hg_ hnew_; have HO := Aside0.mk ho5; have HB2 := Aside0.mk (below_step HB.out hb); have hf0' := (HV.out.below hb).f0; clear HB hf0 ho5 hb))
 go_loopg [5, 13] (U.length + 1) (fun kq v5 v13 W => ∃ i : Nat, v13 = .int .i64 i ∧ Aside0 (i + kq = U.length + 1) ∧ Aside0 (i ≤ U.length) ∧ Aside0 (Kd.R (Kd.int .i64) 3 W w.heap.size (fun _ => True) v5 (filI i p)) ∧ Aside0 (Below w.heap.size w W))
 case atStart => exact ⟨0, rfl, ⟨by omega⟩, ⟨by omega⟩, ⟨zqfR HO.out⟩, ⟨by repeat (first | exact HB2.out | apply below_alloc | apply pw_below_drewN | apply below_drew1)⟩⟩
 case round =>
  clear hf0'
  obtain ⟨i, rfl, HK, HK2, HO1, HB1⟩ := hrel
  cases gk with
  | zero => exact absurd HK.out (by have := HK2.out; omega)
  | succ kn =>
  by_cases hlt : i < U.length
  ·have hlt' : decide (i < U.length) = true := decide_eq_true hlt
   have HLT := Aside0.mk hlt
   clear hlt
   cases hp : p i with
   | true =>
    have HP := Aside0.mk hp
    clear hp
    go_wp2_with (first | (refine goesV_ (some 18) rfl rfl HF.out HNM.out HBD.out #[.int .i64 i] rfl rfl zq171 ?_; refine (HST.out i HLT.out _ ?sJ).mono ?_; (case sJ => exact zq162); rintro e w1 ⟨he, hj⟩; rw [HP.out] at he; subst he; refine ⟨_, rfl, ?_⟩; have HB3 := Aside0.mk (below_step zq162 hj); have HO3 := Aside0.mk (Kd.R_below (zqfR HO1.out) hj); clear hj) | ((with_reducible refine gate_builtin (b := .append) (xs := #[.tmp 19, .tmp 21]) rfl ?_); at_builtin; refine Kd.R_append (Kd.int .i64) (w0 := w) w.heap.size rfl (.tmp 19) (.tmp 21) 24 3 (.int .i64 0) 8 rfl Try.underlying24 infoInt rfl (by decide) (by omega) u5 (filI i p) (i : Int) [.int .i64 i] (fun _ => True) (fun _ => False) rfl rfl ?aP (fun _ hk => hk.elim) ?aF ?aO ?aB ?aS ?aL ?_; (case aP => exact rfl); (case aB => exact zq184); (case aF => exact (fun _ _ => trivial)); (case aO => exact (zqfR HO3.out)); (case aS => exact (below_size zq184)); (case aL => have := filI_length i p; have := HLT.out; omega); intro v5n w21 ho hb hg hat; have HB4 := Aside0.mk hb; have HO4 := Aside0.mk ho; clear ho hb hg hat))
    go_roundg kn
    case measure => omega
    case rel => exact ⟨i + 1, by first | go_num | (rw [wrap_small (by omega) (by have := HLT.out; omega)]; go_num), ⟨by have := HK.out; omega⟩, ⟨by have := HLT.out; omega⟩, ⟨by rw [filI_succ, if_pos HP.out]; refine zqfR ?_; exact HO4.out⟩, ⟨by repeat (first | exact HB4.out | apply below_alloc | apply pw_below_drewN | apply below_drew1)⟩⟩
   | false =>
    have HP := Aside0.mk hp
    clear hp
    go_wp2_with (refine goesV_ (some 18) rfl rfl HF.out HNM.out HBD.out #[.int .i64 i] rfl rfl zq171 ?_; refine (HST.out i HLT.out _ ?sJ).mono ?_; (case sJ => exact zq162); rintro e w1 ⟨he, hj⟩; rw [HP.out] at he; subst he; refine ⟨_, rfl, ?_⟩; have HB3 := Aside0.mk (below_step zq162 hj); have HO3 := Aside0.mk (Kd.R_below (zqfR HO1.out) hj); clear hj)
    go_roundg kn
    case measure => omega
    case rel => exact ⟨i + 1, by first | go_num | (rw [wrap_small (by omega) (by have := HLT.out; omega)]; go_num), ⟨by have := HK.out; omega⟩, ⟨by have := HLT.out; omega⟩, ⟨by rw [filI_succ, if_neg (by rw [HP.out]; simp)]; refine zqfR ?_; exact HO3.out⟩, ⟨zq184⟩⟩
  ·have hlt' : decide (i < U.length) = false := decide_eq_false hlt
   obtain rfl : i = U.length := by have := HK2.out; omega
   clear hlt
   go_wp2_with fail
   go_ret
   exact ⟨_, rfl, zqfR HO1.out, by repeat (first | exact HB1.out | apply below_alloc | apply pw_below_drewN | apply below_drew1)⟩
theorem natcast_beq (x y : Nat) : ((x : Int) == (y : Int)) = (x == y) := by rw [Bool.eq_iff_iff, beq_iff_eq, beq_iff_eq]; constructor <;> intro h <;> omega
theorem filI_all (n : Nat) (p : Nat → Bool) : ((filI n p).length == n) = allN n p := by
 rw [Bool.eq_iff_iff,beq_iff_eq,allN_iff]
 unfold filI
 rw [List.length_map]
 constructor
 ·intro h i hi
  have h2:((List.range n).filter p).length=(List.range n).length:=by rw [h];simp
  have:=List.length_filter_eq_length_iff.1 h2 i (by simpa using hi)
  exact this
 ·intro h
  rw [List.filter_eq_self.2 (fun i hi=>h i (by simpa using hi))]
  simp
def splitB (U : List (List Int)) (a b c : Int) : Bool := andI U a (orI U b c) == orI U (andI U a b) (andI U a c)
theorem alg_split0.reads (g : Nat) (U : List (List Int)) (N : List Int) (v : Adr) (a : Int) (b : Int) (c : Int) (w : World) (L : Logic U N) (hV : View w g U N v) (ia : In U a) (ib : In U b) (ic : In U c) :
 Calls Try.prog 75 #[.pointer (some ⟨g,0,none⟩),.int .i64 a,.int .i64 b,.int .i64 c] w fun e w'=>e= .returned (.bool ((andI U a (orI U b c))==(orI U (andI U a b) (andI U a c))))∧Drawn0 w w':=by
 have hu70:=Try.underlying74
 have HV:=zqm hV
 have HLg:=zqm L
 have Ia:=zqm ia
 have Ib:=zqm ib
 have Ic:=zqm ic
 clear hV L ia ib ic
 have b0_:=eq_true Ib.out.1;have c0_:=eq_true Ib.out.2
 have b1_:=eq_true Ic.out.1;have c1_:=eq_true Ic.out.2
 have hf2_:=HV.out.f2
 have r3_:=HV.out.j b Ib.out
 have s4_:=HV.out.j2 b c Ib.out Ic.out
 have b5_:=eq_true Ia.out.1;have c5_:=eq_true Ia.out.2
 have IN1_:=zqm (HLg.out.in_or Ib.out Ic.out)
 have b6_:=eq_true IN1_.out.1;have c6_:=eq_true IN1_.out.2
 have hf1_:=HV.out.f1
 have r8_:=HV.out.m a Ia.out
 have s9_:=HV.out.m2 a (orI U b c) Ia.out IN1_.out
 have s10_:=HV.out.m2 a b Ia.out Ib.out
 have s11_:=HV.out.m2 a c Ia.out Ic.out
 have IN2_:=zqm (HLg.out.in_and Ia.out Ib.out)
 have b12_:=eq_true IN2_.out.1;have c12_:=eq_true IN2_.out.2
 have IN3_:=zqm (HLg.out.in_and Ia.out Ic.out)
 have b13_:=eq_true IN3_.out.1;have c13_:=eq_true IN3_.out.2
 have r14_:=HV.out.j (andI U a b) IN2_.out
 have s15_:=HV.out.j2 (andI U a b) (andI U a c) IN2_.out IN3_.out
 go_enter Try.func75,Try.ntmps75
 go_wp2_with fail
 go_quiet (fail)
 go_wp2
 go_ret
 exact⟨rfl,⟨⟨_,rfl⟩⟩⟩
theorem alg_split.reads (g : Nat) (U : List (List Int)) (N : List Int) (v : Adr) (a b c : Int) (w : World) (L : Logic U N) (hV : View w g U N v) (ia : In U a) (ib : In U b) (ic : In U c) :
 Calls Try.prog 75 #[.pointer (some ⟨g,0,none⟩),.int .i64 a,.int .i64 b,.int .i64 c] w fun e w'=>e= .returned (.bool (splitB U a b c))∧Drawn0 w w':=alg_split0.reads g U N v a b c w L hV ia ib ic
def booB (U : List (List Int)) : Bool := allN U.length fun a => allN U.length fun b => allN U.length fun c => splitB U a b c
theorem boo_c2 (g : Nat) (U : List (List Int)) (N : List Int) (v : Adr) (w : World) (L : Logic U N) (hV : View w g U N v) (gG gA gC : Nat) (a b c : Int) (ia : In U a) (ib : In U b) (ic : In U c)
 (hG:w.heap[gG]? =some (.cells #[.pointer (some ⟨g,0,none⟩)] 67 (0,0))) (hA:w.heap[gA]? =some (.cells #[.int .i64 a] 3 (0,0))) (hC:w.heap[gC]? =some (.cells #[.int .i64 c] 3 (0,0))):
 Calls Try.prog 74 #[.int .i64 b,.pointer (some ⟨gG,0,none⟩),.pointer (some ⟨gA,0,none⟩),.pointer (some ⟨gC,0,none⟩)] w fun e w'=>e= .returned (.bool (splitB U a c b))∧Below w.heap.size w w':=by
 have hu70:=Try.underlying74
 have HV:=zqm hV
 have HLg:=zqm L
 have Ia:=zqm ia
 have Ib:=zqm ib
 have Ic:=zqm ic
 have x0:w.cell? ⟨gG,0,none⟩=some (.pointer (some ⟨g,0,none⟩)):=(blk_cell hG 0).trans rfl
 have x1:w.cell? ⟨gA,0,none⟩=some (.int .i64 a):=(blk_cell hA 0).trans rfl
 have x2:w.cell? ⟨gC,0,none⟩=some (.int .i64 c):=(blk_cell hC 0).trans rfl
 clear hV L ia ib ic hG hA hC
 go_enter Try.func74,Try.ntmps74
 go_wp2_with (go_at_call 75;(with_reducible refine(alg_split.reads g U N v a c b _ HLg.out ?s1 Ia.out Ic.out Ib.out).mono ?_);(case s1=>repeat(first|exact HV.out|apply View.drewN));rintro e w' ⟨rfl,⟨⟨nd,rfl⟩⟩⟩)
 go_ret
 exact⟨rfl,by repeat(first|exact Below.refl _ _|apply pw_below_drewN|apply below_drew1)⟩
def boo_c1.T1 : Bool × List (List Nat × List Nat) := (true, [([], []), ([], []), ([0, 1], [0, 1]), ([2], [2]), ([], []), ([4], [4]), ([5], [5]), ([6], [6]), ([7], [7]), ([3, 8], [3, 8]), ([9, 2, 0, 1, 2, 3, 4, 5, 6, 7, 8, 9], [9])])
def boo_c1.B1 : List Nat := [0, 0, 3, 7, 0, 16, 48, 112, 240, 511, 1023]
theorem boo_c1.tab1 : rtab .any (opsOf Try.f72 1) = boo_c1.T1 := by kernel_rfl
theorem boo_c1.bits1 : waitsOk boo_c1.T1.2 boo_c1.B1 = true := by kernel_rfl
set_option maxHeartbeats 4000000 in
set_option maxRecDepth 100000 in
theorem boo_c1 (g : Nat) (U : List (List Int)) (N : List Int) (v : Adr) (w : World) (L : Logic U N) (hV : View w g U N v) (gG : Nat) (a c : Int) (ia : In U a) (ic : In U c) (hG : w.heap[gG]? = some (.cells #[.pointer (some ⟨g, 0, none⟩)] 67 (0, 0))) :
 Calls Try.prog 72 #[.int .i64 a,.int .i64 c,.pointer (some ⟨gG,0,none⟩)] w fun e w'=>e= .returned (.bool (allN U.length fun b=>splitB U a c b))∧Below w.heap.size w w':=by
 have hu70:=Try.underlying74
 have HV:=zqm hV
 have HLg:=zqm L
 have Ia:=zqm ia
 have Ic:=zqm ic
 have HG:=zqm hG
 clear hV L ia ic hG
 rw [← filI_all]
 go_enter Try.func72,Try.ntmps72
 go_wp2_with (first|((with_reducible refine gate_dst (N:=3) rfl ?_);refine box_event ?hg (N:=3) ?hd (cs:= #[.int .i64 a]) (t:=3) ?hr ?_;(case hd=>rfl);(case hg=>rfl);(case hr=> exact zq17);intro gA hg_ w1 hbox hb;have HXA:=zqm hbox;have HB1:=zqm hb;have HG1:=zqm (blk_below HG.out hb);have HV1:=zqm (HV.out.below hb);clear hbox hb hg_)|((with_reducible refine gate_dst (N:=4) rfl ?_);refine box_event ?hg (N:=4) ?hd (cs:= #[.int .i64 c]) (t:=3) ?hr ?_;(case hd=>rfl);(case hg=>rfl);(case hr=> exact zq17);intro gC hg_ w2 hbox hb;have HXC:=zqm hbox;have HB2:=zqm (below_step HB1.out hb);have HXA2:=zqm (blk_below HXA.out hb);have HG2:=zqm (blk_below HG1.out hb);have HV2:=zqm (HV1.out.below hb);clear HB1 HXA HG1 HV1;clear hbox hb hg_))
 refine start_ (n:=11) (S:=(fun w'=>w'.cell? ⟨gG,0,none⟩=some (.pointer (some ⟨g,0,none⟩))∧w'.cell? ⟨g,0,none⟩=some (.slice (some v.aU) U.length v.cU))) (ds:= []) (zqb 11 0) zqk rfl rfl ⟨(blk_cell (blk_drew HG2.out) 0).trans rfl,(HV2.out.below (below_drew1 (Below.refl _ _))).f0⟩ (fun hHeld=>?_)
 refine with_tabW boo_c1.tab1 boo_c1.bits1 (fun HT_ HW_=>?_)
 generalize hwd:w2.drew=wd at hHeld ⊢
 have HB3:=zqm (show Below w.heap.size w wd from hwd ▸ below_drew1 HB2.out)
 replace HG2:=zqm (hwd ▸ blk_drew HG2.out)
 replace HXA2:=zqm (hwd ▸ blk_drew HXA2.out)
 replace HXC:=zqm (hwd ▸ blk_drew HXC.out)
 replace HV2:=zqm (show View wd g U N v from hwd ▸ HV2.out.below (below_drew1 (Below.refl _ _)))
 clear hwd HB2
 refine zqw 0 6 (zqb 11 1) HT_ HW_ hHeld ?_
 refine zqp 1 7 (zqb 11 3) HT_ ?_
 refine zqw 4 10 (zqb 11 19) HT_ HW_ hHeld ?_
 refine zqp 5 11 (zqb 11 51) HT_ ?_
 refine zqp 6 12 (zqb 11 115) HT_ ?_
 refine zqw 7 13 (zqb 11 243) HT_ HW_ hHeld ?_
 refine zqp 8 14 (zqb 11 499) HT_ ?_
 refine one_ (i:=2) (N:=some 8) (zqb 11 503) rfl rfl (one_of HT_.out zqk) (by decide) (fun K hK=>?_)
 refine goes_ Try.func73 zqk rfl #[.pointer (some ⟨g,0,none⟩),.func (.func 74) #[] #[.pointer (some ⟨gG,0,none⟩),.pointer (some ⟨gA,0,none⟩),.pointer (some ⟨gC,0,none⟩)]] (by rfl) rfl rfl zq70 ?_
 refine(all_calls g U N v _ HLg.out.small HV2.out 74 _ _ Try.func74 zqk rfl (fun b:Nat=>splitB U a c b) (fun b hb W hW=>?_)).mono ?_
 ·exact boo_c2 g U N v W HLg.out (HV2.out.below hW) gG gA gC a b c Ia.out ⟨by omega,by omega⟩ Ic.out (blk_below HG2.out hW) (blk_below HXA2.out hW) (blk_below HXC.out hW)
 rintro e w4 ⟨vo,rfl,ho,hb⟩
 obtain⟨Ao,co,rfl⟩:=Kd.R_slice ho
 refine⟨_,rfl,?_⟩
 refine hK.out _ _ ⟨(blk_cell (blk_below HG2.out hb) 0).trans rfl,(HV2.out.below hb).f0⟩ (fun hHeld4=>?_)
 have HB4:=zqm (below_step HB3.out hb)
 clear hK K ho hb
 (try simp only [Act.put,List.setIfInBounds_toArray,List.set_cons_zero,List.set_cons_succ])
 refine zqp 3 9 (zqb 11 511) HT_ ?_
 refine zqp 9 15 (zqb 11 1023) HT_ ?_
 refine zqp 10 5 (zqb 11 2047) HT_ ?_
 refine done_ (done_of HT_.out zqk) ?_
 go_wp2
 go_ret
 refine⟨?_,zq243⟩
 show Ending.returned (Value.bool (((filI U.length fun b=>splitB U a c (b:Int)).length:Int)==(U.length:Int)))=_
 rw [natcast_beq]
def impl_BooleanOk.f (l0_0 : List (List Int)) (l0_1 : List Int) : Option (Bool) := some (if logicB l0_0 l0_1 = true then booB l0_0 else false)
set_option maxHeartbeats 4000000 in
set_option maxRecDepth 100000 in
theorem impl_BooleanOk.calls (A0_0 : Option Addr) (c0_0 : Nat) (l0_0 : List (List Int)) (A0_1 : Option Addr) (c0_1 : Nat) (l0_1 : List Int) (r : Bool) (w : World) (hr0_0 : Kd.C (Kd.slice 3 (Kd.int .i64)) w A0_0 l0_0.length l0_0) (hc0_0 : l0_0.length ≤ c0_0) (hr0_1 : Kd.C (Kd.int .i64) w A0_1 l0_1.length l0_1) (hc0_1 : l0_1.length ≤ c0_1) (h : impl_BooleanOk.f l0_0 l0_1 = some r) :
 Calls Try.prog 15 #[.agg #[.slice A0_0 l0_0.length c0_0,.slice A0_1 l0_1.length c0_1]] w fun e w'=>e= .returned (.bool r)∧Below w.heap.size w w':=by
 obtain⟨k,hF⟩:=told_facts l0_0
 have hu30:=Try.underlying26
 have hu70:=Try.underlying74
 have HF:=zqm hF
 have HR0:=zqm hr0_0
 have HC0:=zqm hc0_0
 have HR1:=zqm hr0_1
 have HC1:=zqm hc0_1
 simp only [impl_BooleanOk.f,Option.some.injEq] at h
 clear hr0_0 hc0_0 hr0_1 hc0_1 hF
 cases hL:logicB l0_0 l0_1 with
 |false=>
  rw [hL] at h
  have hr_:false=r:=by simpa using h
  subst hr_
  have HLB:=zqm hL
  clear h hL
  go_enter Try.func15,Try.ntmps15
  go_wp2_with (first|((with_reducible refine gate_dst (N:=1) rfl ?_);refine box_event ?hg (N:=1) ?hd (cs:= #[.slice A0_0 l0_0.length c0_0,.slice A0_1 l0_1.length c0_1]) (t:=26) ?hr ?_;(case hd=>rfl);(case hg=>rfl);(case hr=> exact zq17);intro gb hg_ w1 hbox hb;have HB:=zqm hb;have hx0:w1.cell? ⟨gb,0,none⟩=some (.slice A0_0 l0_0.length c0_0):=(blk_cell hbox 0).trans rfl;have hx1:w1.cell? ⟨gb,1,none⟩=some (.slice A0_1 l0_1.length c0_1):=(blk_cell hbox 1).trans rfl;have HX:=zqm hbox;clear hbox hb hg_)|(go_at_call 70;(with_reducible refine(told_n k _ _ l0_0 _ _ l0_1 _ ?s1 ?s2 ?s3 ?s4 HF.out HLB.out).mono ?_);(case s1=> exact zq61);(case s2=>exact HC0.out);(case s3=> exact zq64);(case s4=>exact HC1.out);rintro e w2 ⟨rfl,hb⟩;have HB2:=zqm (below_step HB.out hb);clear hb hx0 hx1 HX HB))
  go_ret
  exact⟨rfl,zq152⟩
 |true=>
  rw [hL] at h
  have hr_:booB l0_0=r:=by simpa using h
  subst hr_
  have HLB:=zqm hL
  have HLg:=zqm (logicB_iff.1 hL)
  clear h hL
  go_enter Try.func15,Try.ntmps15
  go_wp2_with (first|((with_reducible refine gate_dst (N:=1) rfl ?_);refine box_event ?hg (N:=1) ?hd (cs:= #[.slice A0_0 l0_0.length c0_0,.slice A0_1 l0_1.length c0_1]) (t:=26) ?hr ?_;(case hd=>rfl);(case hg=>rfl);(case hr=> exact zq17);intro gb hg_ w1 hbox hb;have HB:=zqm hb;have hx0:w1.cell? ⟨gb,0,none⟩=some (.slice A0_0 l0_0.length c0_0):=(blk_cell hbox 0).trans rfl;have hx1:w1.cell? ⟨gb,1,none⟩=some (.slice A0_1 l0_1.length c0_1):=(blk_cell hbox 1).trans rfl;have HX:=zqm hbox;clear hbox hb hg_)|(go_at_call 70;(with_reducible refine(told_y k _ _ l0_0 _ _ l0_1 _ ?s1 ?s2 ?s3 ?s4 HF.out HLB.out).mono ?_);(case s1=> exact zq61);(case s2=>exact HC0.out);(case s3=> exact zq64);(case s4=>exact HC1.out);rintro e w2 ⟨g,v,rfl,hv,hge,hb⟩;have HB2:=zqm (below_step HB.out hb);have HV:=zqm hv;clear hv hge hb hx0 hx1 HX HB)|(go_at_call 71;(with_reducible refine(every_pure g l0_0 l0_1 v _ HLg.out.small ?sV 72 _ #[.pointer (some ⟨w2.heap.size,0,none⟩)] Try.func72 zqk rfl (fun a c=>allN l0_0.length fun b=>splitB l0_0 a c b) ?sT).mono ?_);(case sV=>exact HV.out.below (below_alloc (Below.refl _ _) _));(case sT=>exact fun a c ha hc W hW=>boo_c1 g l0_0 l0_1 v W HLg.out ((HV.out.below (below_alloc (Below.refl _ _) _)).below hW) w2.heap.size a c ⟨by omega,by omega⟩ ⟨by omega,by omega⟩ (blk_below (MapKept.heap_alloc w2 _).1 hW));rintro e w3 ⟨rfl,hb⟩;have HB3:=zqm (below_step (below_step HB2.out (below_alloc (Below.refl _ _) _)) hb);clear hb))
  go_ret
  exact⟨rfl,zq200⟩
def keepT (U : List (List Int)) (N : List Int) (a b : Int) : Bool := (at2 U a.toNat b.toNat == 0) || (orI U a (andI U b (notI N a)) == b)
def keepB (U : List (List Int)) (N : List Int) : Bool := allN U.length fun a => allN U.length fun b => keepT U N a b
set_option maxHeartbeats 4000000 in
set_option maxRecDepth 100000 in
theorem keeps_c1 (g : Nat) (U : List (List Int)) (N : List Int) (v : Adr) (w : World) (L : Logic U N) (hV : View w g U N v) (gG : Nat) (a b : Int) (ia : In U a) (ib : In U b) (hG : w.heap[gG]? = some (.cells #[.pointer (some ⟨g, 0, none⟩)] 67 (0, 0))) :
 Calls Try.prog 82 #[.int .i64 a,.int .i64 b,.pointer (some ⟨gG,0,none⟩)] w fun e w'=>e= .returned (.bool (keepT U N a b))∧Below w.heap.size w w':=by
 have hu70:=Try.underlying74
 have HV:=zqm hV
 have HLg:=zqm L
 have Ia:=zqm ia
 have Ib:=zqm ib
 have x1:w.cell? ⟨gG,0,none⟩=some (.pointer (some ⟨g,0,none⟩)):=(blk_cell hG 0).trans rfl
 clear hV L ia ib hG
 have b0_:=eq_true Ia.out.1;have c0_:=eq_true Ia.out.2
 have b1_:=eq_true Ib.out.1;have c1_:=eq_true Ib.out.2
 have hf0_:=HV.out.f0
 have r3_:=HV.out.u a Ia.out
 have s4_:=HV.out.u2 a b Ia.out Ib.out
 have hf3_:=HV.out.f3
 have n6_:=HV.out.n a Ia.out
 have IN1_:=zqm (HLg.out.in_not Ia.out)
 have b7_:=eq_true IN1_.out.1;have c7_:=eq_true IN1_.out.2
 have hf1_:=HV.out.f1
 have r9_:=HV.out.m b Ib.out
 have s10_:=HV.out.m2 b (notI N a) Ib.out IN1_.out
 have IN2_:=zqm (HLg.out.in_and Ib.out IN1_.out)
 have b11_:=eq_true IN2_.out.1;have c11_:=eq_true IN2_.out.2
 have hf2_:=HV.out.f2
 have r13_:=HV.out.j a Ia.out
 have s14_:=HV.out.j2 a (andI U b (notI N a)) Ia.out IN2_.out
 unfold keepT
 cases hq:(at2 U a.toNat b.toNat==0) with
 |true=>
  rw [Bool.true_or]
  go_enter Try.func82,Try.ntmps82
  go_wp2_with fail
  go_quiet (fail)
  go_wp2
  go_ret
  exact⟨rfl,by repeat(first|exact Below.refl _ _|apply pw_below_drewN|apply below_drew1)⟩
 |false=>
  rw [Bool.false_or]
  go_enter Try.func82,Try.ntmps82
  go_wp2_with fail
  go_quiet (fail)
  go_wp2
  go_ret
  exact⟨rfl,by repeat(first|exact Below.refl _ _|apply pw_below_drewN|apply below_drew1)⟩
def impl_KeepsOk.f (l0_0 : List (List Int)) (l0_1 : List Int) : Option (Bool) := some (if logicB l0_0 l0_1 = true then keepB l0_0 l0_1 else false)
set_option maxHeartbeats 4000000 in
theorem impl_KeepsOk.calls (A0_0 : Option Addr) (c0_0 : Nat) (l0_0 : List (List Int)) (A0_1 : Option Addr) (c0_1 : Nat) (l0_1 : List Int) (r : Bool) (w : World) (hr0_0 : Kd.C (Kd.slice 3 (Kd.int .i64)) w A0_0 l0_0.length l0_0) (hc0_0 : l0_0.length ≤ c0_0) (hr0_1 : Kd.C (Kd.int .i64) w A0_1 l0_1.length l0_1) (hc0_1 : l0_1.length ≤ c0_1) (h : impl_KeepsOk.f l0_0 l0_1 = some r) :
 Calls Try.prog 19 #[.agg #[.slice A0_0 l0_0.length c0_0,.slice A0_1 l0_1.length c0_1]] w fun e w'=>e= .returned (.bool r)∧Below w.heap.size w w':=by
 obtain⟨k,hF⟩:=told_facts l0_0
 have hu30:=Try.underlying26
 have hu70:=Try.underlying74
 have HF:=zqm hF
 have HR0:=zqm hr0_0
 have HC0:=zqm hc0_0
 have HR1:=zqm hr0_1
 have HC1:=zqm hc0_1
 simp only [impl_KeepsOk.f,Option.some.injEq] at h
 clear hr0_0 hc0_0 hr0_1 hc0_1 hF
 cases hL:logicB l0_0 l0_1 with
 |false=>
  rw [hL] at h
  have hr_:false=r:=by simpa using h
  subst hr_
  have HLB:=zqm hL
  clear h hL
  go_enter Try.func19,Try.ntmps19
  go_wp2_with (first|((with_reducible refine gate_dst (N:=1) rfl ?_);refine box_event ?hg (N:=1) ?hd (cs:= #[.slice A0_0 l0_0.length c0_0,.slice A0_1 l0_1.length c0_1]) (t:=26) ?hr ?_;(case hd=>rfl);(case hg=>rfl);(case hr=> exact zq17);intro gb hg_ w1 hbox hb;have HB:=zqm hb;have hx0:w1.cell? ⟨gb,0,none⟩=some (.slice A0_0 l0_0.length c0_0):=(blk_cell hbox 0).trans rfl;have hx1:w1.cell? ⟨gb,1,none⟩=some (.slice A0_1 l0_1.length c0_1):=(blk_cell hbox 1).trans rfl;have HX:=zqm hbox;clear hbox hb hg_)|(go_at_call 70;(with_reducible refine(told_n k _ _ l0_0 _ _ l0_1 _ ?s1 ?s2 ?s3 ?s4 HF.out HLB.out).mono ?_);(case s1=> exact zq61);(case s2=>exact HC0.out);(case s3=> exact zq64);(case s4=>exact HC1.out);rintro e w2 ⟨rfl,hb⟩;have HB2:=zqm (below_step HB.out hb);clear hb hx0 hx1 HX HB))
  go_ret
  exact⟨rfl,zq152⟩
 |true=>
  rw [hL] at h
  have hr_:keepB l0_0 l0_1=r:=by simpa using h
  subst hr_
  have HLB:=zqm hL
  have HLg:=zqm (logicB_iff.1 hL)
  have HSM:=zqm (logicB_iff.1 hL).small
  clear h hL
  unfold keepB
  go_enter Try.func19,Try.ntmps19
  go_wp2_with (first|((with_reducible refine gate_dst (N:=1) rfl ?_);refine box_event ?hg (N:=1) ?hd (cs:= #[.slice A0_0 l0_0.length c0_0,.slice A0_1 l0_1.length c0_1]) (t:=26) ?hr ?_;(case hd=>rfl);(case hg=>rfl);(case hr=> exact zq17);intro gb hg_ w1 hbox hb;have HB:=zqm hb;have hx0:w1.cell? ⟨gb,0,none⟩=some (.slice A0_0 l0_0.length c0_0):=(blk_cell hbox 0).trans rfl;have hx1:w1.cell? ⟨gb,1,none⟩=some (.slice A0_1 l0_1.length c0_1):=(blk_cell hbox 1).trans rfl;have HX:=zqm hbox;clear hbox hb hg_)|(go_at_call 70;(with_reducible refine(told_y k _ _ l0_0 _ _ l0_1 _ ?s1 ?s2 ?s3 ?s4 HF.out HLB.out).mono ?_);(case s1=> exact zq61);(case s2=>exact HC0.out);(case s3=> exact zq64);(case s4=>exact HC1.out);rintro e w2 ⟨g,v,rfl,hv,hge,hb⟩;have HB2:=zqm (below_step HB.out hb);have HV:=zqm hv;clear hv hge hb hx0 hx1 HX HB)|(go_at_call 71;(with_reducible refine(every_pure g l0_0 l0_1 v _ HSM.out ?sV 82 _ #[.pointer (some ⟨w2.heap.size,0,none⟩)] Try.func82 zqk rfl (fun a b=>keepT l0_0 l0_1 a b) ?sT).mono ?_);(case sV=> exact zq244);(case sT=>exact fun a b ha hb W hW=>keeps_c1 g l0_0 l0_1 v W HLg.out ((View.alloc HV.out _).below hW) w2.heap.size a b ⟨by omega,by omega⟩ ⟨by omega,by omega⟩ (blk_below (MapKept.heap_alloc w2 _).1 hW));rintro e w4 ⟨rfl,hb⟩;have HB4:=zqm (below_step (below_alloc HB2.out _) hb);clear hb))
  go_ret
  exact⟨rfl,zq243⟩
def sameT (U : List (List Int)) (N : List Int) (f h : Fm) (a b c : Int) : Bool := valF U N a b c f == valF U N a b c h
def sameB (U : List (List Int)) (N : List Int) (f h : Fm) : Bool := allN U.length fun a => allN U.length fun b => allN U.length fun c => sameT U N f h a b c
def impl_SameOk_1.T4 : Bool × List (List Nat × List Nat) := (true, [([], []), ([], []), ([], []), ([], []), ([], []), ([2, 3, 4], [2, 3, 4]), ([0, 1, 5], [0, 1, 5]), ([], []), ([], []), ([], []), ([], []), ([], []), ([9, 10, 11], [9, 10, 11]), ([7, 8, 12, 6], [7, 8, 12]), ([6, 13], [6, 13])])
def impl_SameOk_1.B4 : List Nat := [0, 0, 0, 0, 0, 28, 63, 0, 0, 0, 0, 0, 3584, 8191, 16383]
theorem impl_SameOk_1.tab4 : rtab .any (opsOf Try.f120 4) = impl_SameOk_1.T4 := by kernel_rfl
theorem impl_SameOk_1.bits4 : waitsOk impl_SameOk_1.T4.2 impl_SameOk_1.B4 = true := by kernel_rfl
set_option maxHeartbeats 4000000 in
set_option maxRecDepth 100000 in
theorem same_c1 (g : Nat) (U : List (List Int)) (N : List Int) (v : Adr) (w : World) (L : Logic U N) (gG gF gH pf ph : Nat) (f h : Fm) (of : f.ok) (oh : h.ok) (a b : Int) (ia : In U a) (ib : In U b) (hI : SameI w g U N v gG gF gH pf ph f h) :
 Calls Try.prog 120 #[.int .i64 a,.int .i64 b,.pointer (some ⟨gG,0,none⟩),.pointer (some ⟨gF,0,none⟩),.pointer (some ⟨gH,0,none⟩)] w fun e w'=>e= .returned (.bool (allN U.length fun c=>sameT U N f h a b c))∧Below w.heap.size w w':=by
 obtain⟨r,hr⟩: ∃r,r=allN U.length fun c=>sameT U N f h a b c:=⟨_,rfl⟩
 rw [← hr]
 have hu70:=Try.underlying74
 have HR:=zqm hr
 have HLg:=zqm L
 have HSM:=zqm L.small
 have OF:=zqm of
 have OH:=zqm oh
 have Ia:=zqm ia
 have Ib:=zqm ib
 have HI0:=zqm hI
 have hg0:w.cell? ⟨gG,0,none⟩=some (.pointer (some ⟨g,0,none⟩)):=(blk_cell hI.bG 0).trans rfl
 have hf0:=hI.view.f0
 clear hr L of oh ia ib hI
 go_enter Try.func120,Try.ntmps120
 go_wp2_with fail
 go_loopg [14] (U.length+1) (fun kq v14 W=> ∃i:Nat,v14= .int .i64 i∧Aside0 (i+kq=U.length+1)∧Aside0 (i≤U.length)∧Aside0 (∀c:Nat,c<i→sameT U N f h a b c=true)∧Aside0 (SameI W g U N v gG gF gH pf ph f h)∧Aside0 (Below w.heap.size w W))
 case atStart=>exact⟨0,rfl,⟨by omega⟩,⟨by omega⟩,⟨fun j hj=>absurd hj (by omega)⟩,⟨by first|exact HI0.out|exact HI0.out.below (pw_below_drewN (Below.refl _ _) _)⟩,⟨zq193⟩⟩
 case round=>
  clear hg0 hf0 HI0
  obtain⟨i,rfl,HK,HK2,HS,HI,HB⟩:=hrel
  have hg0:=(blk_cell HI.out.bG 0).trans rfl
  have hf0:=HI.out.view.f0
  cases gk with
  |zero=>exact absurd HK.out (by have:=HK2.out;omega)
  |succ kn=>
  by_cases hlt:i<U.length
  ·have hlt':decide (i<U.length)=true:=decide_eq_true hlt
   have HLT:=zqm hlt
   have Ic:=zqm (show In U (i:Int) from ⟨by omega,by omega⟩)
   clear hlt
   obtain⟨x,hx⟩: ∃x,valF U N a b i f=x:=⟨_,rfl⟩
   obtain⟨y,hy⟩: ∃y,valF U N a b i h=y:=⟨_,rfl⟩
   have hT:sameT U N f h a b i=(x==y):=by rw [← hx,← hy];rfl
   have HX:=zqm hx
   have HY:=zqm hy
   clear hx hy
   by_cases hxy:x=y
   ·have HT:=zqm (show sameT U N f h a b i=true by rw [hT,hxy];simp)
    have q1:(x !=y)=false:=by rw [hxy];simp
    clear hT hxy
    go_wp2_with fail
    have HI1:=zqm (HI.out.below (below_drew1 (Below.refl _ _)))
    have HB1:=zqm (below_drew1 HB.out)
    clear hg0 hf0 HI HB
    refine start_ (n:=15) (S:=(fun w'=>w'.cell? ⟨gG,0,none⟩=some (.pointer (some ⟨g,0,none⟩))∧w'.cell? ⟨gF,0,none⟩=some (.pointer (some ⟨pf,0,none⟩))∧w'.cell? ⟨gH,0,none⟩=some (.pointer (some ⟨ph,0,none⟩)))) (ds:= []) (zqb 15 0) zqk rfl rfl ⟨(blk_cell HI1.out.bG 0).trans rfl,(blk_cell HI1.out.bF 0).trans rfl,(blk_cell HI1.out.bH 0).trans rfl⟩ (fun hHeld=>?_)
    refine with_tabW impl_SameOk_1.tab4 impl_SameOk_1.bits4 (fun HT_ HW_=>?_)
    generalize World.drew _=w1 at hHeld HI1 HB1 ⊢
    refine zqw 0 17 (zqb 15 1) HT_ HW_ hHeld ?_
    refine zqw 1 18 (zqb 15 3) HT_ HW_ hHeld ?_
    refine zqp 2 19 (zqb 15 7) HT_ ?_
    refine zqp 3 20 (zqb 15 15) HT_ ?_
    refine zqp 4 21 (zqb 15 31) HT_ ?_
    refine zqp 5 22 (zqb 15 63) HT_ ?_
    refine zqw 7 24 (zqb 15 191) HT_ HW_ hHeld ?_
    refine zqw 8 25 (zqb 15 447) HT_ HW_ hHeld ?_
    refine zqp 9 26 (zqb 15 959) HT_ ?_
    refine zqp 10 27 (zqb 15 1983) HT_ ?_
    refine zqp 11 28 (zqb 15 4031) HT_ ?_
    refine zqp 12 29 (zqb 15 8127) HT_ ?_
    refine one_ (i:=6) (N:=some 23) (zqb 15 8191) rfl rfl (one_of HT_.out zqk) (by decide) (fun K hK=>?_)
    refine goes_ Try.func104 zqk rfl #[.pointer (some ⟨g,0,none⟩),.pointer (some ⟨pf,0,none⟩),.agg #[.int .i64 a,.int .i64 b,.int .i64 (i:Int)]] (by rfl) rfl rfl zq70 ?_
    refine(value_calls g U N v HLg.out a b (i:Int) Ia.out Ib.out Ic.out f pf w1 HI1.out.view HI1.out.tf OF.out).mono ?_
    rintro e w2 ⟨he,hb⟩
    rw [HX.out] at he
    subst he
    refine⟨_,rfl,?_⟩
    have HI2:=zqm (HI1.out.below hb)
    have HB2:=zqm (below_step HB1.out hb)
    refine hK.out _ _ ⟨(blk_cell HI2.out.bG 0).trans rfl,(blk_cell HI2.out.bF 0).trans rfl,(blk_cell HI2.out.bH 0).trans rfl⟩ (fun hHeld2=>?_)
    clear hK K hb HI1 HB1
    refine norm_ (a':=?_) ?_ ?_
    rotate_left
    ·show Act.put _ (some 23) _=_
     simp only [Act.put,List.setIfInBounds_toArray,List.set_cons_zero,List.set_cons_succ,i64_w,i32_w]
     rfl
    refine one_ (i:=13) (N:=some 30) (zqb 15 16383) rfl rfl (one_of HT_.out zqk) (by decide) (fun K hK=>?_)
    refine goes_ Try.func104 zqk rfl #[.pointer (some ⟨g,0,none⟩),.pointer (some ⟨ph,0,none⟩),.agg #[.int .i64 a,.int .i64 b,.int .i64 (i:Int)]] (by rfl) rfl rfl zq70 ?_
    refine(value_calls g U N v HLg.out a b (i:Int) Ia.out Ib.out Ic.out h ph w2 HI2.out.view HI2.out.th OH.out).mono ?_
    rintro e w3 ⟨he,hb⟩
    rw [HY.out] at he
    subst he
    refine⟨_,rfl,?_⟩
    have HI3:=zqm (HI2.out.below hb)
    have HB3:=zqm (below_step HB2.out hb)
    refine hK.out _ _ ⟨(blk_cell HI3.out.bG 0).trans rfl,(blk_cell HI3.out.bF 0).trans rfl,(blk_cell HI3.out.bH 0).trans rfl⟩ (fun hHeld3=>?_)
    clear hK K hb HI2 HB2
    refine norm_ (a':=?_) ?_ ?_
    rotate_left
    ·show Act.put _ (some 30) _=_
     simp only [Act.put,List.setIfInBounds_toArray,List.set_cons_zero,List.set_cons_succ,i64_w,i32_w]
     rfl
    refine zqp 14 31 (zqb 15 32767) HT_ ?_
    refine done_ (done_of HT_.out zqk) ?_
    go_wp2
    go_roundg kn
    case measure=>omega
    case rel=>exact⟨i+1,zq217,⟨by have:=HK.out;omega⟩,⟨by have:=HLT.out;omega⟩,⟨fun c hc=>by
     rcases Nat.lt_or_ge c i with h|h
     ·exact HS.out c h
     ·obtain rfl:c=i:=by omega
      exact HT.out⟩,⟨by first|exact HI3.out|exact HI3.out.below (pw_below_drewN (Below.refl _ _) _)⟩,⟨zq200⟩⟩
   ·have hrf:r=false:=by
     rw [HR.out]
     exact allN_false.2 ⟨i,HLT.out,by rw [hT,beq_eq_false_iff_ne];exact hxy⟩
    subst hrf
    have q1:(x !=y)=true:=bne_iff_ne.2 hxy
    clear hT hxy
    go_wp2_with fail
    have HI1:=zqm (HI.out.below (below_drew1 (Below.refl _ _)))
    have HB1:=zqm (below_drew1 HB.out)
    clear hg0 hf0 HI HB
    refine start_ (n:=15) (S:=(fun w'=>w'.cell? ⟨gG,0,none⟩=some (.pointer (some ⟨g,0,none⟩))∧w'.cell? ⟨gF,0,none⟩=some (.pointer (some ⟨pf,0,none⟩))∧w'.cell? ⟨gH,0,none⟩=some (.pointer (some ⟨ph,0,none⟩)))) (ds:= []) (zqb 15 0) zqk rfl rfl ⟨(blk_cell HI1.out.bG 0).trans rfl,(blk_cell HI1.out.bF 0).trans rfl,(blk_cell HI1.out.bH 0).trans rfl⟩ (fun hHeld=>?_)
    refine with_tabW impl_SameOk_1.tab4 impl_SameOk_1.bits4 (fun HT_ HW_=>?_)
    generalize World.drew _=w1 at hHeld HI1 HB1 ⊢
    refine zqw 0 17 (zqb 15 1) HT_ HW_ hHeld ?_
    refine zqw 1 18 (zqb 15 3) HT_ HW_ hHeld ?_
    refine zqp 2 19 (zqb 15 7) HT_ ?_
    refine zqp 3 20 (zqb 15 15) HT_ ?_
    refine zqp 4 21 (zqb 15 31) HT_ ?_
    refine zqp 5 22 (zqb 15 63) HT_ ?_
    refine zqw 7 24 (zqb 15 191) HT_ HW_ hHeld ?_
    refine zqw 8 25 (zqb 15 447) HT_ HW_ hHeld ?_
    refine zqp 9 26 (zqb 15 959) HT_ ?_
    refine zqp 10 27 (zqb 15 1983) HT_ ?_
    refine zqp 11 28 (zqb 15 4031) HT_ ?_
    refine zqp 12 29 (zqb 15 8127) HT_ ?_
    refine one_ (i:=6) (N:=some 23) (zqb 15 8191) rfl rfl (one_of HT_.out zqk) (by decide) (fun K hK=>?_)
    refine goes_ Try.func104 zqk rfl #[.pointer (some ⟨g,0,none⟩),.pointer (some ⟨pf,0,none⟩),.agg #[.int .i64 a,.int .i64 b,.int .i64 (i:Int)]] (by rfl) rfl rfl zq70 ?_
    refine(value_calls g U N v HLg.out a b (i:Int) Ia.out Ib.out Ic.out f pf w1 HI1.out.view HI1.out.tf OF.out).mono ?_
    rintro e w2 ⟨he,hb⟩
    rw [HX.out] at he
    subst he
    refine⟨_,rfl,?_⟩
    have HI2:=zqm (HI1.out.below hb)
    have HB2:=zqm (below_step HB1.out hb)
    refine hK.out _ _ ⟨(blk_cell HI2.out.bG 0).trans rfl,(blk_cell HI2.out.bF 0).trans rfl,(blk_cell HI2.out.bH 0).trans rfl⟩ (fun hHeld2=>?_)
    clear hK K hb HI1 HB1
    refine norm_ (a':=?_) ?_ ?_
    rotate_left
    ·show Act.put _ (some 23) _=_
     simp only [Act.put,List.setIfInBounds_toArray,List.set_cons_zero,List.set_cons_succ,i64_w,i32_w]
     rfl
    refine one_ (i:=13) (N:=some 30) (zqb 15 16383) rfl rfl (one_of HT_.out zqk) (by decide) (fun K hK=>?_)
    refine goes_ Try.func104 zqk rfl #[.pointer (some ⟨g,0,none⟩),.pointer (some ⟨ph,0,none⟩),.agg #[.int .i64 a,.int .i64 b,.int .i64 (i:Int)]] (by rfl) rfl rfl zq70 ?_
    refine(value_calls g U N v HLg.out a b (i:Int) Ia.out Ib.out Ic.out h ph w2 HI2.out.view HI2.out.th OH.out).mono ?_
    rintro e w3 ⟨he,hb⟩
    rw [HY.out] at he
    subst he
    refine⟨_,rfl,?_⟩
    have HI3:=zqm (HI2.out.below hb)
    have HB3:=zqm (below_step HB2.out hb)
    refine hK.out _ _ ⟨(blk_cell HI3.out.bG 0).trans rfl,(blk_cell HI3.out.bF 0).trans rfl,(blk_cell HI3.out.bH 0).trans rfl⟩ (fun hHeld3=>?_)
    clear hK K hb HI2 HB2
    refine norm_ (a':=?_) ?_ ?_
    rotate_left
    ·show Act.put _ (some 30) _=_
     simp only [Act.put,List.setIfInBounds_toArray,List.set_cons_zero,List.set_cons_succ,i64_w,i32_w]
     rfl
    refine zqp 14 31 (zqb 15 32767) HT_ ?_
    refine done_ (done_of HT_.out zqk) ?_
    go_wp2
    go_ret
    exact⟨rfl,zq200⟩
  ·have hlt':decide (i<U.length)=false:=decide_eq_false hlt
   obtain rfl:i=U.length:=by have:=HK2.out;omega
   have hrt:r=true:=by
    rw [HR.out,allN_iff]
    intro c hc
    exact HS.out c hc
   subst hrt
   clear hlt
   go_wp2_with fail
   go_ret
   exact⟨rfl,by repeat(first|exact HB.out|apply pw_below_drewN|apply below_drew1)⟩
def sameO (U : List (List Int)) (N : List Int) : Option Fm → Option Fm → Bool
 | some f, some h => logicB U N && sameB U N f h
 | _, _ => false
theorem same_start (W : World) {g : Nat} {U : List (List Int)} {N : List Int} {v : Adr} {pf ph : Nat} {f h : Fm} (hV : View W g U N v) (hf : FAt W pf f) (hh : FAt W ph h) :
 SameI (((W.alloc (.cells #[.pointer (some ⟨g,0,none⟩)] 67)).alloc (.cells #[.pointer (some ⟨pf,0,none⟩)] 94)).alloc (.cells #[.pointer (some ⟨ph,0,none⟩)] 94)) g U N v W.heap.size (W.heap.size+1) (W.heap.size+1+1) pf ph f h:=by
 have h2:=blk2 W (.cells #[.pointer (some ⟨g,0,none⟩)] 67) (.cells #[.pointer (some ⟨pf,0,none⟩)] 94)
 have h3:=(MapKept.heap_alloc ((W.alloc (.cells #[.pointer (some ⟨g,0,none⟩)] 67)).alloc (.cells #[.pointer (some ⟨pf,0,none⟩)] 94)) (.cells #[.pointer (some ⟨ph,0,none⟩)] 94)).1
 rw [size_al,size_al] at h3
 have hb:Below W.heap.size W (((W.alloc (.cells #[.pointer (some ⟨g,0,none⟩)] 67)).alloc (.cells #[.pointer (some ⟨pf,0,none⟩)] 94)).alloc (.cells #[.pointer (some ⟨ph,0,none⟩)] 94)):=below_alloc (below_alloc (below_alloc (Below.refl _ _) _) _) _
 exact { view:=hV.below hb,bG:=blk_alloc h2.2 _,bF:=blk_alloc h2.1 _,bH:=h3,tf:=FAt.below hb _ _ hf,th:=FAt.below hb _ _ hh }
def impl_SameOk.f (l0_0 : List (List Int)) (l0_1 : List Int) (a1 : ByteArray) (a2 : ByteArray) : Option (Bool) := some (sameO l0_0 l0_1 (fmOf a1) (fmOf a2))
set_option maxHeartbeats 4000000 in
set_option maxRecDepth 100000 in
theorem impl_SameOk.calls (A0_0 : Option Addr) (c0_0 : Nat) (l0_0 : List (List Int)) (A0_1 : Option Addr) (c0_1 : Nat) (l0_1 : List Int) (a1 : ByteArray) (a2 : ByteArray) (r : Bool) (w : World) (hr0_0 : Kd.C (Kd.slice 3 (Kd.int .i64)) w A0_0 l0_0.length l0_0) (hc0_0 : l0_0.length ≤ c0_0) (hr0_1 : Kd.C (Kd.int .i64) w A0_1 l0_1.length l0_1) (hc0_1 : l0_1.length ≤ c0_1) (h : impl_SameOk.f l0_0 l0_1 a1 a2 = some r) :
 Calls Try.prog 53 #[.agg #[.slice A0_0 l0_0.length c0_0,.slice A0_1 l0_1.length c0_1],.string a1,.string a2] w fun e w'=>e= .returned (.bool r)∧Below w.heap.size w w':=by
 obtain⟨k,hF⟩:=told_facts l0_0
 have hu30:=Try.underlying26
 have hu70:=Try.underlying74
 have HF:=zqm hF
 have HR0:=zqm hr0_0
 have HC0:=zqm hc0_0
 have HR1:=zqm hr0_1
 have HC1:=zqm hc0_1
 simp only [impl_SameOk.f,Option.some.injEq] at h
 clear hr0_0 hc0_0 hr0_1 hc0_1 hF
 cases hL:logicB l0_0 l0_1 with
 |false=>
  cases h1:fmOf a1 with
  |none=>
   cases h2:fmOf a2 with
   |none=>
    have HLB:=zqm hL
    have HF1:=zqm h1
    have HF2:=zqm h2
    rw [h1,h2] at h
    have hr_:false=r:=by rw [← h];simp [sameO,hL]
    subst hr_
    clear h hL h1 h2
    go_enter Try.func53,Try.ntmps53
    go_wp2_with (first|((with_reducible refine gate_dst (N:=3) rfl ?_);refine box_event ?hg (N:=3) ?hd (cs:= #[.slice A0_0 l0_0.length c0_0,.slice A0_1 l0_1.length c0_1]) (t:=26) ?hr ?_;(case hd=>rfl);(case hg=>rfl);(case hr=> exact zq17);intro gb hg_ w1 hbox hb;have HB:=zqm hb;have hx0:w1.cell? ⟨gb,0,none⟩=some (.slice A0_0 l0_0.length c0_0):=(blk_cell hbox 0).trans rfl;have hx1:w1.cell? ⟨gb,1,none⟩=some (.slice A0_1 l0_1.length c0_1):=(blk_cell hbox 1).trans rfl;have HX:=zqm hbox;clear hbox hb hg_)|(go_at_call 70;(with_reducible refine(told_n k _ _ l0_0 _ _ l0_1 _ ?s1 ?s2 ?s3 ?s4 HF.out HLB.out).mono ?_);(case s1=> exact zq61);(case s2=>exact HC0.out);(case s3=> exact zq64);(case s4=>exact HC1.out);rintro e w2 ⟨rfl,hb⟩;have HB2:=zqm (below_step HB.out hb);clear hb hx0 hx1 HX HB)|(go_at_call 103;(with_reducible refine(formulaOf_calls a1 _).mono ?_);rintro e w3 ⟨hb,hm⟩;rw [HF1.out] at hm;obtain rfl:=hm;have HB3:=zqm (below_step HB2.out hb);clear hb)|(go_at_call 103;(with_reducible refine(formulaOf_calls a2 _).mono ?_);rintro e w4 ⟨hb,hm⟩;rw [HF2.out] at hm;obtain rfl:=hm;have HB4:=zqm (below_step HB3.out hb);clear hb))
    go_ret
    exact⟨rfl,zq73⟩
   |some f2=>
    have HLB:=zqm hL
    have HF1:=zqm h1
    have HF2:=zqm h2
    rw [h1,h2] at h
    have hr_:false=r:=by rw [← h];simp [sameO,hL]
    subst hr_
    clear h hL h1 h2
    go_enter Try.func53,Try.ntmps53
    go_wp2_with (first|((with_reducible refine gate_dst (N:=3) rfl ?_);refine box_event ?hg (N:=3) ?hd (cs:= #[.slice A0_0 l0_0.length c0_0,.slice A0_1 l0_1.length c0_1]) (t:=26) ?hr ?_;(case hd=>rfl);(case hg=>rfl);(case hr=> exact zq17);intro gb hg_ w1 hbox hb;have HB:=zqm hb;have hx0:w1.cell? ⟨gb,0,none⟩=some (.slice A0_0 l0_0.length c0_0):=(blk_cell hbox 0).trans rfl;have hx1:w1.cell? ⟨gb,1,none⟩=some (.slice A0_1 l0_1.length c0_1):=(blk_cell hbox 1).trans rfl;have HX:=zqm hbox;clear hbox hb hg_)|(go_at_call 70;(with_reducible refine(told_n k _ _ l0_0 _ _ l0_1 _ ?s1 ?s2 ?s3 ?s4 HF.out HLB.out).mono ?_);(case s1=> exact zq61);(case s2=>exact HC0.out);(case s3=> exact zq64);(case s4=>exact HC1.out);rintro e w2 ⟨rfl,hb⟩;have HB2:=zqm (below_step HB.out hb);clear hb hx0 hx1 HX HB)|(go_at_call 103;(with_reducible refine(formulaOf_calls a1 _).mono ?_);rintro e w3 ⟨hb,hm⟩;rw [HF1.out] at hm;obtain rfl:=hm;have HB3:=zqm (below_step HB2.out hb);clear hb)|(go_at_call 103;(with_reducible refine(formulaOf_calls a2 _).mono ?_);rintro e w4 ⟨hb,hm⟩;rw [HF2.out] at hm;obtain⟨ph,rfl,hf⟩:=hm;have HFph:=zqm hf;have HB4:=zqm (below_step HB3.out hb);clear hb hf))
    go_ret
    exact⟨rfl,zq73⟩
  |some f1=>
   cases h2:fmOf a2 with
   |none=>
    have HLB:=zqm hL
    have HF1:=zqm h1
    have HF2:=zqm h2
    rw [h1,h2] at h
    have hr_:false=r:=by rw [← h];simp [sameO,hL]
    subst hr_
    clear h hL h1 h2
    go_enter Try.func53,Try.ntmps53
    go_wp2_with (first|((with_reducible refine gate_dst (N:=3) rfl ?_);refine box_event ?hg (N:=3) ?hd (cs:= #[.slice A0_0 l0_0.length c0_0,.slice A0_1 l0_1.length c0_1]) (t:=26) ?hr ?_;(case hd=>rfl);(case hg=>rfl);(case hr=> exact zq17);intro gb hg_ w1 hbox hb;have HB:=zqm hb;have hx0:w1.cell? ⟨gb,0,none⟩=some (.slice A0_0 l0_0.length c0_0):=(blk_cell hbox 0).trans rfl;have hx1:w1.cell? ⟨gb,1,none⟩=some (.slice A0_1 l0_1.length c0_1):=(blk_cell hbox 1).trans rfl;have HX:=zqm hbox;clear hbox hb hg_)|(go_at_call 70;(with_reducible refine(told_n k _ _ l0_0 _ _ l0_1 _ ?s1 ?s2 ?s3 ?s4 HF.out HLB.out).mono ?_);(case s1=> exact zq61);(case s2=>exact HC0.out);(case s3=> exact zq64);(case s4=>exact HC1.out);rintro e w2 ⟨rfl,hb⟩;have HB2:=zqm (below_step HB.out hb);clear hb hx0 hx1 HX HB)|(go_at_call 103;(with_reducible refine(formulaOf_calls a1 _).mono ?_);rintro e w3 ⟨hb,hm⟩;rw [HF1.out] at hm;obtain⟨pf,rfl,hf⟩:=hm;have HFpf:=zqm hf;have HB3:=zqm (below_step HB2.out hb);clear hb hf)|(go_at_call 103;(with_reducible refine(formulaOf_calls a2 _).mono ?_);rintro e w4 ⟨hb,hm⟩;rw [HF2.out] at hm;obtain rfl:=hm;have HB4:=zqm (below_step HB3.out hb);have HFpf:=zqm (FAt.below hb _ _ HFpf.out);clear hb))
    go_ret
    exact⟨rfl,zq73⟩
   |some f2=>
    have HLB:=zqm hL
    have HF1:=zqm h1
    have HF2:=zqm h2
    rw [h1,h2] at h
    have hr_:false=r:=by rw [← h];simp [sameO,hL]
    subst hr_
    clear h hL h1 h2
    go_enter Try.func53,Try.ntmps53
    go_wp2_with (first|((with_reducible refine gate_dst (N:=3) rfl ?_);refine box_event ?hg (N:=3) ?hd (cs:= #[.slice A0_0 l0_0.length c0_0,.slice A0_1 l0_1.length c0_1]) (t:=26) ?hr ?_;(case hd=>rfl);(case hg=>rfl);(case hr=> exact zq17);intro gb hg_ w1 hbox hb;have HB:=zqm hb;have hx0:w1.cell? ⟨gb,0,none⟩=some (.slice A0_0 l0_0.length c0_0):=(blk_cell hbox 0).trans rfl;have hx1:w1.cell? ⟨gb,1,none⟩=some (.slice A0_1 l0_1.length c0_1):=(blk_cell hbox 1).trans rfl;have HX:=zqm hbox;clear hbox hb hg_)|(go_at_call 70;(with_reducible refine(told_n k _ _ l0_0 _ _ l0_1 _ ?s1 ?s2 ?s3 ?s4 HF.out HLB.out).mono ?_);(case s1=> exact zq61);(case s2=>exact HC0.out);(case s3=> exact zq64);(case s4=>exact HC1.out);rintro e w2 ⟨rfl,hb⟩;have HB2:=zqm (below_step HB.out hb);clear hb hx0 hx1 HX HB)|(go_at_call 103;(with_reducible refine(formulaOf_calls a1 _).mono ?_);rintro e w3 ⟨hb,hm⟩;rw [HF1.out] at hm;obtain⟨pf,rfl,hf⟩:=hm;have HFpf:=zqm hf;have HB3:=zqm (below_step HB2.out hb);clear hb hf)|(go_at_call 103;(with_reducible refine(formulaOf_calls a2 _).mono ?_);rintro e w4 ⟨hb,hm⟩;rw [HF2.out] at hm;obtain⟨ph,rfl,hf⟩:=hm;have HFph:=zqm hf;have HB4:=zqm (below_step HB3.out hb);have HFpf:=zqm (FAt.below hb _ _ HFpf.out);clear hb hf))
    go_ret
    exact⟨rfl,zq73⟩
 |true=>
  cases h1:fmOf a1 with
  |none=>
   cases h2:fmOf a2 with
   |none=>
    have HLB:=zqm hL
    have HF1:=zqm h1
    have HF2:=zqm h2
    rw [h1,h2] at h
    have hr_:false=r:=by rw [← h];simp [sameO,hL]
    subst hr_
    clear h hL h1 h2
    go_enter Try.func53,Try.ntmps53
    go_wp2_with (first|((with_reducible refine gate_dst (N:=3) rfl ?_);refine box_event ?hg (N:=3) ?hd (cs:= #[.slice A0_0 l0_0.length c0_0,.slice A0_1 l0_1.length c0_1]) (t:=26) ?hr ?_;(case hd=>rfl);(case hg=>rfl);(case hr=> exact zq17);intro gb hg_ w1 hbox hb;have HB:=zqm hb;have hx0:w1.cell? ⟨gb,0,none⟩=some (.slice A0_0 l0_0.length c0_0):=(blk_cell hbox 0).trans rfl;have hx1:w1.cell? ⟨gb,1,none⟩=some (.slice A0_1 l0_1.length c0_1):=(blk_cell hbox 1).trans rfl;have HX:=zqm hbox;clear hbox hb hg_)|(go_at_call 70;(with_reducible refine(told_y k _ _ l0_0 _ _ l0_1 _ ?s1 ?s2 ?s3 ?s4 HF.out HLB.out).mono ?_);(case s1=> exact zq61);(case s2=>exact HC0.out);(case s3=> exact zq64);(case s4=>exact HC1.out);rintro e w2 ⟨g,v,rfl,hv,hge,hb⟩;have HB2:=zqm (below_step HB.out hb);have HV:=zqm hv;clear hv hge hb hx0 hx1 HX HB)|(go_at_call 103;(with_reducible refine(formulaOf_calls a1 _).mono ?_);rintro e w3 ⟨hb,hm⟩;rw [HF1.out] at hm;obtain rfl:=hm;have HB3:=zqm (below_step HB2.out hb);have HV3:=zqm (View.below HV.out hb);clear hb)|(go_at_call 103;(with_reducible refine(formulaOf_calls a2 _).mono ?_);rintro e w4 ⟨hb,hm⟩;rw [HF2.out] at hm;obtain rfl:=hm;have HB4:=zqm (below_step HB3.out hb);have HV4:=zqm (View.below HV3.out hb);clear hb))
    go_ret
    exact⟨rfl,zq73⟩
   |some f2=>
    have HLB:=zqm hL
    have HF1:=zqm h1
    have HF2:=zqm h2
    rw [h1,h2] at h
    have hr_:false=r:=by rw [← h];simp [sameO,hL]
    subst hr_
    clear h hL h1 h2
    go_enter Try.func53,Try.ntmps53
    go_wp2_with (first|((with_reducible refine gate_dst (N:=3) rfl ?_);refine box_event ?hg (N:=3) ?hd (cs:= #[.slice A0_0 l0_0.length c0_0,.slice A0_1 l0_1.length c0_1]) (t:=26) ?hr ?_;(case hd=>rfl);(case hg=>rfl);(case hr=> exact zq17);intro gb hg_ w1 hbox hb;have HB:=zqm hb;have hx0:w1.cell? ⟨gb,0,none⟩=some (.slice A0_0 l0_0.length c0_0):=(blk_cell hbox 0).trans rfl;have hx1:w1.cell? ⟨gb,1,none⟩=some (.slice A0_1 l0_1.length c0_1):=(blk_cell hbox 1).trans rfl;have HX:=zqm hbox;clear hbox hb hg_)|(go_at_call 70;(with_reducible refine(told_y k _ _ l0_0 _ _ l0_1 _ ?s1 ?s2 ?s3 ?s4 HF.out HLB.out).mono ?_);(case s1=> exact zq61);(case s2=>exact HC0.out);(case s3=> exact zq64);(case s4=>exact HC1.out);rintro e w2 ⟨g,v,rfl,hv,hge,hb⟩;have HB2:=zqm (below_step HB.out hb);have HV:=zqm hv;clear hv hge hb hx0 hx1 HX HB)|(go_at_call 103;(with_reducible refine(formulaOf_calls a1 _).mono ?_);rintro e w3 ⟨hb,hm⟩;rw [HF1.out] at hm;obtain rfl:=hm;have HB3:=zqm (below_step HB2.out hb);have HV3:=zqm (View.below HV.out hb);clear hb)|(go_at_call 103;(with_reducible refine(formulaOf_calls a2 _).mono ?_);rintro e w4 ⟨hb,hm⟩;rw [HF2.out] at hm;obtain⟨ph,rfl,hf⟩:=hm;have HFph:=zqm hf;have HB4:=zqm (below_step HB3.out hb);have HV4:=zqm (View.below HV3.out hb);clear hb hf))
    go_ret
    exact⟨rfl,zq73⟩
  |some f1=>
   cases h2:fmOf a2 with
   |none=>
    have HLB:=zqm hL
    have HF1:=zqm h1
    have HF2:=zqm h2
    rw [h1,h2] at h
    have hr_:false=r:=by rw [← h];simp [sameO,hL]
    subst hr_
    clear h hL h1 h2
    go_enter Try.func53,Try.ntmps53
    go_wp2_with (first|((with_reducible refine gate_dst (N:=3) rfl ?_);refine box_event ?hg (N:=3) ?hd (cs:= #[.slice A0_0 l0_0.length c0_0,.slice A0_1 l0_1.length c0_1]) (t:=26) ?hr ?_;(case hd=>rfl);(case hg=>rfl);(case hr=> exact zq17);intro gb hg_ w1 hbox hb;have HB:=zqm hb;have hx0:w1.cell? ⟨gb,0,none⟩=some (.slice A0_0 l0_0.length c0_0):=(blk_cell hbox 0).trans rfl;have hx1:w1.cell? ⟨gb,1,none⟩=some (.slice A0_1 l0_1.length c0_1):=(blk_cell hbox 1).trans rfl;have HX:=zqm hbox;clear hbox hb hg_)|(go_at_call 70;(with_reducible refine(told_y k _ _ l0_0 _ _ l0_1 _ ?s1 ?s2 ?s3 ?s4 HF.out HLB.out).mono ?_);(case s1=> exact zq61);(case s2=>exact HC0.out);(case s3=> exact zq64);(case s4=>exact HC1.out);rintro e w2 ⟨g,v,rfl,hv,hge,hb⟩;have HB2:=zqm (below_step HB.out hb);have HV:=zqm hv;clear hv hge hb hx0 hx1 HX HB)|(go_at_call 103;(with_reducible refine(formulaOf_calls a1 _).mono ?_);rintro e w3 ⟨hb,hm⟩;rw [HF1.out] at hm;obtain⟨pf,rfl,hf⟩:=hm;have HFpf:=zqm hf;have HB3:=zqm (below_step HB2.out hb);have HV3:=zqm (View.below HV.out hb);clear hb hf)|(go_at_call 103;(with_reducible refine(formulaOf_calls a2 _).mono ?_);rintro e w4 ⟨hb,hm⟩;rw [HF2.out] at hm;obtain rfl:=hm;have HB4:=zqm (below_step HB3.out hb);have HV4:=zqm (View.below HV3.out hb);have HFpf:=zqm (FAt.below hb _ _ HFpf.out);clear hb))
    go_ret
    exact⟨rfl,zq73⟩
   |some f2=>
    have HLB:=zqm hL
    have HLg:=zqm (logicB_iff.1 hL)
    have HSM:=zqm (logicB_iff.1 hL).small
    have OF:=zqm (fmOf_ok h1)
    have OH:=zqm (fmOf_ok h2)
    have HF1:=zqm h1
    have HF2:=zqm h2
    rw [h1,h2] at h
    have hr_:sameB l0_0 l0_1 f1 f2=r:=by rw [← h];simp [sameO,hL]
    subst hr_
    clear h hL h1 h2
    unfold sameB
    go_enter Try.func53,Try.ntmps53
    go_wp2_with (first|((with_reducible refine gate_dst (N:=3) rfl ?_);refine box_event ?hg (N:=3) ?hd (cs:= #[.slice A0_0 l0_0.length c0_0,.slice A0_1 l0_1.length c0_1]) (t:=26) ?hr ?_;(case hd=>rfl);(case hg=>rfl);(case hr=> exact zq17);intro gb hg_ w1 hbox hb;have HB:=zqm hb;have hx0:w1.cell? ⟨gb,0,none⟩=some (.slice A0_0 l0_0.length c0_0):=(blk_cell hbox 0).trans rfl;have hx1:w1.cell? ⟨gb,1,none⟩=some (.slice A0_1 l0_1.length c0_1):=(blk_cell hbox 1).trans rfl;have HX:=zqm hbox;clear hbox hb hg_)|(go_at_call 70;(with_reducible refine(told_y k _ _ l0_0 _ _ l0_1 _ ?s1 ?s2 ?s3 ?s4 HF.out HLB.out).mono ?_);(case s1=> exact zq61);(case s2=>exact HC0.out);(case s3=> exact zq64);(case s4=>exact HC1.out);rintro e w2 ⟨g,v,rfl,hv,hge,hb⟩;have HB2:=zqm (below_step HB.out hb);have HV:=zqm hv;clear hv hge hb hx0 hx1 HX HB)|(go_at_call 103;(with_reducible refine(formulaOf_calls a1 _).mono ?_);rintro e w3 ⟨hb,hm⟩;rw [HF1.out] at hm;obtain⟨pf,rfl,hf⟩:=hm;have HFpf:=zqm hf;have HB3:=zqm (below_step HB2.out hb);have HV3:=zqm (View.below HV.out hb);clear hb hf)|(go_at_call 103;(with_reducible refine(formulaOf_calls a2 _).mono ?_);rintro e w4 ⟨hb,hm⟩;rw [HF2.out] at hm;obtain⟨ph,rfl,hf⟩:=hm;have HFph:=zqm hf;have HB4:=zqm (below_step HB3.out hb);have HV4:=zqm (View.below HV3.out hb);have HFpf:=zqm (FAt.below hb _ _ HFpf.out);clear hb hf)|(go_at_call 71;have HS4:=zqm (same_start w4 HV4.out HFpf.out HFph.out);(with_reducible refine(every_pure g l0_0 l0_1 v _ HSM.out ?sV 120 _ #[.pointer (some ⟨w4.heap.size,0,none⟩),.pointer (some ⟨w4.heap.size+1,0,none⟩),.pointer (some ⟨w4.heap.size+1+1,0,none⟩)] Try.func120 zqk rfl (fun a b=>allN l0_0.length fun c=>sameT l0_0 l0_1 f1 f2 a b c) ?sT).mono ?_);(case sV=>exact HS4.out.view);(case sT=>exact fun a b ha hb W hW=>same_c1 g l0_0 l0_1 v W HLg.out _ _ _ pf ph f1 f2 OF.out OH.out a b ⟨by omega,by omega⟩ ⟨by omega,by omega⟩ (HS4.out.below hW));rintro e w5 ⟨rfl,hb⟩;have HB5:=zqm (below_step (below_alloc (below_alloc (below_alloc HB4.out _) _) _) hb);clear hb))
    go_ret
    exact⟨rfl,by repeat(first|exact HB5.out|apply pw_below_drewN|apply below_drew1|apply below_alloc|apply below_set)⟩
end Go.Proofs.Ytcbjpdaogicibaa.Print
end
section
namespace Go.Proofs.Ytcbjpdaogicibaa.Print
open Go.RowKit Go.Proofs.YtcbjpdaogicibaaW.PrintWords Go.Proofs.YtcbjpdaogicibaaW.PrintLast Go.Proofs.YtcbjpdaogicibaaW.PrintMore
def laws_FnSameOk.f (k : Nat) (l0 : List Int) : Option (Bool) := if (l0.length : Int) > 1048576 then (some true) else ((spec_DrawSameOk.f k l0).bind fun bt1067 => ((impl_SameOk.f bt1067.1 bt1067.2.1 bt1067.2.2.1 bt1067.2.2.2).bind fun t1076 => ((spec_SameOk.f k bt1067.1 bt1067.2.1 bt1067.2.2.1 bt1067.2.2.2).bind fun t1077 => (if (t1076 != t1077) = true then (some false) else ((spec_LogicOk.f k bt1067.1 bt1067.2.1).bind fun t1078 => (if t1078 = true then ((impl_SameOk.f bt1067.1 bt1067.2.1 (⟨#[40, 97, 124, 40, 33, 97, 38, 40, 97, 124, 98, 41, 41, 41]⟩ : ByteArray) (⟨#[40, 97, 124, 98, 41]⟩ : ByteArray)).bind fun t1080 => ((impl_KeepsOk.f bt1067.1 bt1067.2.1).bind fun t1081 => (if (t1080 == t1081) = true then ((impl_SameOk.f bt1067.1 bt1067.2.1 (⟨#[40, 97, 38, 40, 98, 124, 99, 41, 41]⟩ : ByteArray) (⟨#[40, 40, 97, 38, 98, 41, 124, 40, 97, 38, 99, 41, 41]⟩ : ByteArray)).bind fun t1082 => ((impl_BooleanOk.f bt1067.1 bt1067.2.1).bind fun t1083 => (if (t1082 == t1083) = true then ((impl_SameOk.f bt1067.1 bt1067.2.1 (⟨#[33, 40, 97, 38, 98, 41]⟩ : ByteArray) (⟨#[40, 33, 97, 124, 33, 98, 41]⟩ : ByteArray)).bind fun t1084 => (if t1084 = true then ((impl_SameOk.f bt1067.1 bt1067.2.1 bt1067.2.2.2 bt1067.2.2.1).bind fun t1085 => (some (t1085 == t1076))) else (some false))) else (some false)))) else (some false)))) else (if t1076 = true then (some false) else ((laws_alive.f k).bind fun t1079 => (some t1079)))))))))
def laws_FnSameOk.T9 : Bool × List (List Nat × List Nat) := (true, [([], []), ([0], [0]), ([], []), ([2, 1], [2]), ([1, 3], [1, 3]), ([4, 3], [4]), ([5], [5]), ([6, 5, 5], [5, 6]), ([5], [5]), ([8, 7, 5], [5, 8]), ([7, 9, 5], [5, 7, 9]), ([5, 10], [5, 10]), ([11, 9], [11]), ([12], [12]), ([13, 12, 12], [12, 13]), ([12, 14], [12, 14]), ([15, 14], [15]), ([16], [16]), ([16], [16]), ([16], [16]), ([17, 18, 19, 16, 16], [16, 17, 18, 19]), ([16], [16]), ([20, 21, 16], [16, 20, 21]), ([16, 22], [16, 22]), ([23, 20, 0, 1, 2, 3, 4, 5, 6, 7, 8, 9, 10, 11, 12, 13, 14, 15, 16, 17, 18, 19, 20, 21, 22, 23], [23])])
def laws_FnSameOk.B9 : List Nat := [0, 1, 0, 7, 15, 31, 63, 127, 63, 511, 1023, 2047, 4095, 8191, 16383, 32767, 65535, 131071, 131071, 131071, 1048575, 131071, 4194303, 8388607, 16777215]
theorem laws_FnSameOk.tab9 : rtab .any (opsOf Try.f10 9) = laws_FnSameOk.T9 := by kernel_rfl
theorem laws_FnSameOk.bits9 : waitsOk laws_FnSameOk.T9.2 laws_FnSameOk.B9 = true := by kernel_rfl
set_option maxHeartbeats 8000000 in
set_option maxRecDepth 100000 in
theorem laws_FnSameOk.calls (k : Nat) (A0 : Option Addr) (c0 : Nat) (l0 : List Int) (r : Bool) (w : World) (hr0 : Kd.C (Kd.int .u8) w A0 l0.length l0) (hc0 : l0.length ≤ c0) (h : laws_FnSameOk.f k l0 = some r) :
  Calls Try.prog 10 #[.slice A0 l0.length c0] w fun e w' => e = .returned (.bool r) ∧ Below w.heap.size w w' := by
 have hu26:=Try.underlying26;have f6:=zqm hr0;have f5:=zqm hc0;clear hr0 hc0;have HB:=zqm (Below.refl w.heap.size w);have H:(if(l0.length:Int)>1048576 then(some true) else((spec_DrawSameOk.f k l0).bind fun a9=>((impl_SameOk.f a9.1 a9.2.1 a9.2.2.1 a9.2.2.2).bind fun c1=>((spec_SameOk.f k a9.1 a9.2.1 a9.2.2.1 a9.2.2.2).bind fun c5=>(if(c1 !=c5)=true then(some false) else((spec_LogicOk.f k a9.1 a9.2.1).bind fun f8=>(if f8=true then((impl_SameOk.f a9.1 a9.2.1 (⟨#[40,97,124,40,33,97,38,40,97,124,98,41,41,41]⟩:ByteArray) (⟨#[40,97,124,98,41]⟩:ByteArray)).bind fun d5=>((impl_KeepsOk.f a9.1 a9.2.1).bind fun d6=>(if(d5==d6)=true then((impl_SameOk.f a9.1 a9.2.1 (⟨#[40,97,38,40,98,124,99,41,41]⟩:ByteArray) (⟨#[40,40,97,38,98,41,124,40,97,38,99,41,41]⟩:ByteArray)).bind fun d7=>((impl_BooleanOk.f a9.1 a9.2.1).bind fun d8=>(if(d7==d8)=true then((impl_SameOk.f a9.1 a9.2.1 (⟨#[33,40,97,38,98,41]⟩:ByteArray) (⟨#[40,33,97,124,33,98,41]⟩:ByteArray)).bind fun g0=>(if g0=true then((impl_SameOk.f a9.1 a9.2.1 a9.2.2.2 a9.2.2.1).bind fun g1=>(some (g1==c1))) else(some false))) else(some false)))) else(some false)))) else(if c1=true then(some false) else((laws_alive.f k).bind fun f9=>(some f9))))))))))=some r:=h;clear h
 by_cases c2:(l0.length:Int)>1048576
 ·rw [if_pos c2] at H;have k8:decide (1048576<(l0.length:Int))=true:=decide_eq_true c2;have k9:decide (1048576<l0.length)=true:=decide_eq_true (by omega);clear c2;obtain rfl:=Option.some.inj H
  go_enter Try.func10,Try.ntmps10
  go_wp2
  go_ret
  exact⟨zq13,zq0⟩
 ·rw [if_neg c2] at H;have k8:decide (1048576<(l0.length:Int))=false:=decide_eq_false c2;have k9:decide (1048576<l0.length)=false:=decide_eq_false (by omega);clear c2;replace H:=Option.bind_eq_some_iff.mp H;obtain⟨⟨a4,a5,a7,a8⟩,i9,H⟩:=H;(try dsimp only at H);have A3:=zqm i9;clear i9;replace H:=Option.bind_eq_some_iff.mp H;obtain⟨c1,j0,H⟩:=H;(try dsimp only at H);have A4:=zqm j0;clear j0;replace H:=Option.bind_eq_some_iff.mp H;obtain⟨c5,j1,H⟩:=H;(try dsimp only at H);have A5:=zqm j1;clear j1
  by_cases c6:(c1 !=c5)=true
  ·rw [if_pos c6] at H;have l1:(c1 !=c5)=true:=c6;(try(have l2:decide (c1=c5)=false:=by simpa using c6));(try(have l3:(c1==c5)=false:=by simpa using c6));(try(have v5: ¬(c1=c5):=by simpa using c6));clear c6;obtain rfl:=Option.some.inj H
   go_enter Try.func10,Try.ntmps10
   go_wp2_with (first|((with_reducible refine gate_callee (f:=52) rfl ?_);refine goesL_ (some 12) rfl rfl Try.func52 zqk rfl #[.slice A0 l0.length c0] rfl zq1 ?_;(with_reducible refine(spec_DrawSameOk.calls k _ _ l0 a4 a5 a7 a8 _ ?side1 ?side2 A3.out).mono ?_);(case side1=> exact zq53);(case side2=>exact f5.out);rintro e w7 ⟨f2,f3,rfl,d9,e0,hb⟩;refine⟨_,rfl,?_⟩;have a1:=zqm (Kd.S_lower d9 (below_size zq0));have a2:=zqm (Kd.Q_lower e0 (below_size zq0));replace HB:=zqm (below_step zq0 hb);clear hb d9 e0)|((with_reducible refine gate_dst (N:=3) rfl ?_);refine box_event ?hg (N:=3) ?hd (cs:= #[.slice none 0 0,.slice none 0 0]) (t:=26) ?hr ?_;(case hd=>rfl);(case hg=>rfl);(case hr=> exact zq17);intro a3 hg w8 hbox hb;replace a1:=zqm (Kd.S_below (zqfS a1.out) hb);replace a2:=zqm (Kd.Q_below (zqfQ a2.out) hb);have e1:=zqm (below_step zq0 hb);have a0:=zqm (hbox);have e8:=zqm ((by rw [hg];exact(below_size zq0):w.heap.size≤a3));have a6:=zqm ((by rw [hg];exact(below_size zq0):w.heap.size≤a3));clear HB;have HB:=e1;clear e1 hb hbox hg;obtain⟨f4,f1,u7⟩:=Kd.S_slice a1.out;subst u7;have n7:w8.cell? ⟨a3,0,none⟩=some (.slice none 0 0):=(blk_cell a0.out 0).trans rfl;have n8:w8.cell? ⟨a3,1,none⟩=some (.slice none 0 0):=(blk_cell a0.out 1).trans rfl;have r1:=blk_frozen a0.out 0;have r2:=blk_frozen a0.out 1;obtain⟨e7,e6,l4,_⟩:=Kd.Q_slice a2.out;subst l4)|((with_reducible refine gate_callee (f:=53) rfl ?_);refine goesL_ (some 19) rfl rfl Try.func53 zqk rfl #[.agg #[.slice f4 a4.length f1,.slice e7 a5.length e6],.string a7,.string a8] rfl zq1 ?_;(with_reducible refine(impl_SameOk.calls _ _ a4 _ _ a5 a7 a8 c1 _ ?side1 ?side2 ?side3 ?side4 A4.out).mono ?_);(case side1=>refine(Kd.S_reads' (e:=24) (base:=w.heap.size) (ok:=fun k_=>some k_≠(.slice e7 a5.length e6:Value).ownBlock) (n:=a4.length) (c:=f1) ?_).2.2;exact zq143);(case side2=> exact zq36);(case side3=>refine(Kd.Q_reads' (e:=3) (base:=w.heap.size) (ok:=fun k_=>True) (n:=a5.length) (c:=e6) ?_).2.2;exact zq124);(case side4=> exact zq35);rintro e j2 ⟨rfl,hb⟩;refine⟨_,rfl,?_⟩;replace a1:=zqm (Kd.S_below zq143 hb);replace a2:=zqm (Kd.Q_below zq124 hb);replace a0:=zqm (blk_below (g:=a3) (o:= .cells #[.slice f4 a4.length f1,.slice e7 a5.length e6] 26 (0,0)) (by refine zqe ?_;refine blk_put (cs:= #[.slice f4 a4.length f1,.slice none 0 0]) ?_ 1 _ rfl;refine zqe ?_;refine blk_put (cs:= #[.slice none 0 0,.slice none 0 0]) ?_ 0 _ rfl;refine zqe ?_;exact a0.out) hb);replace HB:=zqm (below_step zq4 hb);clear hb;have n9:j2.cell? ⟨a3,0,none⟩=some (.slice f4 a4.length f1):=(blk_cell a0.out 0).trans rfl;have o0:j2.cell? ⟨a3,1,none⟩=some (.slice e7 a5.length e6):=(blk_cell a0.out 1).trans rfl;have r3:=blk_frozen a0.out 0;have r4:=blk_frozen a0.out 1)|((with_reducible refine gate_callee (f:=54) rfl ?_);refine goesL_ (some 24) rfl rfl Try.func54 zqk rfl #[.agg #[.slice f4 a4.length f1,.slice e7 a5.length e6],.string a7,.string a8] rfl zq1 ?_;(with_reducible refine(spec_SameOk.calls k _ _ a4 _ _ a5 a7 a8 c5 _ ?side1 ?side2 ?side3 ?side4 A5.out).mono ?_);(case side1=> exact zq9);(case side2=> exact zq36);(case side3=> exact zq8);(case side4=> exact zq35);rintro e v8 ⟨rfl,hb⟩;refine⟨_,rfl,?_⟩;replace a1:=zqm (Kd.S_below (zqfS a1.out) hb);replace a2:=zqm (Kd.Q_below (zqfQ a2.out) hb);replace a0:=zqm (blk_below (g:=a3) (o:= .cells #[.slice f4 a4.length f1,.slice e7 a5.length e6] 26 (0,0)) (zqe a0.out) hb);replace HB:=zqm (below_step zq4 hb);clear hb))
   go_ret
   exact⟨zq13,zq4⟩
  ·rw [if_neg c6] at H;(have l1:(c1 !=c5)=false:=by simpa using c6);(try(have l2:decide (c1=c5)=true:=by simpa using c6));(try(have l3:(c1==c5)=true:=by simpa using c6));clear c6;replace H:=Option.bind_eq_some_iff.mp H;obtain⟨f8,g7,H⟩:=H;(try dsimp only at H);have f7:=zqm g7;clear g7
   by_cases g4:f8=true
   ·subst g4;rw [if_pos rfl] at H;replace H:=Option.bind_eq_some_iff.mp H;obtain⟨d5,g8,H⟩:=H;(try dsimp only at H);have g2:=zqm g8;clear g8;replace H:=Option.bind_eq_some_iff.mp H;obtain⟨d6,g9,H⟩:=H;(try dsimp only at H);have g3:=zqm g9;clear g9
    by_cases e9:(d5==d6)=true
    ·rw [if_pos e9] at H;have i0:(d5==d6)=true:=e9;(try(have i1:decide (d5=d6)=true:=by simpa using e9));(try(have i2:(d5==d6)=true:=by simpa using e9));clear e9;replace H:=Option.bind_eq_some_iff.mp H;obtain⟨d7,h1,H⟩:=H;(try dsimp only at H);have h0:=zqm h1;clear h1;replace H:=Option.bind_eq_some_iff.mp H;obtain⟨d8,h3,H⟩:=H;(try dsimp only at H);have h2:=zqm h3;clear h3
     by_cases f0:(d7==d8)=true
     ·rw [if_pos f0] at H;have i3:(d7==d8)=true:=f0;(try(have i4:decide (d7=d8)=true:=by simpa using f0));(try(have i5:(d7==d8)=true:=by simpa using f0));clear f0;replace H:=Option.bind_eq_some_iff.mp H;obtain⟨g0,h4,H⟩:=H;(try dsimp only at H);have i8:=zqm h4;clear h4
      by_cases g5:g0=true
      ·subst g5;rw [if_pos rfl] at H;replace H:=Option.bind_eq_some_iff.mp H;obtain⟨g1,h5,H⟩:=H;(try dsimp only at H);have u5:=zqm h5;clear h5;obtain rfl:=Option.some.inj H
       go_enter Try.func10,Try.ntmps10
       (try go_wp2_with (first|((with_reducible refine gate_callee (f:=52) rfl ?_);refine goesL_ (some 12) rfl rfl Try.func52 zqk rfl #[.slice A0 l0.length c0] rfl zq1 ?_;(with_reducible refine(spec_DrawSameOk.calls k _ _ l0 a4 a5 a7 a8 _ ?side1 ?side2 A3.out).mono ?_);(case side1=> exact zq53);(case side2=>exact f5.out);rintro e v9 ⟨f2,f3,rfl,d9,e0,hb⟩;refine⟨_,rfl,?_⟩;have a1:=zqm (Kd.S_lower d9 (below_size zq0));have a2:=zqm (Kd.Q_lower e0 (below_size zq0));replace HB:=zqm (below_step zq0 hb);clear hb d9 e0)|((with_reducible refine gate_dst (N:=3) rfl ?_);refine box_event ?hg (N:=3) ?hd (cs:= #[.slice none 0 0,.slice none 0 0]) (t:=26) ?hr ?_;(case hd=>rfl);(case hg=>rfl);(case hr=> exact zq17);intro a3 hg j3 hbox hb;replace a1:=zqm (Kd.S_below (zqfS a1.out) hb);replace a2:=zqm (Kd.Q_below (zqfQ a2.out) hb);have e1:=zqm (below_step zq0 hb);have a0:=zqm (hbox);have e8:=zqm ((by rw [hg];exact(below_size zq0):w.heap.size≤a3));have a6:=zqm ((by rw [hg];exact(below_size zq0):w.heap.size≤a3));clear HB;have HB:=e1;clear e1 hb hbox hg;obtain⟨b2,b0,l5⟩:=Kd.S_slice a1.out;subst l5;have o1:j3.cell? ⟨a3,0,none⟩=some (.slice none 0 0):=(blk_cell a0.out 0).trans rfl;have o2:j3.cell? ⟨a3,1,none⟩=some (.slice none 0 0):=(blk_cell a0.out 1).trans rfl;have r5:=blk_frozen a0.out 0;have r6:=blk_frozen a0.out 1;obtain⟨b3,b1,l6,_⟩:=Kd.Q_slice a2.out;subst l6)|((with_reducible refine gate_callee (f:=53) rfl ?_);refine goesL_ (some 19) rfl rfl Try.func53 zqk rfl #[.agg #[.slice b2 a4.length b0,.slice b3 a5.length b1],.string a7,.string a8] rfl zq1 ?_;(with_reducible refine(impl_SameOk.calls _ _ a4 _ _ a5 a7 a8 c1 _ ?side1 ?side2 ?side3 ?side4 A4.out).mono ?_);(case side1=>refine(Kd.S_reads' (e:=24) (base:=w.heap.size) (ok:=fun k_=>some k_≠(.slice b3 a5.length b1:Value).ownBlock) (n:=a4.length) (c:=b0) ?_).2.2;exact zq129);(case side2=> exact zq36);(case side3=>refine(Kd.Q_reads' (e:=3) (base:=w.heap.size) (ok:=fun k_=>True) (n:=a5.length) (c:=b1) ?_).2.2;exact zq110);(case side4=> exact zq35);rintro e j4 ⟨rfl,hb⟩;refine⟨_,rfl,?_⟩;replace a1:=zqm (Kd.S_below zq129 hb);replace a2:=zqm (Kd.Q_below zq110 hb);replace a0:=zqm (blk_below (g:=a3) (o:= .cells #[.slice b2 a4.length b0,.slice b3 a5.length b1] 26 (0,0)) (by refine zqe ?_;refine blk_put (cs:= #[.slice b2 a4.length b0,.slice none 0 0]) ?_ 1 _ rfl;refine zqe ?_;refine blk_put (cs:= #[.slice none 0 0,.slice none 0 0]) ?_ 0 _ rfl;refine zqe ?_;exact a0.out) hb);replace HB:=zqm (below_step zq4 hb);clear hb;have o3:j4.cell? ⟨a3,0,none⟩=some (.slice b2 a4.length b0):=(blk_cell a0.out 0).trans rfl;have o4:j4.cell? ⟨a3,1,none⟩=some (.slice b3 a5.length b1):=(blk_cell a0.out 1).trans rfl;have r7:=blk_frozen a0.out 0;have r8:=blk_frozen a0.out 1)|((with_reducible refine gate_callee (f:=54) rfl ?_);refine goesL_ (some 24) rfl rfl Try.func54 zqk rfl #[.agg #[.slice b2 a4.length b0,.slice b3 a5.length b1],.string a7,.string a8] rfl zq1 ?_;(with_reducible refine(spec_SameOk.calls k _ _ a4 _ _ a5 a7 a8 c5 _ ?side1 ?side2 ?side3 ?side4 A5.out).mono ?_);(case side1=> exact zq9);(case side2=> exact zq36);(case side3=> exact zq8);(case side4=> exact zq35);rintro e j5 ⟨rfl,hb⟩;refine⟨_,rfl,?_⟩;replace a1:=zqm (Kd.S_below (zqfS a1.out) hb);replace a2:=zqm (Kd.Q_below (zqfQ a2.out) hb);replace a0:=zqm (blk_below (g:=a3) (o:= .cells #[.slice b2 a4.length b0,.slice b3 a5.length b1] 26 (0,0)) (zqe a0.out) hb);replace HB:=zqm (below_step zq4 hb);clear hb;have o5:j5.cell? ⟨a3,0,none⟩=some (.slice b2 a4.length b0):=(blk_cell a0.out 0).trans rfl;have o6:j5.cell? ⟨a3,1,none⟩=some (.slice b3 a5.length b1):=(blk_cell a0.out 1).trans rfl;have r9:=blk_frozen a0.out 0;have s0:=blk_frozen a0.out 1)|((with_reducible refine gate_callee (f:=17) rfl ?_);refine goesL_ (some 27) rfl rfl Try.func17 zqk rfl #[.agg #[.slice b2 a4.length b0,.slice b3 a5.length b1]] rfl zq1 ?_;(with_reducible refine(spec_LogicOk.calls k _ _ a4 _ _ a5 true _ ?side1 ?side2 ?side3 ?side4 f7.out).mono ?_);(case side1=> exact zq9);(case side2=> exact zq36);(case side3=> exact zq8);(case side4=> exact zq35);rintro e u9 ⟨rfl,hb⟩;refine⟨_,rfl,?_⟩;replace a1:=zqm (Kd.S_below (zqfS a1.out) hb);replace a2:=zqm (Kd.Q_below (zqfQ a2.out) hb);replace a0:=zqm (blk_below (g:=a3) (o:= .cells #[.slice b2 a4.length b0,.slice b3 a5.length b1] 26 (0,0)) (zqe a0.out) hb);replace HB:=zqm (below_step zq4 hb);clear hb)))
       replace a1:=zqm (Kd.S_drew a1.out);replace a2:=zqm (Kd.Q_drew a2.out);replace a0:=zqm (blk_drew a0.out);replace HB:=zqm (below_drew1 HB.out);refine start_ (n:=25) (S:=fun w'=>w'.cell? ⟨a3,0,none⟩=some (.slice b2 a4.length b0)∧w'.cell? ⟨a3,1,none⟩=some (.slice b3 a5.length b1)) (ds:= []) (zqb 25 0) zqk rfl rfl ⟨(blk_cell a0.out 0).trans rfl,(blk_cell a0.out 1).trans rfl⟩ (fun hHeld=>?_);refine with_tabW laws_FnSameOk.tab9 laws_FnSameOk.bits9 (fun HT_ HW_=>?_);generalize u9.drew=w0 at a1 a2 a0 HB hHeld ⊢;refine zqw 0 34 (zqb 25 1) HT_ HW_ hHeld ?_;refine zqw 2 36 (zqb 25 5) HT_ HW_ hHeld ?_;refine one_ (i:=1) (N:=some 35) (zqb 25 7) rfl rfl (one_of HT_.out zqk) (by decide) (fun K hK=>?_);refine goes_ Try.func53 zqk rfl #[.agg #[.slice b2 a4.length b0,.slice b3 a5.length b1],.string (⟨#[40,97,124,40,33,97,38,40,97,124,98,41,41,41]⟩:ByteArray),.string (⟨#[40,97,124,98,41]⟩:ByteArray)] (by rfl) rfl rfl zq1 ?_;(with_reducible refine(impl_SameOk.calls _ _ a4 _ _ a5 (⟨#[40,97,124,40,33,97,38,40,97,124,98,41,41,41]⟩:ByteArray) (⟨#[40,97,124,98,41]⟩:ByteArray) d5 _ ?side1 ?side2 ?side3 ?side4 g2.out).mono ?_);(case side1=> exact zq9);(case side2=> exact zq36);(case side3=> exact zq8);(case side4=> exact zq35);rintro e w1 ⟨rfl,hb⟩;refine⟨_,rfl,?_⟩;replace a1:=zqm (Kd.S_below (zqfS a1.out) hb);replace a2:=zqm (Kd.Q_below (zqfQ a2.out) hb);replace a0:=zqm (blk_below (g:=a3) (o:= .cells #[.slice b2 a4.length b0,.slice b3 a5.length b1] 26 (0,0)) (zqe a0.out) hb);replace HB:=zqm (below_step zq4 hb);clear hb;refine hK.out _ _ ⟨(blk_cell a0.out 0).trans rfl,(blk_cell a0.out 1).trans rfl⟩ (fun hHeld=>?_);clear hK K;refine norm_ (a':=?_) ?_ ?_;rotate_left
       ·show Act.put _ (some 35) _=_;exact zqs
       refine one_ (i:=3) (N:=some 37) (zqb 25 15) rfl rfl (one_of HT_.out zqk) (by decide) (fun K hK=>?_);refine goes_ Try.func19 zqk rfl #[.agg #[.slice b2 a4.length b0,.slice b3 a5.length b1]] (by rfl) rfl rfl zq1 ?_;(with_reducible refine(impl_KeepsOk.calls _ _ a4 _ _ a5 d6 _ ?side1 ?side2 ?side3 ?side4 g3.out).mono ?_);(case side1=> exact zq9);(case side2=> exact zq36);(case side3=> exact zq8);(case side4=> exact zq35);rintro e w2 ⟨rfl,hb⟩;refine⟨_,rfl,?_⟩;replace a1:=zqm (Kd.S_below (zqfS a1.out) hb);replace a2:=zqm (Kd.Q_below (zqfQ a2.out) hb);replace a0:=zqm (blk_below (g:=a3) (o:= .cells #[.slice b2 a4.length b0,.slice b3 a5.length b1] 26 (0,0)) (zqe a0.out) hb);replace HB:=zqm (below_step zq4 hb);clear hb;refine hK.out _ _ ⟨(blk_cell a0.out 0).trans rfl,(blk_cell a0.out 1).trans rfl⟩ (fun hHeld=>?_);clear hK K;refine norm_ (a':=?_) ?_ ?_;rotate_left
       ·show Act.put _ (some 37) _=_;exact zqs
       refine zqp 4 38 (zqb 25 31) HT_ ?_;refine zqp 5 39 (zqb 25 63) HT_ ?_;refine zqw 6 40 (zqb 25 127) HT_ HW_ hHeld ?_;refine zqw 8 42 (zqb 25 383) HT_ HW_ hHeld ?_;refine one_ (i:=7) (N:=some 41) (zqb 25 511) rfl rfl (one_of HT_.out zqk) (by decide) (fun K hK=>?_);refine goes_ Try.func53 zqk rfl #[.agg #[.slice b2 a4.length b0,.slice b3 a5.length b1],.string (⟨#[40,97,38,40,98,124,99,41,41]⟩:ByteArray),.string (⟨#[40,40,97,38,98,41,124,40,97,38,99,41,41]⟩:ByteArray)] (by rfl) rfl rfl zq1 ?_;(with_reducible refine(impl_SameOk.calls _ _ a4 _ _ a5 (⟨#[40,97,38,40,98,124,99,41,41]⟩:ByteArray) (⟨#[40,40,97,38,98,41,124,40,97,38,99,41,41]⟩:ByteArray) d7 _ ?side1 ?side2 ?side3 ?side4 h0.out).mono ?_);(case side1=> exact zq9);(case side2=> exact zq36);(case side3=> exact zq8);(case side4=> exact zq35);rintro e w3 ⟨rfl,hb⟩;refine⟨_,rfl,?_⟩;replace a1:=zqm (Kd.S_below (zqfS a1.out) hb);replace a2:=zqm (Kd.Q_below (zqfQ a2.out) hb);replace a0:=zqm (blk_below (g:=a3) (o:= .cells #[.slice b2 a4.length b0,.slice b3 a5.length b1] 26 (0,0)) (zqe a0.out) hb);replace HB:=zqm (below_step zq4 hb);clear hb;refine hK.out _ _ ⟨(blk_cell a0.out 0).trans rfl,(blk_cell a0.out 1).trans rfl⟩ (fun hHeld=>?_);clear hK K;refine norm_ (a':=?_) ?_ ?_;rotate_left
       ·show Act.put _ (some 41) _=_;exact zqs
       refine one_ (i:=9) (N:=some 43) (zqb 25 1023) rfl rfl (one_of HT_.out zqk) (by decide) (fun K hK=>?_);refine goes_ Try.func15 zqk rfl #[.agg #[.slice b2 a4.length b0,.slice b3 a5.length b1]] (by rfl) rfl rfl zq1 ?_;(with_reducible refine(impl_BooleanOk.calls _ _ a4 _ _ a5 d8 _ ?side1 ?side2 ?side3 ?side4 h2.out).mono ?_);(case side1=> exact zq9);(case side2=> exact zq36);(case side3=> exact zq8);(case side4=> exact zq35);rintro e w4 ⟨rfl,hb⟩;refine⟨_,rfl,?_⟩;replace a1:=zqm (Kd.S_below (zqfS a1.out) hb);replace a2:=zqm (Kd.Q_below (zqfQ a2.out) hb);replace a0:=zqm (blk_below (g:=a3) (o:= .cells #[.slice b2 a4.length b0,.slice b3 a5.length b1] 26 (0,0)) (zqe a0.out) hb);replace HB:=zqm (below_step zq4 hb);clear hb;refine hK.out _ _ ⟨(blk_cell a0.out 0).trans rfl,(blk_cell a0.out 1).trans rfl⟩ (fun hHeld=>?_);clear hK K;refine norm_ (a':=?_) ?_ ?_;rotate_left
       ·show Act.put _ (some 43) _=_;exact zqs
       refine zqp 10 44 (zqb 25 2047) HT_ ?_;refine zqp 11 45 (zqb 25 4095) HT_ ?_;refine zqp 12 46 (zqb 25 8191) HT_ ?_;refine zqw 13 47 (zqb 25 16383) HT_ HW_ hHeld ?_;refine one_ (i:=14) (N:=some 48) (zqb 25 32767) rfl rfl (one_of HT_.out zqk) (by decide) (fun K hK=>?_);refine goes_ Try.func53 zqk rfl #[.agg #[.slice b2 a4.length b0,.slice b3 a5.length b1],.string (⟨#[33,40,97,38,98,41]⟩:ByteArray),.string (⟨#[40,33,97,124,33,98,41]⟩:ByteArray)] (by rfl) rfl rfl zq1 ?_;(with_reducible refine(impl_SameOk.calls _ _ a4 _ _ a5 (⟨#[33,40,97,38,98,41]⟩:ByteArray) (⟨#[40,33,97,124,33,98,41]⟩:ByteArray) true _ ?side1 ?side2 ?side3 ?side4 i8.out).mono ?_);(case side1=> exact zq9);(case side2=> exact zq36);(case side3=> exact zq8);(case side4=> exact zq35);rintro e w5 ⟨rfl,hb⟩;refine⟨_,rfl,?_⟩;replace a1:=zqm (Kd.S_below (zqfS a1.out) hb);replace a2:=zqm (Kd.Q_below (zqfQ a2.out) hb);replace a0:=zqm (blk_below (g:=a3) (o:= .cells #[.slice b2 a4.length b0,.slice b3 a5.length b1] 26 (0,0)) (zqe a0.out) hb);replace HB:=zqm (below_step zq4 hb);clear hb;refine hK.out _ _ ⟨(blk_cell a0.out 0).trans rfl,(blk_cell a0.out 1).trans rfl⟩ (fun hHeld=>?_);clear hK K;refine norm_ (a':=?_) ?_ ?_;rotate_left
       ·show Act.put _ (some 48) _=_;exact zqs
       refine zqp 15 49 (zqb 25 65535) HT_ ?_;refine zqp 16 50 (zqb 25 131071) HT_ ?_;refine zqp 18 52 (zqb 25 393215) HT_ ?_;refine zqp 19 53 (zqb 25 917503) HT_ ?_;refine zqp 21 55 (zqb 25 3014655) HT_ ?_;refine zqw 17 51 (zqb 25 3145727) HT_ HW_ hHeld ?_;refine one_ (i:=20) (N:=some 54) (zqb 25 4194303) rfl rfl (one_of HT_.out zqk) (by decide) (fun K hK=>?_);refine goes_ Try.func53 zqk rfl #[.agg #[.slice b2 a4.length b0,.slice b3 a5.length b1],.string a8,.string a7] (by rfl) rfl rfl zq1 ?_;(with_reducible refine(impl_SameOk.calls _ _ a4 _ _ a5 a8 a7 g1 _ ?side1 ?side2 ?side3 ?side4 u5.out).mono ?_);(case side1=> exact zq9);(case side2=> exact zq36);(case side3=> exact zq8);(case side4=> exact zq35);rintro e w6 ⟨rfl,hb⟩;refine⟨_,rfl,?_⟩;replace a1:=zqm (Kd.S_below (zqfS a1.out) hb);replace a2:=zqm (Kd.Q_below (zqfQ a2.out) hb);replace a0:=zqm (blk_below (g:=a3) (o:= .cells #[.slice b2 a4.length b0,.slice b3 a5.length b1] 26 (0,0)) (zqe a0.out) hb);replace HB:=zqm (below_step zq4 hb);clear hb;refine hK.out _ _ ⟨(blk_cell a0.out 0).trans rfl,(blk_cell a0.out 1).trans rfl⟩ (fun hHeld=>?_);clear hK K;refine norm_ (a':=?_) ?_ ?_;rotate_left
       ·show Act.put _ (some 54) _=_;exact zqs
       refine zqp 22 56 (zqb 25 8388607) HT_ ?_;refine zqp 23 57 (zqb 25 16777215) HT_ ?_;refine zqp 24 2 (zqb 25 33554431) HT_ ?_;refine done_ (done_of HT_.out zqk) ?_;try go_wp2
       go_ret
       exact⟨zq13,zq4⟩
      ·replace g5:=Bool.eq_false_iff.mpr g5;subst g5;rw [if_neg (show¬(false=true) by decide)] at H;obtain rfl:=Option.some.inj H
       go_enter Try.func10,Try.ntmps10
       (try go_wp2_with (first|((with_reducible refine gate_callee (f:=52) rfl ?_);refine goesL_ (some 12) rfl rfl Try.func52 zqk rfl #[.slice A0 l0.length c0] rfl zq1 ?_;(with_reducible refine(spec_DrawSameOk.calls k _ _ l0 a4 a5 a7 a8 _ ?side1 ?side2 A3.out).mono ?_);(case side1=> exact zq53);(case side2=>exact f5.out);rintro e w9 ⟨f2,f3,rfl,d9,e0,hb⟩;refine⟨_,rfl,?_⟩;have a1:=zqm (Kd.S_lower d9 (below_size zq0));have a2:=zqm (Kd.Q_lower e0 (below_size zq0));replace HB:=zqm (below_step zq0 hb);clear hb d9 e0)|((with_reducible refine gate_dst (N:=3) rfl ?_);refine box_event ?hg (N:=3) ?hd (cs:= #[.slice none 0 0,.slice none 0 0]) (t:=26) ?hr ?_;(case hd=>rfl);(case hg=>rfl);(case hr=> exact zq17);intro a3 hg j6 hbox hb;replace a1:=zqm (Kd.S_below (zqfS a1.out) hb);replace a2:=zqm (Kd.Q_below (zqfQ a2.out) hb);have e1:=zqm (below_step zq0 hb);have a0:=zqm (hbox);have e8:=zqm ((by rw [hg];exact(below_size zq0):w.heap.size≤a3));have a6:=zqm ((by rw [hg];exact(below_size zq0):w.heap.size≤a3));clear HB;have HB:=e1;clear e1 hb hbox hg;obtain⟨b6,b4,l7⟩:=Kd.S_slice a1.out;subst l7;have o7:j6.cell? ⟨a3,0,none⟩=some (.slice none 0 0):=(blk_cell a0.out 0).trans rfl;have o8:j6.cell? ⟨a3,1,none⟩=some (.slice none 0 0):=(blk_cell a0.out 1).trans rfl;have s1:=blk_frozen a0.out 0;have s2:=blk_frozen a0.out 1;obtain⟨b7,b5,l8,_⟩:=Kd.Q_slice a2.out;subst l8)|((with_reducible refine gate_callee (f:=53) rfl ?_);refine goesL_ (some 19) rfl rfl Try.func53 zqk rfl #[.agg #[.slice b6 a4.length b4,.slice b7 a5.length b5],.string a7,.string a8] rfl zq1 ?_;(with_reducible refine(impl_SameOk.calls _ _ a4 _ _ a5 a7 a8 c1 _ ?side1 ?side2 ?side3 ?side4 A4.out).mono ?_);(case side1=>refine(Kd.S_reads' (e:=24) (base:=w.heap.size) (ok:=fun k_=>some k_≠(.slice b7 a5.length b5:Value).ownBlock) (n:=a4.length) (c:=b4) ?_).2.2;exact zq131);(case side2=> exact zq36);(case side3=>refine(Kd.Q_reads' (e:=3) (base:=w.heap.size) (ok:=fun k_=>True) (n:=a5.length) (c:=b5) ?_).2.2;exact zq112);(case side4=> exact zq35);rintro e j7 ⟨rfl,hb⟩;refine⟨_,rfl,?_⟩;replace a1:=zqm (Kd.S_below zq131 hb);replace a2:=zqm (Kd.Q_below zq112 hb);replace a0:=zqm (blk_below (g:=a3) (o:= .cells #[.slice b6 a4.length b4,.slice b7 a5.length b5] 26 (0,0)) (by refine zqe ?_;refine blk_put (cs:= #[.slice b6 a4.length b4,.slice none 0 0]) ?_ 1 _ rfl;refine zqe ?_;refine blk_put (cs:= #[.slice none 0 0,.slice none 0 0]) ?_ 0 _ rfl;refine zqe ?_;exact a0.out) hb);replace HB:=zqm (below_step zq4 hb);clear hb;have o9:j7.cell? ⟨a3,0,none⟩=some (.slice b6 a4.length b4):=(blk_cell a0.out 0).trans rfl;have p0:j7.cell? ⟨a3,1,none⟩=some (.slice b7 a5.length b5):=(blk_cell a0.out 1).trans rfl;have s3:=blk_frozen a0.out 0;have s4:=blk_frozen a0.out 1)|((with_reducible refine gate_callee (f:=54) rfl ?_);refine goesL_ (some 24) rfl rfl Try.func54 zqk rfl #[.agg #[.slice b6 a4.length b4,.slice b7 a5.length b5],.string a7,.string a8] rfl zq1 ?_;(with_reducible refine(spec_SameOk.calls k _ _ a4 _ _ a5 a7 a8 c5 _ ?side1 ?side2 ?side3 ?side4 A5.out).mono ?_);(case side1=> exact zq9);(case side2=> exact zq36);(case side3=> exact zq8);(case side4=> exact zq35);rintro e j8 ⟨rfl,hb⟩;refine⟨_,rfl,?_⟩;replace a1:=zqm (Kd.S_below (zqfS a1.out) hb);replace a2:=zqm (Kd.Q_below (zqfQ a2.out) hb);replace a0:=zqm (blk_below (g:=a3) (o:= .cells #[.slice b6 a4.length b4,.slice b7 a5.length b5] 26 (0,0)) (zqe a0.out) hb);replace HB:=zqm (below_step zq4 hb);clear hb;have p1:j8.cell? ⟨a3,0,none⟩=some (.slice b6 a4.length b4):=(blk_cell a0.out 0).trans rfl;have p2:j8.cell? ⟨a3,1,none⟩=some (.slice b7 a5.length b5):=(blk_cell a0.out 1).trans rfl;have s5:=blk_frozen a0.out 0;have s6:=blk_frozen a0.out 1)|((with_reducible refine gate_callee (f:=17) rfl ?_);refine goesL_ (some 27) rfl rfl Try.func17 zqk rfl #[.agg #[.slice b6 a4.length b4,.slice b7 a5.length b5]] rfl zq1 ?_;(with_reducible refine(spec_LogicOk.calls k _ _ a4 _ _ a5 true _ ?side1 ?side2 ?side3 ?side4 f7.out).mono ?_);(case side1=> exact zq9);(case side2=> exact zq36);(case side3=> exact zq8);(case side4=> exact zq35);rintro e v0 ⟨rfl,hb⟩;refine⟨_,rfl,?_⟩;replace a1:=zqm (Kd.S_below (zqfS a1.out) hb);replace a2:=zqm (Kd.Q_below (zqfQ a2.out) hb);replace a0:=zqm (blk_below (g:=a3) (o:= .cells #[.slice b6 a4.length b4,.slice b7 a5.length b5] 26 (0,0)) (zqe a0.out) hb);replace HB:=zqm (below_step zq4 hb);clear hb)))
       replace a1:=zqm (Kd.S_drew a1.out);replace a2:=zqm (Kd.Q_drew a2.out);replace a0:=zqm (blk_drew a0.out);replace HB:=zqm (below_drew1 HB.out);refine start_ (n:=25) (S:=fun w'=>w'.cell? ⟨a3,0,none⟩=some (.slice b6 a4.length b4)∧w'.cell? ⟨a3,1,none⟩=some (.slice b7 a5.length b5)) (ds:= []) (zqb 25 0) zqk rfl rfl ⟨(blk_cell a0.out 0).trans rfl,(blk_cell a0.out 1).trans rfl⟩ (fun hHeld=>?_);refine with_tabW laws_FnSameOk.tab9 laws_FnSameOk.bits9 (fun HT_ HW_=>?_);generalize v0.drew=x0 at a1 a2 a0 HB hHeld ⊢;refine zqw 0 34 (zqb 25 1) HT_ HW_ hHeld ?_;refine zqw 2 36 (zqb 25 5) HT_ HW_ hHeld ?_;refine one_ (i:=1) (N:=some 35) (zqb 25 7) rfl rfl (one_of HT_.out zqk) (by decide) (fun K hK=>?_);refine goes_ Try.func53 zqk rfl #[.agg #[.slice b6 a4.length b4,.slice b7 a5.length b5],.string (⟨#[40,97,124,40,33,97,38,40,97,124,98,41,41,41]⟩:ByteArray),.string (⟨#[40,97,124,98,41]⟩:ByteArray)] (by rfl) rfl rfl zq1 ?_;(with_reducible refine(impl_SameOk.calls _ _ a4 _ _ a5 (⟨#[40,97,124,40,33,97,38,40,97,124,98,41,41,41]⟩:ByteArray) (⟨#[40,97,124,98,41]⟩:ByteArray) d5 _ ?side1 ?side2 ?side3 ?side4 g2.out).mono ?_);(case side1=> exact zq9);(case side2=> exact zq36);(case side3=> exact zq8);(case side4=> exact zq35);rintro e x1 ⟨rfl,hb⟩;refine⟨_,rfl,?_⟩;replace a1:=zqm (Kd.S_below (zqfS a1.out) hb);replace a2:=zqm (Kd.Q_below (zqfQ a2.out) hb);replace a0:=zqm (blk_below (g:=a3) (o:= .cells #[.slice b6 a4.length b4,.slice b7 a5.length b5] 26 (0,0)) (zqe a0.out) hb);replace HB:=zqm (below_step zq4 hb);clear hb;refine hK.out _ _ ⟨(blk_cell a0.out 0).trans rfl,(blk_cell a0.out 1).trans rfl⟩ (fun hHeld=>?_);clear hK K;refine norm_ (a':=?_) ?_ ?_;rotate_left
       ·show Act.put _ (some 35) _=_;exact zqs
       refine one_ (i:=3) (N:=some 37) (zqb 25 15) rfl rfl (one_of HT_.out zqk) (by decide) (fun K hK=>?_);refine goes_ Try.func19 zqk rfl #[.agg #[.slice b6 a4.length b4,.slice b7 a5.length b5]] (by rfl) rfl rfl zq1 ?_;(with_reducible refine(impl_KeepsOk.calls _ _ a4 _ _ a5 d6 _ ?side1 ?side2 ?side3 ?side4 g3.out).mono ?_);(case side1=> exact zq9);(case side2=> exact zq36);(case side3=> exact zq8);(case side4=> exact zq35);rintro e x2 ⟨rfl,hb⟩;refine⟨_,rfl,?_⟩;replace a1:=zqm (Kd.S_below (zqfS a1.out) hb);replace a2:=zqm (Kd.Q_below (zqfQ a2.out) hb);replace a0:=zqm (blk_below (g:=a3) (o:= .cells #[.slice b6 a4.length b4,.slice b7 a5.length b5] 26 (0,0)) (zqe a0.out) hb);replace HB:=zqm (below_step zq4 hb);clear hb;refine hK.out _ _ ⟨(blk_cell a0.out 0).trans rfl,(blk_cell a0.out 1).trans rfl⟩ (fun hHeld=>?_);clear hK K;refine norm_ (a':=?_) ?_ ?_;rotate_left
       ·show Act.put _ (some 37) _=_;exact zqs
       refine zqp 4 38 (zqb 25 31) HT_ ?_;refine zqp 5 39 (zqb 25 63) HT_ ?_;refine zqw 6 40 (zqb 25 127) HT_ HW_ hHeld ?_;refine zqw 8 42 (zqb 25 383) HT_ HW_ hHeld ?_;refine one_ (i:=7) (N:=some 41) (zqb 25 511) rfl rfl (one_of HT_.out zqk) (by decide) (fun K hK=>?_);refine goes_ Try.func53 zqk rfl #[.agg #[.slice b6 a4.length b4,.slice b7 a5.length b5],.string (⟨#[40,97,38,40,98,124,99,41,41]⟩:ByteArray),.string (⟨#[40,40,97,38,98,41,124,40,97,38,99,41,41]⟩:ByteArray)] (by rfl) rfl rfl zq1 ?_;(with_reducible refine(impl_SameOk.calls _ _ a4 _ _ a5 (⟨#[40,97,38,40,98,124,99,41,41]⟩:ByteArray) (⟨#[40,40,97,38,98,41,124,40,97,38,99,41,41]⟩:ByteArray) d7 _ ?side1 ?side2 ?side3 ?side4 h0.out).mono ?_);(case side1=> exact zq9);(case side2=> exact zq36);(case side3=> exact zq8);(case side4=> exact zq35);rintro e x3 ⟨rfl,hb⟩;refine⟨_,rfl,?_⟩;replace a1:=zqm (Kd.S_below (zqfS a1.out) hb);replace a2:=zqm (Kd.Q_below (zqfQ a2.out) hb);replace a0:=zqm (blk_below (g:=a3) (o:= .cells #[.slice b6 a4.length b4,.slice b7 a5.length b5] 26 (0,0)) (zqe a0.out) hb);replace HB:=zqm (below_step zq4 hb);clear hb;refine hK.out _ _ ⟨(blk_cell a0.out 0).trans rfl,(blk_cell a0.out 1).trans rfl⟩ (fun hHeld=>?_);clear hK K;refine norm_ (a':=?_) ?_ ?_;rotate_left
       ·show Act.put _ (some 41) _=_;exact zqs
       refine one_ (i:=9) (N:=some 43) (zqb 25 1023) rfl rfl (one_of HT_.out zqk) (by decide) (fun K hK=>?_);refine goes_ Try.func15 zqk rfl #[.agg #[.slice b6 a4.length b4,.slice b7 a5.length b5]] (by rfl) rfl rfl zq1 ?_;(with_reducible refine(impl_BooleanOk.calls _ _ a4 _ _ a5 d8 _ ?side1 ?side2 ?side3 ?side4 h2.out).mono ?_);(case side1=> exact zq9);(case side2=> exact zq36);(case side3=> exact zq8);(case side4=> exact zq35);rintro e x4 ⟨rfl,hb⟩;refine⟨_,rfl,?_⟩;replace a1:=zqm (Kd.S_below (zqfS a1.out) hb);replace a2:=zqm (Kd.Q_below (zqfQ a2.out) hb);replace a0:=zqm (blk_below (g:=a3) (o:= .cells #[.slice b6 a4.length b4,.slice b7 a5.length b5] 26 (0,0)) (zqe a0.out) hb);replace HB:=zqm (below_step zq4 hb);clear hb;refine hK.out _ _ ⟨(blk_cell a0.out 0).trans rfl,(blk_cell a0.out 1).trans rfl⟩ (fun hHeld=>?_);clear hK K;refine norm_ (a':=?_) ?_ ?_;rotate_left
       ·show Act.put _ (some 43) _=_;exact zqs
       refine zqp 10 44 (zqb 25 2047) HT_ ?_;refine zqp 11 45 (zqb 25 4095) HT_ ?_;refine zqp 12 46 (zqb 25 8191) HT_ ?_;refine zqw 13 47 (zqb 25 16383) HT_ HW_ hHeld ?_;refine one_ (i:=14) (N:=some 48) (zqb 25 32767) rfl rfl (one_of HT_.out zqk) (by decide) (fun K hK=>?_);refine goes_ Try.func53 zqk rfl #[.agg #[.slice b6 a4.length b4,.slice b7 a5.length b5],.string (⟨#[33,40,97,38,98,41]⟩:ByteArray),.string (⟨#[40,33,97,124,33,98,41]⟩:ByteArray)] (by rfl) rfl rfl zq1 ?_;(with_reducible refine(impl_SameOk.calls _ _ a4 _ _ a5 (⟨#[33,40,97,38,98,41]⟩:ByteArray) (⟨#[40,33,97,124,33,98,41]⟩:ByteArray) false _ ?side1 ?side2 ?side3 ?side4 i8.out).mono ?_);(case side1=> exact zq9);(case side2=> exact zq36);(case side3=> exact zq8);(case side4=> exact zq35);rintro e x5 ⟨rfl,hb⟩;refine⟨_,rfl,?_⟩;replace a1:=zqm (Kd.S_below (zqfS a1.out) hb);replace a2:=zqm (Kd.Q_below (zqfQ a2.out) hb);replace a0:=zqm (blk_below (g:=a3) (o:= .cells #[.slice b6 a4.length b4,.slice b7 a5.length b5] 26 (0,0)) (zqe a0.out) hb);replace HB:=zqm (below_step zq4 hb);clear hb;refine hK.out _ _ ⟨(blk_cell a0.out 0).trans rfl,(blk_cell a0.out 1).trans rfl⟩ (fun hHeld=>?_);clear hK K;refine norm_ (a':=?_) ?_ ?_;rotate_left
       ·show Act.put _ (some 48) _=_;exact zqs
       refine zqp 15 49 (zqb 25 65535) HT_ ?_;refine zqp 16 50 (zqb 25 131071) HT_ ?_;refine zqu 17 51 (zqb 25 262143) HT_ ?_;refine zqu 18 52 (zqb 25 524287) HT_ ?_;refine zqu 19 53 (zqb 25 1048575) HT_ ?_;refine zqu 20 54 (zqb 25 2097151) HT_ ?_;refine zqu 21 55 (zqb 25 4194303) HT_ ?_;refine zqu 22 56 (zqb 25 8388607) HT_ ?_;refine zqp 23 57 (zqb 25 16777215) HT_ ?_;refine zqp 24 2 (zqb 25 33554431) HT_ ?_;refine done_ (done_of HT_.out zqk) ?_;try go_wp2
       go_ret
       exact⟨zq13,zq4⟩
     ·rw [if_neg f0] at H;(have i3:(d7==d8)=false:=by simpa using f0);(try(have i4:decide (d7=d8)=false:=by simpa using f0));(try(have i5:(d7==d8)=false:=by simpa using f0));(try(have v4: ¬(d7=d8):=by simpa using f0));clear f0;obtain rfl:=Option.some.inj H
      go_enter Try.func10,Try.ntmps10
      (try go_wp2_with (first|((with_reducible refine gate_callee (f:=52) rfl ?_);refine goesL_ (some 12) rfl rfl Try.func52 zqk rfl #[.slice A0 l0.length c0] rfl zq1 ?_;(with_reducible refine(spec_DrawSameOk.calls k _ _ l0 a4 a5 a7 a8 _ ?side1 ?side2 A3.out).mono ?_);(case side1=> exact zq53);(case side2=>exact f5.out);rintro e x6 ⟨f2,f3,rfl,d9,e0,hb⟩;refine⟨_,rfl,?_⟩;have a1:=zqm (Kd.S_lower d9 (below_size zq0));have a2:=zqm (Kd.Q_lower e0 (below_size zq0));replace HB:=zqm (below_step zq0 hb);clear hb d9 e0)|((with_reducible refine gate_dst (N:=3) rfl ?_);refine box_event ?hg (N:=3) ?hd (cs:= #[.slice none 0 0,.slice none 0 0]) (t:=26) ?hr ?_;(case hd=>rfl);(case hg=>rfl);(case hr=> exact zq17);intro a3 hg j9 hbox hb;replace a1:=zqm (Kd.S_below (zqfS a1.out) hb);replace a2:=zqm (Kd.Q_below (zqfQ a2.out) hb);have e1:=zqm (below_step zq0 hb);have a0:=zqm (hbox);have e8:=zqm ((by rw [hg];exact(below_size zq0):w.heap.size≤a3));have a6:=zqm ((by rw [hg];exact(below_size zq0):w.heap.size≤a3));clear HB;have HB:=e1;clear e1 hb hbox hg;obtain⟨c3,b8,l9⟩:=Kd.S_slice a1.out;subst l9;have p3:j9.cell? ⟨a3,0,none⟩=some (.slice none 0 0):=(blk_cell a0.out 0).trans rfl;have p4:j9.cell? ⟨a3,1,none⟩=some (.slice none 0 0):=(blk_cell a0.out 1).trans rfl;have s7:=blk_frozen a0.out 0;have s8:=blk_frozen a0.out 1;obtain⟨c4,b9,m0,_⟩:=Kd.Q_slice a2.out;subst m0)|((with_reducible refine gate_callee (f:=53) rfl ?_);refine goesL_ (some 19) rfl rfl Try.func53 zqk rfl #[.agg #[.slice c3 a4.length b8,.slice c4 a5.length b9],.string a7,.string a8] rfl zq1 ?_;(with_reducible refine(impl_SameOk.calls _ _ a4 _ _ a5 a7 a8 c1 _ ?side1 ?side2 ?side3 ?side4 A4.out).mono ?_);(case side1=>refine(Kd.S_reads' (e:=24) (base:=w.heap.size) (ok:=fun k_=>some k_≠(.slice c4 a5.length b9:Value).ownBlock) (n:=a4.length) (c:=b8) ?_).2.2;exact zq133);(case side2=> exact zq36);(case side3=>refine(Kd.Q_reads' (e:=3) (base:=w.heap.size) (ok:=fun k_=>True) (n:=a5.length) (c:=b9) ?_).2.2;exact zq114);(case side4=> exact zq35);rintro e k0 ⟨rfl,hb⟩;refine⟨_,rfl,?_⟩;replace a1:=zqm (Kd.S_below zq133 hb);replace a2:=zqm (Kd.Q_below zq114 hb);replace a0:=zqm (blk_below (g:=a3) (o:= .cells #[.slice c3 a4.length b8,.slice c4 a5.length b9] 26 (0,0)) (by refine zqe ?_;refine blk_put (cs:= #[.slice c3 a4.length b8,.slice none 0 0]) ?_ 1 _ rfl;refine zqe ?_;refine blk_put (cs:= #[.slice none 0 0,.slice none 0 0]) ?_ 0 _ rfl;refine zqe ?_;exact a0.out) hb);replace HB:=zqm (below_step zq4 hb);clear hb;have p5:k0.cell? ⟨a3,0,none⟩=some (.slice c3 a4.length b8):=(blk_cell a0.out 0).trans rfl;have p6:k0.cell? ⟨a3,1,none⟩=some (.slice c4 a5.length b9):=(blk_cell a0.out 1).trans rfl;have s9:=blk_frozen a0.out 0;have t0:=blk_frozen a0.out 1)|((with_reducible refine gate_callee (f:=54) rfl ?_);refine goesL_ (some 24) rfl rfl Try.func54 zqk rfl #[.agg #[.slice c3 a4.length b8,.slice c4 a5.length b9],.string a7,.string a8] rfl zq1 ?_;(with_reducible refine(spec_SameOk.calls k _ _ a4 _ _ a5 a7 a8 c5 _ ?side1 ?side2 ?side3 ?side4 A5.out).mono ?_);(case side1=> exact zq9);(case side2=> exact zq36);(case side3=> exact zq8);(case side4=> exact zq35);rintro e k1 ⟨rfl,hb⟩;refine⟨_,rfl,?_⟩;replace a1:=zqm (Kd.S_below (zqfS a1.out) hb);replace a2:=zqm (Kd.Q_below (zqfQ a2.out) hb);replace a0:=zqm (blk_below (g:=a3) (o:= .cells #[.slice c3 a4.length b8,.slice c4 a5.length b9] 26 (0,0)) (zqe a0.out) hb);replace HB:=zqm (below_step zq4 hb);clear hb;have p7:k1.cell? ⟨a3,0,none⟩=some (.slice c3 a4.length b8):=(blk_cell a0.out 0).trans rfl;have p8:k1.cell? ⟨a3,1,none⟩=some (.slice c4 a5.length b9):=(blk_cell a0.out 1).trans rfl;have t1:=blk_frozen a0.out 0;have t2:=blk_frozen a0.out 1)|((with_reducible refine gate_callee (f:=17) rfl ?_);refine goesL_ (some 27) rfl rfl Try.func17 zqk rfl #[.agg #[.slice c3 a4.length b8,.slice c4 a5.length b9]] rfl zq1 ?_;(with_reducible refine(spec_LogicOk.calls k _ _ a4 _ _ a5 true _ ?side1 ?side2 ?side3 ?side4 f7.out).mono ?_);(case side1=> exact zq9);(case side2=> exact zq36);(case side3=> exact zq8);(case side4=> exact zq35);rintro e v1 ⟨rfl,hb⟩;refine⟨_,rfl,?_⟩;replace a1:=zqm (Kd.S_below (zqfS a1.out) hb);replace a2:=zqm (Kd.Q_below (zqfQ a2.out) hb);replace a0:=zqm (blk_below (g:=a3) (o:= .cells #[.slice c3 a4.length b8,.slice c4 a5.length b9] 26 (0,0)) (zqe a0.out) hb);replace HB:=zqm (below_step zq4 hb);clear hb)))
      replace a1:=zqm (Kd.S_drew a1.out);replace a2:=zqm (Kd.Q_drew a2.out);replace a0:=zqm (blk_drew a0.out);replace HB:=zqm (below_drew1 HB.out);refine start_ (n:=25) (S:=fun w'=>w'.cell? ⟨a3,0,none⟩=some (.slice c3 a4.length b8)∧w'.cell? ⟨a3,1,none⟩=some (.slice c4 a5.length b9)) (ds:= []) (zqb 25 0) zqk rfl rfl ⟨(blk_cell a0.out 0).trans rfl,(blk_cell a0.out 1).trans rfl⟩ (fun hHeld=>?_);refine with_tabW laws_FnSameOk.tab9 laws_FnSameOk.bits9 (fun HT_ HW_=>?_);generalize v1.drew=x7 at a1 a2 a0 HB hHeld ⊢;refine zqw 0 34 (zqb 25 1) HT_ HW_ hHeld ?_;refine zqw 2 36 (zqb 25 5) HT_ HW_ hHeld ?_;refine one_ (i:=1) (N:=some 35) (zqb 25 7) rfl rfl (one_of HT_.out zqk) (by decide) (fun K hK=>?_);refine goes_ Try.func53 zqk rfl #[.agg #[.slice c3 a4.length b8,.slice c4 a5.length b9],.string (⟨#[40,97,124,40,33,97,38,40,97,124,98,41,41,41]⟩:ByteArray),.string (⟨#[40,97,124,98,41]⟩:ByteArray)] (by rfl) rfl rfl zq1 ?_;(with_reducible refine(impl_SameOk.calls _ _ a4 _ _ a5 (⟨#[40,97,124,40,33,97,38,40,97,124,98,41,41,41]⟩:ByteArray) (⟨#[40,97,124,98,41]⟩:ByteArray) d5 _ ?side1 ?side2 ?side3 ?side4 g2.out).mono ?_);(case side1=> exact zq9);(case side2=> exact zq36);(case side3=> exact zq8);(case side4=> exact zq35);rintro e x8 ⟨rfl,hb⟩;refine⟨_,rfl,?_⟩;replace a1:=zqm (Kd.S_below (zqfS a1.out) hb);replace a2:=zqm (Kd.Q_below (zqfQ a2.out) hb);replace a0:=zqm (blk_below (g:=a3) (o:= .cells #[.slice c3 a4.length b8,.slice c4 a5.length b9] 26 (0,0)) (zqe a0.out) hb);replace HB:=zqm (below_step zq4 hb);clear hb;refine hK.out _ _ ⟨(blk_cell a0.out 0).trans rfl,(blk_cell a0.out 1).trans rfl⟩ (fun hHeld=>?_);clear hK K;refine norm_ (a':=?_) ?_ ?_;rotate_left
      ·show Act.put _ (some 35) _=_;exact zqs
      refine one_ (i:=3) (N:=some 37) (zqb 25 15) rfl rfl (one_of HT_.out zqk) (by decide) (fun K hK=>?_);refine goes_ Try.func19 zqk rfl #[.agg #[.slice c3 a4.length b8,.slice c4 a5.length b9]] (by rfl) rfl rfl zq1 ?_;(with_reducible refine(impl_KeepsOk.calls _ _ a4 _ _ a5 d6 _ ?side1 ?side2 ?side3 ?side4 g3.out).mono ?_);(case side1=> exact zq9);(case side2=> exact zq36);(case side3=> exact zq8);(case side4=> exact zq35);rintro e x9 ⟨rfl,hb⟩;refine⟨_,rfl,?_⟩;replace a1:=zqm (Kd.S_below (zqfS a1.out) hb);replace a2:=zqm (Kd.Q_below (zqfQ a2.out) hb);replace a0:=zqm (blk_below (g:=a3) (o:= .cells #[.slice c3 a4.length b8,.slice c4 a5.length b9] 26 (0,0)) (zqe a0.out) hb);replace HB:=zqm (below_step zq4 hb);clear hb;refine hK.out _ _ ⟨(blk_cell a0.out 0).trans rfl,(blk_cell a0.out 1).trans rfl⟩ (fun hHeld=>?_);clear hK K;refine norm_ (a':=?_) ?_ ?_;rotate_left
      ·show Act.put _ (some 37) _=_;exact zqs
      refine zqp 4 38 (zqb 25 31) HT_ ?_;refine zqp 5 39 (zqb 25 63) HT_ ?_;refine zqw 6 40 (zqb 25 127) HT_ HW_ hHeld ?_;refine zqw 8 42 (zqb 25 383) HT_ HW_ hHeld ?_;refine one_ (i:=7) (N:=some 41) (zqb 25 511) rfl rfl (one_of HT_.out zqk) (by decide) (fun K hK=>?_);refine goes_ Try.func53 zqk rfl #[.agg #[.slice c3 a4.length b8,.slice c4 a5.length b9],.string (⟨#[40,97,38,40,98,124,99,41,41]⟩:ByteArray),.string (⟨#[40,40,97,38,98,41,124,40,97,38,99,41,41]⟩:ByteArray)] (by rfl) rfl rfl zq1 ?_;(with_reducible refine(impl_SameOk.calls _ _ a4 _ _ a5 (⟨#[40,97,38,40,98,124,99,41,41]⟩:ByteArray) (⟨#[40,40,97,38,98,41,124,40,97,38,99,41,41]⟩:ByteArray) d7 _ ?side1 ?side2 ?side3 ?side4 h0.out).mono ?_);(case side1=> exact zq9);(case side2=> exact zq36);(case side3=> exact zq8);(case side4=> exact zq35);rintro e y0 ⟨rfl,hb⟩;refine⟨_,rfl,?_⟩;replace a1:=zqm (Kd.S_below (zqfS a1.out) hb);replace a2:=zqm (Kd.Q_below (zqfQ a2.out) hb);replace a0:=zqm (blk_below (g:=a3) (o:= .cells #[.slice c3 a4.length b8,.slice c4 a5.length b9] 26 (0,0)) (zqe a0.out) hb);replace HB:=zqm (below_step zq4 hb);clear hb;refine hK.out _ _ ⟨(blk_cell a0.out 0).trans rfl,(blk_cell a0.out 1).trans rfl⟩ (fun hHeld=>?_);clear hK K;refine norm_ (a':=?_) ?_ ?_;rotate_left
      ·show Act.put _ (some 41) _=_;exact zqs
      refine one_ (i:=9) (N:=some 43) (zqb 25 1023) rfl rfl (one_of HT_.out zqk) (by decide) (fun K hK=>?_);refine goes_ Try.func15 zqk rfl #[.agg #[.slice c3 a4.length b8,.slice c4 a5.length b9]] (by rfl) rfl rfl zq1 ?_;(with_reducible refine(impl_BooleanOk.calls _ _ a4 _ _ a5 d8 _ ?side1 ?side2 ?side3 ?side4 h2.out).mono ?_);(case side1=> exact zq9);(case side2=> exact zq36);(case side3=> exact zq8);(case side4=> exact zq35);rintro e y1 ⟨rfl,hb⟩;refine⟨_,rfl,?_⟩;replace a1:=zqm (Kd.S_below (zqfS a1.out) hb);replace a2:=zqm (Kd.Q_below (zqfQ a2.out) hb);replace a0:=zqm (blk_below (g:=a3) (o:= .cells #[.slice c3 a4.length b8,.slice c4 a5.length b9] 26 (0,0)) (zqe a0.out) hb);replace HB:=zqm (below_step zq4 hb);clear hb;refine hK.out _ _ ⟨(blk_cell a0.out 0).trans rfl,(blk_cell a0.out 1).trans rfl⟩ (fun hHeld=>?_);clear hK K;refine norm_ (a':=?_) ?_ ?_;rotate_left
      ·show Act.put _ (some 43) _=_;exact zqs
      refine zqp 10 44 (zqb 25 2047) HT_ ?_;refine zqp 11 45 (zqb 25 4095) HT_ ?_;refine zqp 12 46 (zqb 25 8191) HT_ ?_;refine zqu 13 47 (zqb 25 16383) HT_ ?_;refine zqu 14 48 (zqb 25 32767) HT_ ?_;refine zqp 15 49 (zqb 25 65535) HT_ ?_;refine zqp 16 50 (zqb 25 131071) HT_ ?_;refine zqu 17 51 (zqb 25 262143) HT_ ?_;refine zqu 18 52 (zqb 25 524287) HT_ ?_;refine zqu 19 53 (zqb 25 1048575) HT_ ?_;refine zqu 20 54 (zqb 25 2097151) HT_ ?_;refine zqu 21 55 (zqb 25 4194303) HT_ ?_;refine zqu 22 56 (zqb 25 8388607) HT_ ?_;refine zqp 23 57 (zqb 25 16777215) HT_ ?_;refine zqp 24 2 (zqb 25 33554431) HT_ ?_;refine done_ (done_of HT_.out zqk) ?_;try go_wp2
      go_ret
      exact⟨zq13,zq4⟩
    ·rw [if_neg e9] at H;(have i0:(d5==d6)=false:=by simpa using e9);(try(have i1:decide (d5=d6)=false:=by simpa using e9));(try(have i2:(d5==d6)=false:=by simpa using e9));(try(have v3: ¬(d5=d6):=by simpa using e9));clear e9;obtain rfl:=Option.some.inj H
     go_enter Try.func10,Try.ntmps10
     (try go_wp2_with (first|((with_reducible refine gate_callee (f:=52) rfl ?_);refine goesL_ (some 12) rfl rfl Try.func52 zqk rfl #[.slice A0 l0.length c0] rfl zq1 ?_;(with_reducible refine(spec_DrawSameOk.calls k _ _ l0 a4 a5 a7 a8 _ ?side1 ?side2 A3.out).mono ?_);(case side1=> exact zq53);(case side2=>exact f5.out);rintro e y2 ⟨f2,f3,rfl,d9,e0,hb⟩;refine⟨_,rfl,?_⟩;have a1:=zqm (Kd.S_lower d9 (below_size zq0));have a2:=zqm (Kd.Q_lower e0 (below_size zq0));replace HB:=zqm (below_step zq0 hb);clear hb d9 e0)|((with_reducible refine gate_dst (N:=3) rfl ?_);refine box_event ?hg (N:=3) ?hd (cs:= #[.slice none 0 0,.slice none 0 0]) (t:=26) ?hr ?_;(case hd=>rfl);(case hg=>rfl);(case hr=> exact zq17);intro a3 hg k2 hbox hb;replace a1:=zqm (Kd.S_below (zqfS a1.out) hb);replace a2:=zqm (Kd.Q_below (zqfQ a2.out) hb);have e1:=zqm (below_step zq0 hb);have a0:=zqm (hbox);have e8:=zqm ((by rw [hg];exact(below_size zq0):w.heap.size≤a3));have a6:=zqm ((by rw [hg];exact(below_size zq0):w.heap.size≤a3));clear HB;have HB:=e1;clear e1 hb hbox hg;obtain⟨d1,c9,m1⟩:=Kd.S_slice a1.out;subst m1;have p9:k2.cell? ⟨a3,0,none⟩=some (.slice none 0 0):=(blk_cell a0.out 0).trans rfl;have q0:k2.cell? ⟨a3,1,none⟩=some (.slice none 0 0):=(blk_cell a0.out 1).trans rfl;have t3:=blk_frozen a0.out 0;have t4:=blk_frozen a0.out 1;obtain⟨d2,d0,m2,_⟩:=Kd.Q_slice a2.out;subst m2)|((with_reducible refine gate_callee (f:=53) rfl ?_);refine goesL_ (some 19) rfl rfl Try.func53 zqk rfl #[.agg #[.slice d1 a4.length c9,.slice d2 a5.length d0],.string a7,.string a8] rfl zq1 ?_;(with_reducible refine(impl_SameOk.calls _ _ a4 _ _ a5 a7 a8 c1 _ ?side1 ?side2 ?side3 ?side4 A4.out).mono ?_);(case side1=>refine(Kd.S_reads' (e:=24) (base:=w.heap.size) (ok:=fun k_=>some k_≠(.slice d2 a5.length d0:Value).ownBlock) (n:=a4.length) (c:=c9) ?_).2.2;exact zq135);(case side2=> exact zq36);(case side3=>refine(Kd.Q_reads' (e:=3) (base:=w.heap.size) (ok:=fun k_=>True) (n:=a5.length) (c:=d0) ?_).2.2;exact zq116);(case side4=> exact zq35);rintro e k3 ⟨rfl,hb⟩;refine⟨_,rfl,?_⟩;replace a1:=zqm (Kd.S_below zq135 hb);replace a2:=zqm (Kd.Q_below zq116 hb);replace a0:=zqm (blk_below (g:=a3) (o:= .cells #[.slice d1 a4.length c9,.slice d2 a5.length d0] 26 (0,0)) (by refine zqe ?_;refine blk_put (cs:= #[.slice d1 a4.length c9,.slice none 0 0]) ?_ 1 _ rfl;refine zqe ?_;refine blk_put (cs:= #[.slice none 0 0,.slice none 0 0]) ?_ 0 _ rfl;refine zqe ?_;exact a0.out) hb);replace HB:=zqm (below_step zq4 hb);clear hb;have q1:k3.cell? ⟨a3,0,none⟩=some (.slice d1 a4.length c9):=(blk_cell a0.out 0).trans rfl;have q2:k3.cell? ⟨a3,1,none⟩=some (.slice d2 a5.length d0):=(blk_cell a0.out 1).trans rfl;have t5:=blk_frozen a0.out 0;have t6:=blk_frozen a0.out 1)|((with_reducible refine gate_callee (f:=54) rfl ?_);refine goesL_ (some 24) rfl rfl Try.func54 zqk rfl #[.agg #[.slice d1 a4.length c9,.slice d2 a5.length d0],.string a7,.string a8] rfl zq1 ?_;(with_reducible refine(spec_SameOk.calls k _ _ a4 _ _ a5 a7 a8 c5 _ ?side1 ?side2 ?side3 ?side4 A5.out).mono ?_);(case side1=> exact zq9);(case side2=> exact zq36);(case side3=> exact zq8);(case side4=> exact zq35);rintro e k4 ⟨rfl,hb⟩;refine⟨_,rfl,?_⟩;replace a1:=zqm (Kd.S_below (zqfS a1.out) hb);replace a2:=zqm (Kd.Q_below (zqfQ a2.out) hb);replace a0:=zqm (blk_below (g:=a3) (o:= .cells #[.slice d1 a4.length c9,.slice d2 a5.length d0] 26 (0,0)) (zqe a0.out) hb);replace HB:=zqm (below_step zq4 hb);clear hb;have q3:k4.cell? ⟨a3,0,none⟩=some (.slice d1 a4.length c9):=(blk_cell a0.out 0).trans rfl;have q4:k4.cell? ⟨a3,1,none⟩=some (.slice d2 a5.length d0):=(blk_cell a0.out 1).trans rfl;have t7:=blk_frozen a0.out 0;have t8:=blk_frozen a0.out 1)|((with_reducible refine gate_callee (f:=17) rfl ?_);refine goesL_ (some 27) rfl rfl Try.func17 zqk rfl #[.agg #[.slice d1 a4.length c9,.slice d2 a5.length d0]] rfl zq1 ?_;(with_reducible refine(spec_LogicOk.calls k _ _ a4 _ _ a5 true _ ?side1 ?side2 ?side3 ?side4 f7.out).mono ?_);(case side1=> exact zq9);(case side2=> exact zq36);(case side3=> exact zq8);(case side4=> exact zq35);rintro e v2 ⟨rfl,hb⟩;refine⟨_,rfl,?_⟩;replace a1:=zqm (Kd.S_below (zqfS a1.out) hb);replace a2:=zqm (Kd.Q_below (zqfQ a2.out) hb);replace a0:=zqm (blk_below (g:=a3) (o:= .cells #[.slice d1 a4.length c9,.slice d2 a5.length d0] 26 (0,0)) (zqe a0.out) hb);replace HB:=zqm (below_step zq4 hb);clear hb)))
     replace a1:=zqm (Kd.S_drew a1.out);replace a2:=zqm (Kd.Q_drew a2.out);replace a0:=zqm (blk_drew a0.out);replace HB:=zqm (below_drew1 HB.out);refine start_ (n:=25) (S:=fun w'=>w'.cell? ⟨a3,0,none⟩=some (.slice d1 a4.length c9)∧w'.cell? ⟨a3,1,none⟩=some (.slice d2 a5.length d0)) (ds:= []) (zqb 25 0) zqk rfl rfl ⟨(blk_cell a0.out 0).trans rfl,(blk_cell a0.out 1).trans rfl⟩ (fun hHeld=>?_);refine with_tabW laws_FnSameOk.tab9 laws_FnSameOk.bits9 (fun HT_ HW_=>?_);generalize v2.drew=y3 at a1 a2 a0 HB hHeld ⊢;refine zqw 0 34 (zqb 25 1) HT_ HW_ hHeld ?_;refine zqw 2 36 (zqb 25 5) HT_ HW_ hHeld ?_;refine one_ (i:=1) (N:=some 35) (zqb 25 7) rfl rfl (one_of HT_.out zqk) (by decide) (fun K hK=>?_);refine goes_ Try.func53 zqk rfl #[.agg #[.slice d1 a4.length c9,.slice d2 a5.length d0],.string (⟨#[40,97,124,40,33,97,38,40,97,124,98,41,41,41]⟩:ByteArray),.string (⟨#[40,97,124,98,41]⟩:ByteArray)] (by rfl) rfl rfl zq1 ?_;(with_reducible refine(impl_SameOk.calls _ _ a4 _ _ a5 (⟨#[40,97,124,40,33,97,38,40,97,124,98,41,41,41]⟩:ByteArray) (⟨#[40,97,124,98,41]⟩:ByteArray) d5 _ ?side1 ?side2 ?side3 ?side4 g2.out).mono ?_);(case side1=> exact zq9);(case side2=> exact zq36);(case side3=> exact zq8);(case side4=> exact zq35);rintro e y4 ⟨rfl,hb⟩;refine⟨_,rfl,?_⟩;replace a1:=zqm (Kd.S_below (zqfS a1.out) hb);replace a2:=zqm (Kd.Q_below (zqfQ a2.out) hb);replace a0:=zqm (blk_below (g:=a3) (o:= .cells #[.slice d1 a4.length c9,.slice d2 a5.length d0] 26 (0,0)) (zqe a0.out) hb);replace HB:=zqm (below_step zq4 hb);clear hb;refine hK.out _ _ ⟨(blk_cell a0.out 0).trans rfl,(blk_cell a0.out 1).trans rfl⟩ (fun hHeld=>?_);clear hK K;refine norm_ (a':=?_) ?_ ?_;rotate_left
     ·show Act.put _ (some 35) _=_;exact zqs
     refine one_ (i:=3) (N:=some 37) (zqb 25 15) rfl rfl (one_of HT_.out zqk) (by decide) (fun K hK=>?_);refine goes_ Try.func19 zqk rfl #[.agg #[.slice d1 a4.length c9,.slice d2 a5.length d0]] (by rfl) rfl rfl zq1 ?_;(with_reducible refine(impl_KeepsOk.calls _ _ a4 _ _ a5 d6 _ ?side1 ?side2 ?side3 ?side4 g3.out).mono ?_);(case side1=> exact zq9);(case side2=> exact zq36);(case side3=> exact zq8);(case side4=> exact zq35);rintro e y5 ⟨rfl,hb⟩;refine⟨_,rfl,?_⟩;replace a1:=zqm (Kd.S_below (zqfS a1.out) hb);replace a2:=zqm (Kd.Q_below (zqfQ a2.out) hb);replace a0:=zqm (blk_below (g:=a3) (o:= .cells #[.slice d1 a4.length c9,.slice d2 a5.length d0] 26 (0,0)) (zqe a0.out) hb);replace HB:=zqm (below_step zq4 hb);clear hb;refine hK.out _ _ ⟨(blk_cell a0.out 0).trans rfl,(blk_cell a0.out 1).trans rfl⟩ (fun hHeld=>?_);clear hK K;refine norm_ (a':=?_) ?_ ?_;rotate_left
     ·show Act.put _ (some 37) _=_;exact zqs
     refine zqp 4 38 (zqb 25 31) HT_ ?_;refine zqp 5 39 (zqb 25 63) HT_ ?_;refine zqu 6 40 (zqb 25 127) HT_ ?_;refine zqu 7 41 (zqb 25 255) HT_ ?_;refine zqu 8 42 (zqb 25 511) HT_ ?_;refine zqu 9 43 (zqb 25 1023) HT_ ?_;refine zqu 10 44 (zqb 25 2047) HT_ ?_;refine zqp 11 45 (zqb 25 4095) HT_ ?_;refine zqp 12 46 (zqb 25 8191) HT_ ?_;refine zqu 13 47 (zqb 25 16383) HT_ ?_;refine zqu 14 48 (zqb 25 32767) HT_ ?_;refine zqp 15 49 (zqb 25 65535) HT_ ?_;refine zqp 16 50 (zqb 25 131071) HT_ ?_;refine zqu 17 51 (zqb 25 262143) HT_ ?_;refine zqu 18 52 (zqb 25 524287) HT_ ?_;refine zqu 19 53 (zqb 25 1048575) HT_ ?_;refine zqu 20 54 (zqb 25 2097151) HT_ ?_;refine zqu 21 55 (zqb 25 4194303) HT_ ?_;refine zqu 22 56 (zqb 25 8388607) HT_ ?_;refine zqp 23 57 (zqb 25 16777215) HT_ ?_;refine zqp 24 2 (zqb 25 33554431) HT_ ?_;refine done_ (done_of HT_.out zqk) ?_;try go_wp2
     go_ret
     exact⟨zq13,zq4⟩
   ·replace g4:=Bool.eq_false_iff.mpr g4;subst g4;rw [if_neg (show¬(false=true) by decide)] at H
    by_cases g6:c1=true
    ·subst g6;rw [if_pos rfl] at H;obtain rfl:=Option.some.inj H
     go_enter Try.func10,Try.ntmps10
     go_wp2_with (first|((with_reducible refine gate_callee (f:=52) rfl ?_);refine goesL_ (some 12) rfl rfl Try.func52 zqk rfl #[.slice A0 l0.length c0] rfl zq1 ?_;(with_reducible refine(spec_DrawSameOk.calls k _ _ l0 a4 a5 a7 a8 _ ?side1 ?side2 A3.out).mono ?_);(case side1=> exact zq53);(case side2=>exact f5.out);rintro e y6 ⟨f2,f3,rfl,d9,e0,hb⟩;refine⟨_,rfl,?_⟩;have a1:=zqm (Kd.S_lower d9 (below_size zq0));have a2:=zqm (Kd.Q_lower e0 (below_size zq0));replace HB:=zqm (below_step zq0 hb);clear hb d9 e0)|((with_reducible refine gate_dst (N:=3) rfl ?_);refine box_event ?hg (N:=3) ?hd (cs:= #[.slice none 0 0,.slice none 0 0]) (t:=26) ?hr ?_;(case hd=>rfl);(case hg=>rfl);(case hr=> exact zq17);intro a3 hg k5 hbox hb;replace a1:=zqm (Kd.S_below (zqfS a1.out) hb);replace a2:=zqm (Kd.Q_below (zqfQ a2.out) hb);have e1:=zqm (below_step zq0 hb);have a0:=zqm (hbox);have e8:=zqm ((by rw [hg];exact(below_size zq0):w.heap.size≤a3));have a6:=zqm ((by rw [hg];exact(below_size zq0):w.heap.size≤a3));clear HB;have HB:=e1;clear e1 hb hbox hg;obtain⟨e4,e2,m3⟩:=Kd.S_slice a1.out;subst m3;have q5:k5.cell? ⟨a3,0,none⟩=some (.slice none 0 0):=(blk_cell a0.out 0).trans rfl;have q6:k5.cell? ⟨a3,1,none⟩=some (.slice none 0 0):=(blk_cell a0.out 1).trans rfl;have t9:=blk_frozen a0.out 0;have u0:=blk_frozen a0.out 1;obtain⟨e5,e3,m4,_⟩:=Kd.Q_slice a2.out;subst m4)|((with_reducible refine gate_callee (f:=53) rfl ?_);refine goesL_ (some 19) rfl rfl Try.func53 zqk rfl #[.agg #[.slice e4 a4.length e2,.slice e5 a5.length e3],.string a7,.string a8] rfl zq1 ?_;(with_reducible refine(impl_SameOk.calls _ _ a4 _ _ a5 a7 a8 true _ ?side1 ?side2 ?side3 ?side4 A4.out).mono ?_);(case side1=>refine(Kd.S_reads' (e:=24) (base:=w.heap.size) (ok:=fun k_=>some k_≠(.slice e5 a5.length e3:Value).ownBlock) (n:=a4.length) (c:=e2) ?_).2.2;exact zq140);(case side2=> exact zq36);(case side3=>refine(Kd.Q_reads' (e:=3) (base:=w.heap.size) (ok:=fun k_=>True) (n:=a5.length) (c:=e3) ?_).2.2;exact zq121);(case side4=> exact zq35);rintro e k6 ⟨rfl,hb⟩;refine⟨_,rfl,?_⟩;replace a1:=zqm (Kd.S_below zq140 hb);replace a2:=zqm (Kd.Q_below zq121 hb);replace a0:=zqm (blk_below (g:=a3) (o:= .cells #[.slice e4 a4.length e2,.slice e5 a5.length e3] 26 (0,0)) (by refine zqe ?_;refine blk_put (cs:= #[.slice e4 a4.length e2,.slice none 0 0]) ?_ 1 _ rfl;refine zqe ?_;refine blk_put (cs:= #[.slice none 0 0,.slice none 0 0]) ?_ 0 _ rfl;refine zqe ?_;exact a0.out) hb);replace HB:=zqm (below_step zq4 hb);clear hb;have q7:k6.cell? ⟨a3,0,none⟩=some (.slice e4 a4.length e2):=(blk_cell a0.out 0).trans rfl;have q8:k6.cell? ⟨a3,1,none⟩=some (.slice e5 a5.length e3):=(blk_cell a0.out 1).trans rfl;have u1:=blk_frozen a0.out 0;have u2:=blk_frozen a0.out 1)|((with_reducible refine gate_callee (f:=54) rfl ?_);refine goesL_ (some 24) rfl rfl Try.func54 zqk rfl #[.agg #[.slice e4 a4.length e2,.slice e5 a5.length e3],.string a7,.string a8] rfl zq1 ?_;(with_reducible refine(spec_SameOk.calls k _ _ a4 _ _ a5 a7 a8 c5 _ ?side1 ?side2 ?side3 ?side4 A5.out).mono ?_);(case side1=> exact zq9);(case side2=> exact zq36);(case side3=> exact zq8);(case side4=> exact zq35);rintro e k7 ⟨rfl,hb⟩;refine⟨_,rfl,?_⟩;replace a1:=zqm (Kd.S_below (zqfS a1.out) hb);replace a2:=zqm (Kd.Q_below (zqfQ a2.out) hb);replace a0:=zqm (blk_below (g:=a3) (o:= .cells #[.slice e4 a4.length e2,.slice e5 a5.length e3] 26 (0,0)) (zqe a0.out) hb);replace HB:=zqm (below_step zq4 hb);clear hb;have q9:k7.cell? ⟨a3,0,none⟩=some (.slice e4 a4.length e2):=(blk_cell a0.out 0).trans rfl;have r0:k7.cell? ⟨a3,1,none⟩=some (.slice e5 a5.length e3):=(blk_cell a0.out 1).trans rfl;have u3:=blk_frozen a0.out 0;have u4:=blk_frozen a0.out 1)|((with_reducible refine gate_callee (f:=17) rfl ?_);refine goesL_ (some 27) rfl rfl Try.func17 zqk rfl #[.agg #[.slice e4 a4.length e2,.slice e5 a5.length e3]] rfl zq1 ?_;(with_reducible refine(spec_LogicOk.calls k _ _ a4 _ _ a5 false _ ?side1 ?side2 ?side3 ?side4 f7.out).mono ?_);(case side1=> exact zq9);(case side2=> exact zq36);(case side3=> exact zq8);(case side4=> exact zq35);rintro e y7 ⟨rfl,hb⟩;refine⟨_,rfl,?_⟩;replace a1:=zqm (Kd.S_below (zqfS a1.out) hb);replace a2:=zqm (Kd.Q_below (zqfQ a2.out) hb);replace a0:=zqm (blk_below (g:=a3) (o:= .cells #[.slice e4 a4.length e2,.slice e5 a5.length e3] 26 (0,0)) (zqe a0.out) hb);replace HB:=zqm (below_step zq4 hb);clear hb))
     go_ret
     exact⟨zq13,zq4⟩
    ·replace g6:=Bool.eq_false_iff.mpr g6;subst g6;rw [if_neg (show¬(false=true) by decide)] at H;replace H:=Option.bind_eq_some_iff.mp H;obtain⟨f9,h6,H⟩:=H;(try dsimp only at H);have u6:=zqm h6;clear h6;obtain rfl:=Option.some.inj H
     go_enter Try.func10,Try.ntmps10
     go_wp2_with (first|((with_reducible refine gate_callee (f:=52) rfl ?_);refine goesL_ (some 12) rfl rfl Try.func52 zqk rfl #[.slice A0 l0.length c0] rfl zq1 ?_;(with_reducible refine(spec_DrawSameOk.calls k _ _ l0 a4 a5 a7 a8 _ ?side1 ?side2 A3.out).mono ?_);(case side1=> exact zq53);(case side2=>exact f5.out);rintro e y8 ⟨f2,f3,rfl,d9,e0,hb⟩;refine⟨_,rfl,?_⟩;have a1:=zqm (Kd.S_lower d9 (below_size zq0));have a2:=zqm (Kd.Q_lower e0 (below_size zq0));replace HB:=zqm (below_step zq0 hb);clear hb d9 e0)|((with_reducible refine gate_dst (N:=3) rfl ?_);refine box_event ?hg (N:=3) ?hd (cs:= #[.slice none 0 0,.slice none 0 0]) (t:=26) ?hr ?_;(case hd=>rfl);(case hg=>rfl);(case hr=> exact zq17);intro a3 hg h7 hbox hb;replace a1:=zqm (Kd.S_below (zqfS a1.out) hb);replace a2:=zqm (Kd.Q_below (zqfQ a2.out) hb);have e1:=zqm (below_step zq0 hb);have a0:=zqm (hbox);have e8:=zqm ((by rw [hg];exact(below_size zq0):w.heap.size≤a3));have a6:=zqm ((by rw [hg];exact(below_size zq0):w.heap.size≤a3));clear HB;have HB:=e1;clear e1 hb hbox hg;obtain⟨d3,c7,i6⟩:=Kd.S_slice a1.out;subst i6;have m5:h7.cell? ⟨a3,0,none⟩=some (.slice none 0 0):=(blk_cell a0.out 0).trans rfl;have m6:h7.cell? ⟨a3,1,none⟩=some (.slice none 0 0):=(blk_cell a0.out 1).trans rfl;have n1:=blk_frozen a0.out 0;have n2:=blk_frozen a0.out 1;obtain⟨d4,c8,i7,_⟩:=Kd.Q_slice a2.out;subst i7)|((with_reducible refine gate_callee (f:=53) rfl ?_);refine goesL_ (some 19) rfl rfl Try.func53 zqk rfl #[.agg #[.slice d3 a4.length c7,.slice d4 a5.length c8],.string a7,.string a8] rfl zq1 ?_;(with_reducible refine(impl_SameOk.calls _ _ a4 _ _ a5 a7 a8 false _ ?side1 ?side2 ?side3 ?side4 A4.out).mono ?_);(case side1=>refine(Kd.S_reads' (e:=24) (base:=w.heap.size) (ok:=fun k_=>some k_≠(.slice d4 a5.length c8:Value).ownBlock) (n:=a4.length) (c:=c7) ?_).2.2;exact zq136);(case side2=> exact zq36);(case side3=>refine(Kd.Q_reads' (e:=3) (base:=w.heap.size) (ok:=fun k_=>True) (n:=a5.length) (c:=c8) ?_).2.2;exact zq117);(case side4=> exact zq35);rintro e h8 ⟨rfl,hb⟩;refine⟨_,rfl,?_⟩;replace a1:=zqm (Kd.S_below zq136 hb);replace a2:=zqm (Kd.Q_below zq117 hb);replace a0:=zqm (blk_below (g:=a3) (o:= .cells #[.slice d3 a4.length c7,.slice d4 a5.length c8] 26 (0,0)) (by refine zqe ?_;refine blk_put (cs:= #[.slice d3 a4.length c7,.slice none 0 0]) ?_ 1 _ rfl;refine zqe ?_;refine blk_put (cs:= #[.slice none 0 0,.slice none 0 0]) ?_ 0 _ rfl;refine zqe ?_;exact a0.out) hb);replace HB:=zqm (below_step zq4 hb);clear hb;have m7:h8.cell? ⟨a3,0,none⟩=some (.slice d3 a4.length c7):=(blk_cell a0.out 0).trans rfl;have m8:h8.cell? ⟨a3,1,none⟩=some (.slice d4 a5.length c8):=(blk_cell a0.out 1).trans rfl;have n3:=blk_frozen a0.out 0;have n4:=blk_frozen a0.out 1)|((with_reducible refine gate_callee (f:=54) rfl ?_);refine goesL_ (some 24) rfl rfl Try.func54 zqk rfl #[.agg #[.slice d3 a4.length c7,.slice d4 a5.length c8],.string a7,.string a8] rfl zq1 ?_;(with_reducible refine(spec_SameOk.calls k _ _ a4 _ _ a5 a7 a8 c5 _ ?side1 ?side2 ?side3 ?side4 A5.out).mono ?_);(case side1=> exact zq9);(case side2=> exact zq36);(case side3=> exact zq8);(case side4=> exact zq35);rintro e h9 ⟨rfl,hb⟩;refine⟨_,rfl,?_⟩;replace a1:=zqm (Kd.S_below (zqfS a1.out) hb);replace a2:=zqm (Kd.Q_below (zqfQ a2.out) hb);replace a0:=zqm (blk_below (g:=a3) (o:= .cells #[.slice d3 a4.length c7,.slice d4 a5.length c8] 26 (0,0)) (zqe a0.out) hb);replace HB:=zqm (below_step zq4 hb);clear hb;have m9:h9.cell? ⟨a3,0,none⟩=some (.slice d3 a4.length c7):=(blk_cell a0.out 0).trans rfl;have n0:h9.cell? ⟨a3,1,none⟩=some (.slice d4 a5.length c8):=(blk_cell a0.out 1).trans rfl;have n5:=blk_frozen a0.out 0;have n6:=blk_frozen a0.out 1)|((with_reducible refine gate_callee (f:=17) rfl ?_);refine goesL_ (some 27) rfl rfl Try.func17 zqk rfl #[.agg #[.slice d3 a4.length c7,.slice d4 a5.length c8]] rfl zq1 ?_;(with_reducible refine(spec_LogicOk.calls k _ _ a4 _ _ a5 false _ ?side1 ?side2 ?side3 ?side4 f7.out).mono ?_);(case side1=> exact zq9);(case side2=> exact zq36);(case side3=> exact zq8);(case side4=> exact zq35);rintro e v6 ⟨rfl,hb⟩;refine⟨_,rfl,?_⟩;replace a1:=zqm (Kd.S_below (zqfS a1.out) hb);replace a2:=zqm (Kd.Q_below (zqfQ a2.out) hb);replace a0:=zqm (blk_below (g:=a3) (o:= .cells #[.slice d3 a4.length c7,.slice d4 a5.length c8] 26 (0,0)) (zqe a0.out) hb);replace HB:=zqm (below_step zq4 hb);clear hb)|(go_at_call 18;(with_reducible refine(laws_alive.calls k f9 _ u6.out).mono ?_);rintro e v7 ⟨rfl,hb⟩;replace a1:=zqm (Kd.S_below (zqfS a1.out) hb);replace a2:=zqm (Kd.Q_below (zqfQ a2.out) hb);replace a0:=zqm (blk_below (g:=a3) (o:= .cells #[.slice d3 a4.length c7,.slice d4 a5.length c8] 26 (0,0)) (zqe a0.out) hb);replace HB:=zqm (below_step zq4 hb);clear hb))
     go_ret
     exact⟨zq13,zq4⟩
def laws_FnSameOk.Pure : Prop := ∀ (l0 : List Int), l0.length ≤ maxLen → l0.length * 1 ≤ 140737488351232 → (∀ x ∈ l0, (Lit.int .u8 x).wf = true) → ∃ k, laws_FnSameOk.f k l0 = some true
theorem laws_FnSameOk.walk (P : laws_FnSameOk.Pure) (a0 : Option Addr) (len0 cap0 : Nat) (z0 : List Int) (w : World) (w0 : (a0 = none ∧ len0 = 0 ∧ cap0 = 0 ∧ z0 = []) ∨ ∃ x, a0 = some x ∧ len0 ≤ cap0 ∧ cap0 ≤ maxLen ∧ z0.length = cap0 ∧ (∀ i, i < z0.length → w.cell? (x.add i) = some (.int .u8 (z0.getD i 0))) ∧ ∀ n ∈ z0, (Lit.int .u8 n).wf = true) (y0 : len0 * 1 ≤ 140737488351232) :
  Calls Try.prog 10 #[.slice a0 len0 cap0] w fun e w' => e = .returned (.bool true) ∧ Below w.heap.size w w' := by
 obtain ⟨l0, rfl, hr0, hm0, hw0, hc0⟩ := ReadsInt.ofRowC w0
 obtain ⟨k, h⟩ := P l0 hm0 y0 hw0
 refine (laws_FnSameOk.calls k _ _ l0 true w (Kd.C_of_reads (d := (0 : Int)) (h1 := fun _ => rfl) hr0) hc0 h).mono ?_
 rintro e w' ⟨rfl, hd⟩
 exact ⟨rfl, hd⟩
end Go.Proofs.Ytcbjpdaogicibaa.Print
end
section
namespace Go.Proofs.Ytcbjpdaogicibaa.Print
open Go.RowKit Go.Proofs.YtcbjpdaogicibaaW.PrintWords Go.Proofs.YtcbjpdaogicibaaW.PrintLast Go.Proofs.YtcbjpdaogicibaaW.PrintMore
open Oml
theorem enc_b {n s b : Nat} (hb : b < n) : (s * n + b) % n = b := by rw [Nat.add_comm, Nat.add_mul_mod_self_right, Nat.mod_eq_of_lt hb]
theorem enc_s {n s b : Nat} (hb : b < n) : (s * n + b) / n = s := by rw [Nat.add_comm, Nat.add_mul_div_right _ _ (by omega), Nat.div_eq_of_lt hb, Nat.zero_add]
theorem enc_lt {n s b m : Nat} (hs : s < m) (hb : b < n) : s * n + b < m * n := by
 have : (s + 1) * n ≤ m * n := Nat.mul_le_mul_right n hs
 rw [Nat.succ_mul] at this
 omega
theorem tdiv_nat (i n : Nat) : Int.tdiv (i : Int) (n : Int) = ((i / n : Nat) : Int) := by first | exact (Int.ofNat_tdiv i n).symm | rfl
theorem tmod_nat (i n : Nat) : Int.tmod (i : Int) (n : Int) = ((i % n : Nat) : Int) := by first | exact (Int.ofNat_tmod i n).symm | rfl
theorem wrap_cast {x : Nat} (h : x < 1000000) : wrap64 (x : Int) = (x : Int) := wrap_small (by omega) (by omega)
theorem cube_small {n : Nat} (h : n ≤ 12) : n * n * n ≤ 1728 := by
 have h1 : n * n ≤ 144 := Nat.mul_le_mul h h
 exact Nat.mul_le_mul h1 h
theorem wrap_cube {n : Nat} (h : n ≤ 12) : wrap64 (wrap64 ((n : Int) * n) * n) = ((n * n * n : Nat) : Int) := by
 have h1:n*n≤144:=Nat.mul_le_mul h h
 have h2:=cube_small h
 rw [show (n:Int)*n=((n*n:Nat):Int) by simp,wrap_cast (by omega),show ((n*n:Nat):Int)*n=((n*n*n:Nat):Int) by simp,wrap_cast (by omega)]
def sameK (U : List (List Int)) (N : List Int) (f h : Fm) (k : Nat) : Bool := sameT U N f h ((k / U.length / U.length : Nat) : Int) ((k / U.length % U.length : Nat) : Int) ((k % U.length : Nat) : Int)
theorem sameB_eq {U : List (List Int)} {N : List Int} (f h : Fm) (hp : 1 ≤ U.length) : sameB U N f h = allN (U.length * U.length * U.length) (sameK U N f h) := by
 rw [Bool.eq_iff_iff]
 unfold sameB sameK
 simp only [allN_iff]
 constructor
 ·intro H k hk
  have hi1:k / U.length<U.length*U.length:=Nat.div_lt_of_lt_mul (by rw [Nat.mul_comm];exact hk)
  exact H _ (Nat.div_lt_of_lt_mul hi1) _ (Nat.mod_lt _ hp) _ (Nat.mod_lt _ hp)
 ·intro H a ha b hb c hc
  have:=H ((a*U.length+b)*U.length+c) (enc_lt (enc_lt ha hb) hc)
  rw [enc_b hc,enc_s hc,enc_b hb,enc_s hb] at this
  exact this
theorem same_loop {U : List (List Int)} {N : List Int} (L : Logic U N) {s t : ByteArray} {f h : Fm} (hf : fmOf s = some f) (hh : fmOf t = some h) : Ev (fun k => spec_SameOk.l0 k s t (U.length : Int) (noI U) 0 U N) (sameB U N f h) := by
 have hs:=L.small
 have hp:=L.pos
 have hc3:=cube_small hs
 rw [sameB_eq f h hp]
 refine Ev.eq (Ev.all (n:=U.length*U.length*U.length) (g:=fun k i=>spec_SameOk.l0 k s t (U.length:Int) (noI U) i U N) (sameK U N f h) (go:=true) (stop:=false) (by omega) (fun _=>?_) fun i hi _ R hR=>?_) (by cases allN (U.length*U.length*U.length) (sameK U N f h) <;> rfl)
 ·refine Ev.succ ?_
  simp only [spec_SameOk.l0,wrap_cube hs]
  repeat(with_reducible first|refine Ev.ip ?_|refine Ev.iq ?_)
  exact Ev.now _
 ·have hi1:i / U.length<U.length*U.length:=Nat.div_lt_of_lt_mul (by rw [Nat.mul_comm];exact hi)
  have ha:i / U.length / U.length<U.length:=Nat.div_lt_of_lt_mul hi1
  have hb:i / U.length % U.length<U.length:=Nat.mod_lt _ hp
  have hc:i % U.length<U.length:=Nat.mod_lt _ hp
  have w1:wrap64 ((i / U.length:Nat):Int)=((i / U.length:Nat):Int):=wrap_cast (by have:U.length*U.length≤144:=Nat.mul_le_mul hs hs;omega)
  have w2:wrap64 ((i / U.length / U.length:Nat):Int)=((i / U.length / U.length:Nat):Int):=wrap_cast (by omega)
  have hK:sameK U N f h i=sameT U N f h ((i / U.length / U.length:Nat):Int) ((i / U.length % U.length:Nat):Int) ((i % U.length:Nat):Int):=rfl
  rw [hK] at hR ⊢
  refine Ev.succ ?_
  simp only [spec_SameOk.l0,wrap_cube hs,tdiv_nat,tmod_nat,w1,w2]
  generalize i / U.length / U.length=a at*
  generalize i / U.length % U.length=b at*
  generalize i % U.length=c at*
  have Ia:In U (a:Int):=⟨by omega,by omega⟩
  have Ib:In U (b:Int):=⟨by omega,by omega⟩
  have Ic:In U (c:Int):=⟨by omega,by omega⟩
  have hlt:(i:Int)<((U.length*U.length*U.length:Nat):Int):=by omega
  have hne: ¬(U.length:Int)=0:=by omega
  refine Ev.ite_pos hlt (Ev.ite_neg hne (Ev.bind (value_of_ev L Ia Ib Ic hf) (Ev.bind (value_of_ev L Ia Ib Ic hh) ?_)))
  unfold sameT at hR ⊢
  by_cases e:valF U N a b c f=valF U N a b c h
  ·exact Ev.ite_pos e (Ev.eq (hR (by simp [e])) (by simp [e]))
  ·exact Ev.ite_neg e (Ev.eq (Ev.now _) (by simp [e]))
theorem spec_SameOk.ev (U : List (List Int)) (N : List Int) (s t : ByteArray) : Ev (fun k => spec_SameOk.f k U N s t) (sameO U N (fmOf s) (fmOf t)) := by
 unfold spec_SameOk.f
 have hT:Ev (fun k=>spec_SameOk.j0 k s t true U N) false:=by
  refine Ev.succ ?_
  simp only [spec_SameOk.j0]
  repeat(with_reducible first|refine Ev.ip ?_|refine Ev.iq ?_)
  exact Ev.now _
 refine Ev.bind (spec_FormulaOk.ev s) ?_
 cases hf:fmOf s with
 |none=>
  refine Ev.eq (Ev.ite_neg (by simp) hT) ?_
  cases fmOf t <;> rfl
 |some f=>
  refine Ev.ite_pos rfl (Ev.bind (spec_FormulaOk.ev t) ?_)
  cases hh:fmOf t with
  |none=>exact Ev.eq (Ev.ite_neg (by simp) hT) rfl
  |some h=>
   refine Ev.ite_pos rfl (Ev.bind (spec_LogicOk.ev U N) ?_)
   show Ev _ (logicB U N && sameB U N f h)
   cases hl:logicB U N with
   |false=>exact hT
   |true=>
    have L:=logicB_iff.1 hl
    refine Ev.succ ?_
    simp only [spec_SameOk.j0]
    refine Ev.ite_neg (by simp) (Ev.bind (spec_NoOf.ev U N) ?_)
    rw [hl,if_pos rfl,L.len]
    exact Ev.eq (same_loop L hf hh) rfl
theorem bne_self' (x : Bool) : ¬ (x != x) = true := by cases x <;> simp
section
section
variable {U : List (List Int)} {N : List Int} (L : Logic U N)
theorem fin_inj {x y : Fin U.length} : (((x.1 : Nat) : Int) = ((y.1 : Nat) : Int)) ↔ x = y := by
 constructor
 ·intro h; exact Fin.ext (by omega)
 ·intro h; rw [h]
theorem fin_beq (x y : Fin U.length) : (((x.1 : Nat) : Int) == ((y.1 : Nat) : Int)) = decide (x = y) := by
 rw [Bool.eq_iff_iff, beq_iff_eq, decide_eq_true_eq]; exact fin_inj
theorem leB_fin (x y : Fin U.length) : leB U x.1 y.1 = true ↔ L.ol.le x y := Iff.rfl
theorem allN_fin {n : Nat} {p : Nat → Bool} : allN n p = true ↔ ∀ x : Fin n, p x.1 = true := by
 rw [allN_iff]
 exact ⟨fun h x => h x.1 x.2, fun h i hi => h ⟨i, hi⟩⟩
end
end
section
section
variable {U : List (List Int)} {N : List Int} (L : Logic U N)
include L
theorem splitB_fin (x y z : Fin U.length) : splitB U x.1 y.1 z.1 = true ↔ L.ol.Split x y z := by
 unfold splitB OL.Split
 rw [or_fin L,and_fin L,and_fin L,and_fin L,or_fin L,fin_beq,decide_eq_true_eq]
theorem booB_iff : booB U = true ↔ L.ol.Boolean := by
 unfold booB OL.Boolean
 rw [allN_fin]
 constructor
 ·intro h a b c
  exact(splitB_fin L a b c).1 (allN_fin.1 (allN_fin.1 (h a) b) c)
 ·intro h a
  exact allN_fin.2 fun b=>allN_fin.2 fun c=>(splitB_fin L a b c).2 (h a b c)
end
end
section
section
variable {U : List (List Int)} {N : List Int} (L : Logic U N)
include L
theorem at2_fin (x y : Fin U.length) : (at2 U x.1 y.1 = 1 ↔ L.ol.le x y) ∧ (at2 U x.1 y.1 = 0 ↔ ¬ L.ol.le x y) := by
 have h:L.ol.le x y↔at2 U x.1 y.1=1:=by
  rw [← leB_fin L];unfold leB;exact beq_iff_eq
 refine⟨h.symm,?_⟩
 rw [h]
 rcases L.bit x.1 y.1 x.2 y.2 with e|e <;> omega
theorem keepB_iff : keepB U N = true ↔ L.ol.Keeps := by
 unfold keepB OL.Keeps
 rw [allN_fin]
 have key: ∀x y:Fin U.length,keepT U N x.1 y.1=true↔(L.ol.le x y→L.ol.join x (L.ol.meet y (L.ol.neg x))=y):=fun x y=>by
  unfold keepT
  rw [Int.toNat_natCast,Int.toNat_natCast,not_fin L,and_fin L,or_fin L,fin_beq,Bool.or_eq_true,beq_iff_eq,decide_eq_true_eq,(at2_fin L x y).2]
  exact⟨fun h k=>h.resolve_left (fun n=>n k),fun h=>(Classical.em (L.ol.le x y)).elim (fun k=> .inr (h k)) .inl⟩
 constructor
 ·intro h x y
  exact(key x y).1 (allN_fin.1 (h x) y)
 ·intro h x
  exact allN_fin.2 fun y=>(key x y).2 (h x y)
end
end
section
section
variable {U : List (List Int)} {N : List Int} (L : Logic U N)
include L
theorem sameB_iff (f h : Fm) : sameB U N f h = true ↔ ∀ x y z, valO L x y z f = valO L x y z h := by
 unfold sameB
 rw [allN_fin]
 have key: ∀x y z:Fin U.length,sameT U N f h x.1 y.1 z.1=true↔valO L x y z f=valO L x y z h:=fun x y z=>by
  unfold sameT
  rw [val_fin L,val_fin L,fin_beq,decide_eq_true_eq]
 constructor
 ·intro k x y z
  exact(key x y z).1 (allN_fin.1 (allN_fin.1 (k x) y) z)
 ·intro k x
  exact allN_fin.2 fun y=>allN_fin.2 fun z=>(key x y z).2 (k x y z)
theorem sameB_symm (f h : Fm) : sameB U N h f = sameB U N f h := by
 rw [Bool.eq_iff_iff, sameB_iff L, sameB_iff L]
 exact ⟨fun k x y z => (k x y z).symm, fun k x y z => (k x y z).symm⟩
theorem same_keeps : sameB U N (.bin 124 (.leaf 97) (.bin 38 (.neg (.leaf 97)) (.bin 124 (.leaf 97) (.leaf 98)))) (.bin 124 (.leaf 97) (.leaf 98)) = keepB U N := by
 rw [Bool.eq_iff_iff,sameB_iff L,keepB_iff L,OL.keeps_iff_eq]
 constructor
 ·intro h a b
  have:=h a b a
  simpa [valO] using this
 ·intro h a b c
  have:=h a b
  simpa [valO] using this
theorem same_boole : sameB U N (.bin 38 (.leaf 97) (.bin 124 (.leaf 98) (.leaf 99))) (.bin 124 (.bin 38 (.leaf 97) (.leaf 98)) (.bin 38 (.leaf 97) (.leaf 99))) = booB U := by
 rw [Bool.eq_iff_iff,sameB_iff L,booB_iff L]
 constructor
 ·intro h a b c
  have:=h a b c
  simpa [valO,OL.Split] using this
 ·intro h a b c
  have:=h a b c
  simpa [valO,OL.Split] using this
theorem same_morgan : sameB U N (.neg (.bin 38 (.leaf 97) (.leaf 98))) (.bin 124 (.neg (.leaf 97)) (.neg (.leaf 98))) = true := by
 rw [sameB_iff L]
 intro x y z
 simp [valO, L.ol.neg_meet]
end
theorem fm_keeps : fmOf ⟨#[40, 97, 124, 40, 33, 97, 38, 40, 97, 124, 98, 41, 41, 41]⟩ = some (.bin 124 (.leaf 97) (.bin 38 (.neg (.leaf 97)) (.bin 124 (.leaf 97) (.leaf 98)))) := by kernel_rfl
theorem fm_or : fmOf ⟨#[40, 97, 124, 98, 41]⟩ = some (.bin 124 (.leaf 97) (.leaf 98)) := by kernel_rfl
theorem fm_dl : fmOf ⟨#[40, 97, 38, 40, 98, 124, 99, 41, 41]⟩ = some (.bin 38 (.leaf 97) (.bin 124 (.leaf 98) (.leaf 99))) := by kernel_rfl
theorem fm_dr : fmOf ⟨#[40, 40, 97, 38, 98, 41, 124, 40, 97, 38, 99, 41, 41]⟩ = some (.bin 124 (.bin 38 (.leaf 97) (.leaf 98)) (.bin 38 (.leaf 97) (.leaf 99))) := by kernel_rfl
theorem fm_nand : fmOf ⟨#[33, 40, 97, 38, 98, 41]⟩ = some (.neg (.bin 38 (.leaf 97) (.leaf 98))) := by kernel_rfl
theorem fm_nor : fmOf ⟨#[40, 33, 97, 124, 33, 98, 41]⟩ = some (.bin 124 (.neg (.leaf 97)) (.neg (.leaf 98))) := by kernel_rfl
end
end Go.Proofs.Ytcbjpdaogicibaa.Print
end
section
namespace Go.Proofs.Ytcbjpdaogicibaa.Print
open Go.RowKit Go.Proofs.YtcbjpdaogicibaaW.PrintWords Go.Proofs.YtcbjpdaogicibaaW.PrintLast Go.Proofs.YtcbjpdaogicibaaW.PrintMore
open Oml
theorem drawSameOk_ev {l : List Int} (h : Bytes l) : ∃ V M s t, Ev (fun k => spec_DrawSameOk.f k l) (V, M, s, t) := by
 obtain⟨b,hb,hbl,ho⟩:=open_ev h
 obtain⟨V,M,q,hd,q0,q1⟩:=logic_ev hb hbl (p:=0) (by omega) (by omega) 14
 obtain⟨s,r,hs,r0,r1,s1⟩:=formed_ev hb hbl (p:=q) (by omega) (by omega) 14
 obtain⟨v,e,_,_⟩:=pick_ev hb hbl (p:=r) (by omega) (by omega) 4
 unfold spec_DrawSameOk.f
 by_cases e0:v=0
 ·exact⟨V,M,_,_,Ev.pbind ho (Ev.bind hd (Ev.bind hs (Ev.bind e (Ev.ite_pos e0 (Ev.now _)))))⟩
 by_cases e1:v=1
 ·exact⟨V,M,_,_,Ev.pbind ho (Ev.bind hd (Ev.bind hs (Ev.bind e (Ev.ite_neg e0 (Ev.ite_pos e1 (Ev.now _))))))⟩
 by_cases e2:v=2
 ·exact⟨V,M,_,_,Ev.pbind ho (Ev.bind hd (Ev.bind hs (Ev.bind e (Ev.ite_neg e0 (Ev.ite_neg e1 (Ev.ite_pos e2 (Ev.ite_pos (show 2+s.size≤9223372036854775807 by omega) (Ev.now _))))))))⟩
 obtain⟨t,z,ht,_⟩:=formed_ev hb hbl (p:=r+1) (by omega) (by omega) 14
 exact⟨V,M,s,t,Ev.pbind ho (Ev.bind hd (Ev.bind hs (Ev.bind e (Ev.ite_neg e0 (Ev.ite_neg e1 (Ev.ite_neg e2 (Ev.bind ht (Ev.now _))))))))⟩
theorem laws_FnSameOk.ev (l : List Int) (h : Bytes l) : Ev (fun k => laws_FnSameOk.f k l) true := by
 unfold laws_FnSameOk.f
 by_cases hl:(l.length:Int)>1048576
 ·exact Ev.ite_pos hl (Ev.now _)
 refine Ev.ite_neg hl ?_
 obtain⟨V,M,s,t,hd⟩:=drawSameOk_ev h
 refine Ev.bind hd (Ev.pbind rfl (Ev.bind (spec_SameOk.ev V M s t) ?_))
 dsimp only
 refine Ev.ite_neg (bne_self' _) (Ev.bind (spec_LogicOk.ev V M) ?_)
 have hno: ∀o p,logicB V M=false→sameO V M o p=false:=fun o p e=>by
  cases o <;> cases p <;> first|rfl|(show (logicB V M && _)=false;rw [e];rfl)
 cases hg:logicB V M with
 |false=>exact Ev.ite_neg (by simp) (Ev.ite_neg (by rw [hno _ _ hg];simp) (Ev.bind alive_ok (Ev.now _)))
 |true=>
 have L:=logicB_iff.1 hg
 have e1:impl_KeepsOk.f V M=some (keepB V M):=by unfold impl_KeepsOk.f;rw [hg,if_pos rfl]
 have e2:impl_BooleanOk.f V M=some (booB V):=by unfold impl_BooleanOk.f;rw [hg,if_pos rfl]
 have e3: ∀f h:Fm,sameO V M (some f) (some h)=sameB V M f h:=fun f h=>by show (logicB V M && _)=_;rw [hg,Bool.true_and]
 refine Ev.ite_pos rfl (Ev.pbind rfl (Ev.pbind e1 (Ev.ite_pos ?_ (Ev.pbind rfl (Ev.pbind e2 (Ev.ite_pos ?_ (Ev.pbind rfl (Ev.ite_pos ?_ (Ev.pbind rfl ?_)))))))))
 ·rw [fm_keeps,fm_or,e3,same_keeps L,beq_self_eq_true]
 ·rw [fm_dl,fm_dr,e3,same_boole L,beq_self_eq_true]
 ·rw [fm_nand,fm_nor,e3,same_morgan L]
 ·have:sameO V M (fmOf t) (fmOf s)=sameO V M (fmOf s) (fmOf t):=by
   cases fmOf s <;> cases fmOf t <;> first|rfl|(rw [e3,e3,sameB_symm L])
  rw [this,beq_self_eq_true]
  exact Ev.now _
end Go.Proofs.Ytcbjpdaogicibaa.Print
namespace Go.Proofs.Ytcbjpdaogicibaa.Pure
open Go.RowKit Go.Proofs.Ytcbjpdaogicibaa.Print Go.Proofs.YtcbjpdaogicibaaW.PrintWords Go.Proofs.YtcbjpdaogicibaaW.PrintLast Go.Proofs.YtcbjpdaogicibaaW.PrintMore
theorem FnSameOk : laws_FnSameOk.Pure := fun l _ _ hw => (laws_FnSameOk.ev l fun x hx => by
 have:=hw x hx
 first|exact Go.RowKit.bounds_u8 this|exact Go.ChangeShapes.bounds_u8 this|exact bounds_u8 this|(simp [Lit.wf,IntKind.wf] at this;omega)|(simp [Lit.wf] at this;omega)).rounds
end Go.Proofs.Ytcbjpdaogicibaa.Pure
end
