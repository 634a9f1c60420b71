/- Part 3 of what is common to several claims of this seat: BlocksWithL, BooleanOkL, SameOkL, AlwaysOkL, ValueOfL. -/
import Derived.Test.YtcbjpdaogicibaaLB2
import Derived.Below
import Derived.Deep.Draws
import Derived.Deep.AppendLies
import Derived.Maps.AppendAt
import Derived.OwnWalk
import Derived.Laws.BytesArg
import Derived.Laws.MakeOwn
import Derived.Laws.OwnMore
import Derived.Deep.OwnRows
import Derived.Tactics
import Derived.Lib.ConvBytes
import Derived.Laws.Slices
import Derived.WalkKit
import Derived.KernelRfl
import Derived.RowKit3
import Derived.Deep.LoopGhost
import Derived.Deep.QuietTactic
import Derived.BigQuiet
import Derived.WideLaws
import Derived.Deep.DeepCutAuto
import Derived.Deep.CutBlock
import Derived.Deep.RegionHeld3
import Derived.Laws.Rows
import Derived.Lib.AppendStr
import Derived.ArgAppend
import Derived.Laws.IdiomCopy
import Derived.RowKit
import Derived.OrdersHeld
import Derived.Laws.BitsLemmas
import Derived.Test.YtcbjpdaogicibaaProg
set_option linter.all false
section
namespace Go.Proofs.Ytcbjpdaogicibaa
variable {p : Prop}
open Go.RowKit Go.Proofs.YtcbjpdaogicibaaW.PrintWords Go.Proofs.YtcbjpdaogicibaaW.PrintLast
theorem zqm {p : Prop} (h : p) : Aside0 p := Aside0.mk h
def zqb (n k : Nat) : Array Bool := ((List.range n).map fun i => Nat.testBit k i).toArray
theorem zqk (h:p:=by kernel_rfl):p:=h
theorem zqo [Decidable p] (h:decide p=true:=by first|(with_reducible assumption)|assumption):p:=of_decide_eq_true h
theorem zqs {p : Prop} (h : p := by simp only [Act.put, List.setIfInBounds_toArray, List.set_cons_zero, List.set_cons_succ, i64_w, i32_w]; rfl) : p := h
theorem zqt {p : Prop} (h : p := by intro w'; go_simp; with_reducible rfl) : p := h
theorem zq0 (h:p:=by repeat(first|(with_reducible first|exact HB.out|apply below_alloc|apply pw_below_drewN|apply below_drew1)|exact HB.out)):p:=h
theorem zq1 (h:p:=by (try simp only [List.map_toArray,List.map_cons,List.map_nil]);first|done|rfl|(simp only [List.length_drop,List.length_take];rfl)):p:=h
theorem zq2 (h:p:=by (with_reducible repeat(first|refine blk_drewN ?_ _|refine blk_drew ?_|refine blk_alloc ?_ _));exact a0.out):p:=h
theorem zq3 (h:p:=by repeat(first|(with_reducible first|exact HB.out|apply below_alloc|apply pw_below_drewN|apply below_drew1|refine below_set ?_ a6.out)|exact HB.out)):p:=h
theorem zq4 (h:p:=by repeat(first|(with_reducible first|exact HK.out|apply KeepBut.set_|apply keep_drewN|apply keep_drew|apply keep_alloc|refine keep_far ?_ a9.out _|refine keep_far ?_ b0.out _)|exact HK.out)):p:=h
theorem zq5 (h:p:=by repeat(first|(with_reducible first|exact HB.out|apply below_alloc|apply pw_below_drewN|apply below_drew1|refine below_set ?_ (IsS110.ge a2.out)|refine below_set ?_ b4.out|refine below_set ?_ b5.out)|exact HB.out)):p:=h
theorem zq6 (h:p:=by repeat(first|(with_reducible first|exact a2.out|apply IsS110.alloc|apply IsS110.drewN|apply IsS110.drew|apply IsS110.set_1|refine IsS110.far ?_ a7.out _|refine IsS110.far ?_ a6.out _)|exact a2.out)):p:=h
theorem zq7 (h:p:=by repeat(first|(with_reducible first|exact HB.out|apply below_alloc|apply pw_below_drewN|apply below_drew1|refine below_set ?_ b1.out|refine below_set ?_ b2.out|refine below_set ?_ b3.out|refine below_set ?_ b4.out)|exact HB.out)):p:=h
theorem zq8 (h:p:=by (with_reducible repeat(first|refine blk_drewN ?_ _|refine blk_drew ?_|refine blk_alloc ?_ _));exact a4.out):p:=h
theorem zq9 (h:p:=by repeat(first|(with_reducible first|exact HB.out|apply below_alloc|apply pw_below_drewN|apply below_drew1|refine below_set ?_ a5.out)|exact HB.out)):p:=h
theorem zq10 (h:p:=by (with_reducible repeat(first|refine blk_drewN ?_ _|refine blk_drew ?_|refine blk_alloc ?_ _));exact a2.out):p:=h
theorem zq11 (h:p:=by first|rfl|(simp [errW_none,errW_some] <;> rfl)|(simp [*,errW_none,errW_some] <;> rfl)):p:=h
theorem zq12 (h:p:=by (with_reducible repeat(first|refine blk_drewN ?_ _|refine blk_drew ?_|refine blk_alloc ?_ _));exact a1.out):p:=h
theorem zq14 (h:p:=by repeat(first|(with_reducible first|exact HB.out|apply below_alloc|apply pw_below_drewN|apply below_drew1|refine below_set ?_ a6.out|refine below_set ?_ a7.out)|exact HB.out)):p:=h
theorem zq15 (h:p:=by repeat(first|(with_reducible first|exact HB.out|apply below_alloc|apply pw_below_drewN|apply below_drew1|refine below_set ?_ b1.out)|exact HB.out)):p:=h
theorem zq16 (h:p:=by repeat(first|(with_reducible first|exact HK.out|apply KeepBut.set_|apply keep_drewN|apply keep_drew|apply keep_alloc)|exact HK.out)):p:=h
theorem zq17 (h:p:=by repeat(first|exact Drawn0.refl _|apply Drawn0.step)):p:=h
theorem zq28 (h:p:=by repeat(first|(with_reducible first|exact HB.out|apply below_alloc|apply pw_below_drewN|apply below_drew1|refine below_set ?_ (IsS110.ge a0.out))|exact HB.out)):p:=h
theorem zq34 (h:p:=by exact(below_size (by repeat(first|(with_reducible first|exact HB.out|apply below_alloc|apply pw_below_drewN|apply below_drew1|refine below_set ?_ b1.out|refine below_set ?_ b2.out|refine below_set ?_ b3.out|refine below_set ?_ b4.out)|exact HB.out)))):p:=h
theorem zq35 (h:p:=by repeat(first|exact(Kd.C_below a5.out HB.out)|(with_reducible refine Kd.C_alloc ?_ _)|(with_reducible refine Kd.C_drewN ?_ _)|(with_reducible refine Kd.C_drew ?_))):p:=h
theorem zq36 (h:p:=by repeat(first|(with_reducible first|exact HB.out|apply below_alloc|apply pw_below_drewN|apply below_drew1|refine below_set ?_ a4.out)|exact HB.out)):p:=h
theorem zq38 (h:p:=by (with_reducible repeat(first|refine blk_drewN ?_ _|refine blk_drew ?_|refine blk_alloc ?_ _));exact a7.out):p:=h
theorem zq39 (h:p:=by repeat(first|(with_reducible first|exact a0.out|apply IsS110.alloc|apply IsS110.drewN|apply IsS110.drew|apply IsS110.set_1)|exact a0.out)):p:=h
theorem zq40 (h:p:=by (with_reducible repeat(first|refine blk_drewN ?_ _|refine blk_drew ?_|refine blk_alloc ?_ _));refine blk_far ?_ b3.out _;(with_reducible repeat(first|refine blk_drewN ?_ _|refine blk_drew ?_|refine blk_alloc ?_ _));refine blk_far ?_ b3.out _;(with_reducible repeat(first|refine blk_drewN ?_ _|refine blk_drew ?_|refine blk_alloc ?_ _));exact a4.out):p:=h
theorem zq41 (h:p:=by exact(by repeat(first|(with_reducible first|exact HB.out|apply below_alloc|apply pw_below_drewN|apply below_drew1|refine below_set ?_ b1.out|refine below_set ?_ b2.out|refine below_set ?_ b3.out|refine below_set ?_ b4.out)|exact HB.out))):p:=h
theorem zq42 (h:p:=by repeat(first|exact(Kd.C_below a6.out HB.out)|(with_reducible refine Kd.C_alloc ?_ _)|(with_reducible refine Kd.C_drewN ?_ _)|(with_reducible refine Kd.C_drew ?_))):p:=h
theorem zq45 (h:p:=by repeat(first|(with_reducible first|exact HB.out|apply below_alloc|apply pw_below_drewN|apply below_drew1|refine below_set ?_ b1.out|refine below_set ?_ b4.out|refine below_set ?_ b9.out)|exact HB.out)):p:=h
theorem zq49 (h:p:=by (with_reducible repeat(first|apply Kd.R_alloc|apply Kd.R_drewN|apply Kd.R_drew));exact HO_5.out):p:=h
theorem zq50 (h:p:=by (with_reducible repeat(first|apply Kd.R_alloc|apply Kd.R_drewN|apply Kd.R_drew));exact HO_3.out):p:=h
theorem zq51 (h:p:=by (with_reducible repeat(first|apply Kd.R_alloc|apply Kd.R_drewN|apply Kd.R_drew));exact HO_131001.out):p:=h
theorem zq52 (h:p:=by repeat(first|(with_reducible first|exact HB.out|apply below_alloc|apply pw_below_drewN|apply below_drew1|refine below_set ?_ GE.out)|exact HB.out)):p:=h
theorem zq53 (h:p:=by repeat(first|(with_reducible first|exact HB.out|apply below_alloc|apply pw_below_drewN|apply below_drew1|refine below_set ?_ a3.out)|exact HB.out)):p:=h
theorem zq55 (h:p:=by (with_reducible repeat(first|apply Kd.Q_alloc|apply Kd.Q_drewN|apply Kd.Q_drew));exact HO_241001.out):p:=h
theorem zq56 (h:p:=by exact(below_size (by repeat(first|(with_reducible first|exact HB.out|apply below_alloc|apply pw_below_drewN|apply below_drew1|refine below_set ?_ a6.out|refine below_set ?_ a7.out)|exact HB.out)))):p:=h
theorem zq60 (h:p:=by exact(by repeat(first|(with_reducible first|exact HB.out|apply below_alloc|apply pw_below_drewN|apply below_drew1|refine below_set ?_ a6.out|refine below_set ?_ a7.out)|exact HB.out))):p:=h
theorem zq61 (h:p:=by (with_reducible repeat(first|refine blk_drewN ?_ _|refine blk_drew ?_|refine blk_alloc ?_ _));refine blk_far ?_ c0.out _;(with_reducible repeat(first|refine blk_drewN ?_ _|refine blk_drew ?_|refine blk_alloc ?_ _));exact a2.out):p:=h
theorem zq62 (h:p:=by (with_reducible repeat(first|refine blk_drewN ?_ _|refine blk_drew ?_|refine blk_alloc ?_ _));refine blk_far ?_ c1.out _;(with_reducible repeat(first|refine blk_drewN ?_ _|refine blk_drew ?_|refine blk_alloc ?_ _));exact a4.out):p:=h
theorem zq63 (h:p:=by (with_reducible repeat(first|refine blk_drewN ?_ _|refine blk_drew ?_|refine blk_alloc ?_ _));refine blk_far ?_ c2.out _;(with_reducible repeat(first|refine blk_drewN ?_ _|refine blk_drew ?_|refine blk_alloc ?_ _));exact a7.out):p:=h
theorem zq67 (h:p:=by (with_reducible repeat(first|apply Kd.S_alloc|apply Kd.S_drewN|apply Kd.S_drew));exact HO_241000.out):p:=h
theorem zq70 (h:p:=by (with_reducible repeat(first|apply Kd.S_alloc|apply Kd.S_drewN|apply Kd.S_drew));exact Kd.S_mono HO_131000.out (fun _ hk=>⟨hk.2,hk.1⟩)):p:=h
theorem zq71 (h:p:=by repeat(first|exact a6.out|(with_reducible refine Kd.C_alloc ?_ _)|(with_reducible refine Kd.C_drewN ?_ _)|(with_reducible refine Kd.C_drew ?_))):p:=h
theorem zq74 (h:p:=by exact(fun k_ hk=>Kd.fresh' (Kd.R_lt (by(with_reducible repeat(first|apply Kd.R_alloc|apply Kd.R_drewN|apply Kd.R_drew));exact HO_131001.out)) k_ hk)):p:=h
theorem zq78 (h:p:=by (with_reducible repeat(first|apply Kd.S_alloc|apply Kd.S_drewN|apply Kd.S_drew));exact Kd.S_mono HO_172000.out (fun _ hk=>hk.2)):p:=h
theorem zq79 (h:p:=by (with_reducible repeat(first|apply Kd.R_alloc|apply Kd.R_drewN|apply Kd.R_drew));exact HO_9.out):p:=h
theorem zq80 (h:p:=by (with_reducible repeat(first|apply Kd.S_alloc|apply Kd.S_drewN|apply Kd.S_drew));exact Kd.S_mono HO_172000.out (fun _ hk=>⟨trivial,hk⟩)):p:=h
theorem zq81 (h:p:=by repeat(first|(with_reducible first|exact HB.out|apply below_alloc|apply pw_below_drewN|apply below_drew1|refine below_set ?_ b1.out|refine below_set ?_ b4.out)|exact HB.out)):p:=h
theorem zq82 (h:p:=by (with_reducible repeat(first|apply Kd.S_alloc|apply Kd.S_drewN|apply Kd.S_drew));exact HO_131000.out):p:=h
theorem zq91 (h:p:=by (with_reducible repeat(first|apply Kd.R_alloc|apply Kd.R_drewN|apply Kd.R_drew));exact d2.out):p:=h
theorem zq95 (h:p:=by exact(by(with_reducible repeat(first|apply Kd.R_alloc|apply Kd.R_drewN|apply Kd.R_drew));exact HO_3.out)):p:=h
theorem zq99 (h:p:=by exact Kd.M_row (Kd.R_mono (Kd.R_tight rfl (Kd.R_mono (ok':=fun k_=>((fun k_=>some k_≠(a1:Value).ownBlock)) k_∧some k_≠(b0:Value).ownBlock) (Kd.R_apart' (HO_9.out) (Kd.S_typed HO_131000.out) (by decide)) (fun k_ hk=>⟨hk.1,hk.2⟩))) (fun _ h_=>h_))):p:=h
theorem zq101 (h:p:=by (with_reducible repeat(first|refine blk_drewN ?_ _|refine blk_drew ?_|refine blk_alloc ?_ _));refine blk_put (cs:= #[b0,a1]) ?_ 0 _ rfl;(with_reducible repeat(first|refine blk_drewN ?_ _|refine blk_drew ?_|refine blk_alloc ?_ _));exact a0.out):p:=h
theorem zq104 (h:p:=by (with_reducible repeat(first|apply Kd.S_alloc|apply Kd.S_drewN|apply Kd.S_drew));exact Kd.S_mono HO_241000.out (fun _ hk=>⟨hk.2,hk.1⟩)):p:=h
theorem zq106 (h:p:=by (with_reducible repeat(first|apply Kd.R_alloc|apply Kd.R_drewN|apply Kd.R_drew));exact d9.out):p:=h
theorem zq109 (h:p:=by have:=b3.out;have:=b4.out;have:=b7.out;have:=b6.out;omega):p:=h
theorem zq111 (h:p:=by (with_reducible repeat(first|apply Kd.R_alloc|apply Kd.R_drewN|apply Kd.R_drew));exact HO_218001.out):p:=h
theorem zq112 (h:p:=by repeat(first|(with_reducible first|exact HB.out|apply below_alloc|apply pw_below_drewN|apply below_drew1|refine below_set ?_ b1.out|refine below_set ?_ b5.out)|exact HB.out)):p:=h
theorem zq113 (h:p:=by (with_reducible repeat(first|refine blk_drewN ?_ _|refine blk_drew ?_|refine blk_alloc ?_ _));refine blk_put (cs:= #[.slice none 0 0,.slice none 0 0]) ?_ 1 _ rfl;(with_reducible repeat(first|refine blk_drewN ?_ _|refine blk_drew ?_|refine blk_alloc ?_ _));refine blk_put (cs:= #[.slice none 0 0,.slice none 0 0]) ?_ 0 _ rfl;(with_reducible repeat(first|refine blk_drewN ?_ _|refine blk_drew ?_|refine blk_alloc ?_ _));exact a0.out):p:=h
theorem zq114 (h:p:=by (with_reducible repeat(first|refine blk_drewN ?_ _|refine blk_drew ?_|refine blk_alloc ?_ _));refine blk_put (cs:= #[.slice none 0 0,.slice none 0 0]) ?_ 1 _ rfl;(with_reducible repeat(first|refine blk_drewN ?_ _|refine blk_drew ?_|refine blk_alloc ?_ _));refine blk_put (cs:= #[.slice none 0 0,.slice none 0 0]) ?_ 0 _ rfl;(with_reducible repeat(first|refine blk_drewN ?_ _|refine blk_drew ?_|refine blk_alloc ?_ _));exact a1.out):p:=h
theorem zq115 (h:p:=by (with_reducible repeat(first|apply Kd.R_alloc|apply Kd.R_drewN|apply Kd.R_drew));exact HO_6.out):p:=h
theorem zq118 (h:p:=by (with_reducible repeat(first|apply Kd.S_alloc|apply Kd.S_drewN|apply Kd.S_drew));exact HO_172000.out):p:=h
theorem zq119 (h:p:=by (with_reducible repeat(first|apply Kd.R_alloc|apply Kd.R_drewN|apply Kd.R_drew));exact Kd.R_mono HO_131001.out (fun _ hk=>hk.2)):p:=h
theorem zq121 (h:p:=by (with_reducible repeat(first|apply Kd.S_alloc|apply Kd.S_drewN|apply Kd.S_drew));exact HO_3.out):p:=h
theorem zq124 (h:p:=by (with_reducible repeat(first|apply Kd.S_alloc|apply Kd.S_drewN|apply Kd.S_drew));exact d7.out):p:=h
theorem zq126 (h:p:=by (repeat(first|exact HB7.out|exact HBr.out|apply below_alloc))):p:=h
theorem zq128 (h:p:=by (with_reducible repeat(first|refine blk_drewN ?_ _|refine blk_drew ?_|refine blk_alloc ?_ _));refine blk_far ?_ b7.out _;(with_reducible repeat(first|refine blk_drewN ?_ _|refine blk_drew ?_|refine blk_alloc ?_ _));refine blk_far ?_ b7.out _;(with_reducible repeat(first|refine blk_drewN ?_ _|refine blk_drew ?_|refine blk_alloc ?_ _));exact a2.out):p:=h
theorem zq129 (h:p:=by (with_reducible repeat(first|refine blk_drewN ?_ _|refine blk_drew ?_|refine blk_alloc ?_ _));refine blk_far ?_ c1.out _;(with_reducible repeat(first|refine blk_drewN ?_ _|refine blk_drew ?_|refine blk_alloc ?_ _));refine blk_far ?_ c1.out _;(with_reducible repeat(first|refine blk_drewN ?_ _|refine blk_drew ?_|refine blk_alloc ?_ _));exact a4.out):p:=h
theorem zq130 (h:p:=by (with_reducible repeat(first|apply Kd.R_alloc|apply Kd.R_drewN|apply Kd.R_drew));exact Kd.R_mono HO_131001.out (fun _ hk=>⟨trivial,hk⟩)):p:=h
theorem zq131 (h:p:=by exact(below_size (by repeat(first|(with_reducible first|exact HB.out|apply below_alloc|apply pw_below_drewN|apply below_drew1|refine below_set ?_ b1.out|refine below_set ?_ b4.out|refine below_set ?_ b9.out)|exact HB.out)))):p:=h
theorem zq133 (h:p:=by first|exact Kd.R_nil _ _ _ _ _|exact Kd.N_nil _ _ _ _ _|exact Kd.V_nil _ _ _ _ _|exact Kd.Q_nil _ _ _ _ _|exact Kd.S_nil _ _ _ _ _):p:=h
theorem zq138 (h:p:=by exact(by repeat(first|(with_reducible first|exact HB.out|apply below_alloc|apply pw_below_drewN|apply below_drew1|refine below_set ?_ b1.out|refine below_set ?_ b4.out|refine below_set ?_ b9.out)|exact HB.out))):p:=h
theorem zq139 (h:p:=by exact(by(with_reducible repeat(first|apply Kd.R_alloc|apply Kd.R_drewN|apply Kd.R_drew));exact HO_9.out)):p:=h
theorem zq140 (h:p:=by exact(by(with_reducible repeat(first|apply Kd.S_alloc|apply Kd.S_drewN|apply Kd.S_drew));exact Kd.S_mono HO_131000.out (fun k_ hk=>⟨hk.2,fun e_=>hk.1 e_⟩))):p:=h
theorem zq143 (h:p:=by repeat(first|(with_reducible first|exact HB.out|apply below_alloc|apply pw_below_drewN|apply below_drew1|refine below_set ?_ b1.out|refine below_set ?_ b2.out|refine below_set ?_ b3.out)|exact HB.out)):p:=h
theorem zq219 (h:p:=by exact(below_size (by repeat(first|(with_reducible first|exact HB.out|apply below_alloc|apply pw_below_drewN|apply below_drew1)|exact HB.out)))):p:=h
theorem zq221 (h:p:=by have:=b1.out;have:=b2.out;have:=e8.out;have:=b3.out;have:=h2.out;omega):p:=h
theorem zq222 (h:p:=by have:=b4.out;have:=b3.out;have:=d8.out;have:=g3.out;have:=j1.out;omega):p:=h
theorem zq223 (h:p:=by (with_reducible repeat(first|apply Kd.R_alloc|apply Kd.R_drewN|apply Kd.R_drew));exact f6.out):p:=h
theorem zq224 (h:p:=by (with_reducible repeat(first|apply Kd.R_alloc|apply Kd.R_drewN|apply Kd.R_drew));exact f7.out):p:=h
theorem zq225 (h:p:=by (with_reducible repeat(first|apply Kd.R_alloc|apply Kd.R_drewN|apply Kd.R_drew));exact f8.out):p:=h
theorem zq226 (h:p:=by (with_reducible repeat(first|apply Kd.R_alloc|apply Kd.R_drewN|apply Kd.R_drew));exact f9.out):p:=h
theorem zq227 (h:p:=by (with_reducible repeat(first|apply Kd.S_alloc|apply Kd.S_drewN|apply Kd.S_drew));exact f0.out):p:=h
theorem zq228 (h:p:=by exact(fun k_ hk=>⟨Kd.fresh' (Kd.R_lt (by(with_reducible repeat(first|apply Kd.R_alloc|apply Kd.R_drewN|apply Kd.R_drew));exact HO_5.out)) k_ hk,Kd.fresh' (Kd.R_lt (by(with_reducible repeat(first|apply Kd.R_alloc|apply Kd.R_drewN|apply Kd.R_drew));exact HO_218001.out)) k_ hk⟩)):p:=h
theorem zq229 (h:p:=by first|exact Kd.S_nil _ _ _ _ _|exact Kd.N_nil _ _ _ _ _|exact Kd.V_nil _ _ _ _ _|exact Kd.Q_nil _ _ _ _ _|exact Kd.R_nil _ _ _ _ _):p:=h
theorem zq230 (h:p:=by repeat(first|(with_reducible first|exact HB.out|apply below_alloc|apply pw_below_drewN|apply below_drew1|refine below_set ?_ b1.out|refine below_set ?_ b2.out)|exact HB.out)):p:=h
theorem zq231 (h:p:=by exact(by repeat(first|(with_reducible first|exact HB.out|apply below_alloc|apply pw_below_drewN|apply below_drew1)|exact HB.out))):p:=h
theorem zq232 (h:p:=by (with_reducible repeat(first|apply Kd.Q_alloc|apply Kd.Q_drewN|apply Kd.Q_drew));exact Kd.Q_mono HO_241001.out (fun _ hk=>hk.2)):p:=h
theorem zq233 (h:p:=by repeat(first|exact HB2.out|apply below_alloc|apply pw_below_drewN|apply below_drew1)):p:=h
theorem zq238 (h:p:=by repeat(first|(with_reducible first|exact HBW.out|apply below_alloc|apply pw_below_drewN|apply below_drew1)|exact HBW.out)):p:=h
theorem zq239 (h:p:=by repeat(first|(with_reducible first|exact HB.out|apply below_alloc|apply pw_below_drewN|apply below_drew1|refine below_set ?_ (IsS110.ge HI0.out))|exact HB.out)):p:=h
theorem zq240 (h:p:=by repeat(first|(with_reducible first|exact HK.out|apply KeepBut.set_|apply keep_drewN|apply keep_drew|apply keep_alloc|refine keep_far ?_ a9.out _)|exact HK.out)):p:=h
theorem zq242 (h:p:=by (with_reducible repeat(first|refine blk_drewN ?_ _|refine blk_drew ?_|refine blk_alloc ?_ _));refine blk_far ?_ b7.out _;(with_reducible repeat(first|refine blk_drewN ?_ _|refine blk_drew ?_|refine blk_alloc ?_ _));exact a2.out):p:=h
theorem zq243 (h:p:=by (with_reducible repeat(first|refine blk_drewN ?_ _|refine blk_drew ?_|refine blk_alloc ?_ _));refine blk_far ?_ b8.out _;(with_reducible repeat(first|refine blk_drewN ?_ _|refine blk_drew ?_|refine blk_alloc ?_ _));exact a4.out):p:=h
theorem zq244 (h:p:=by first|rfl|(simp [errW_none,errW_some] <;> rfl)|(simp only [← b6];first|rfl|(simp [errW_none,errW_some] <;> rfl))|(simp [*,errW_none,errW_some] <;> rfl)):p:=h
theorem zq245 (h:p:=by have:=b0.out;have:=b7.out;have:=b8.out;omega):p:=h
theorem zq247 (h:p:=by have:=b1.out;have:=b2.out;have:=e7.out;have:=b3.out;have:=g5.out;omega):p:=h
theorem zq248 (h:p:=by have:=d0.out;have:=d1.out;have:=f0.out;have:=e7.out;have:=g3.out;omega):p:=h
theorem zq249 (h:p:=by have:=d2.out;have:=d3.out;have:=d6.out;have:=e1.out;have:=h5.out;omega):p:=h
theorem zq250 (h:p:=by repeat(first|(with_reducible first|exact HI0.out|apply IsS110.alloc|apply IsS110.drewN|apply IsS110.drew|apply IsS110.set_1)|exact HI0.out)):p:=h
theorem zq251 (h:p:=by exact(by(with_reducible repeat(first|apply Kd.R_alloc|apply Kd.R_drewN|apply Kd.R_drew));exact HO_5.out)):p:=h
theorem zq252 (h:p:=by (with_reducible repeat(first|apply Kd.Q_alloc|apply Kd.Q_drewN|apply Kd.Q_drew));exact Kd.Q_mono HO_241001.out (fun _ hk=>⟨trivial,hk⟩)):p:=h
theorem zq254 (h:p:=by (with_reducible repeat(first|apply Kd.R_alloc|apply Kd.R_drewN|apply Kd.R_drew));exact Kd.R_mono HO_5.out (fun _ hk=>⟨hk.2,hk.1⟩)):p:=h
theorem zq255 (h:p:=by first|(go_simp;done)|(simp;done)|assumption|(go_simp;assumption)):p:=h
theorem zq256 (h:p:=by (with_reducible repeat(first|apply Kd.S_alloc|apply Kd.S_drewN|apply Kd.S_drew));exact g3.out):p:=h
theorem zq257 (h:p:=by (with_reducible repeat(first|apply Kd.S_alloc|apply Kd.S_drewN|apply Kd.S_drew));exact g4.out):p:=h
theorem zq258 (h:p:=by (with_reducible repeat(first|apply Kd.S_alloc|apply Kd.S_drewN|apply Kd.S_drew));exact g5.out):p:=h
theorem zq259 (h:p:=by (with_reducible repeat(first|apply Kd.S_alloc|apply Kd.S_drewN|apply Kd.S_drew));exact g6.out):p:=h
theorem zq263 (h:p:=by repeat(first|exact Kd.C_below HR0.out HB.out|(refine Kd.C_drewN ?_ _)|(refine Kd.C_drew ?_))):p:=h
theorem zq264 (h:p:=by (with_reducible repeat(first|apply Kd.S_alloc|apply Kd.S_drewN|apply Kd.S_drew));exact Kd.S_mono HO_3.out (fun _ hk=>hk.2)):p:=h
theorem zq266 (h:p:=by have:=i9.out;have:=p2.out;first|omega|exact Nat.le_refl _):p:=h
theorem zq270 (h:p:=by repeat(first|(with_reducible first|exact a2.out|apply IsS110.alloc|apply IsS110.drewN|apply IsS110.drew|apply IsS110.set_1|refine IsS110.far ?_ a7.out _)|exact a2.out)):p:=h
theorem zq274 (h:p:=by repeat(first|exact(Kd.S_reads' HO_3.out).2.2|(with_reducible refine Kd.C_alloc ?_ _)|(with_reducible refine Kd.C_drewN ?_ _)|(with_reducible refine Kd.C_drew ?_))):p:=h
theorem zq275 (h:p:=by repeat(first|exact(Kd.N_reads' a0.out).2.2|(with_reducible refine Kd.C_alloc ?_ _)|(with_reducible refine Kd.C_drewN ?_ _)|(with_reducible refine Kd.C_drew ?_))):p:=h
theorem zq277 (h:p:=by (with_reducible repeat(first|apply Kd.S_alloc|apply Kd.S_drewN|apply Kd.S_drew));exact HO_218000.out):p:=h
theorem zq280 (h:p:=by (with_reducible repeat(first|apply Kd.S_alloc|apply Kd.S_drewN|apply Kd.S_drew));exact Kd.S_mono HO_218000.out (fun _ hk=>⟨hk.1.1,⟨hk.2,hk.1.2⟩⟩)):p:=h
theorem zq282 (h:p:=by exact(fun k_ hk=>Kd.fresh' (Kd.R_lt (by(with_reducible repeat(first|apply Kd.R_alloc|apply Kd.R_drewN|apply Kd.R_drew));exact HO_5.out)) k_ hk)):p:=h
theorem zq283 (h:p:=by repeat(first|exact b7.out|(with_reducible refine Kd.C_alloc ?_ _)|(with_reducible refine Kd.C_drewN ?_ _)|(with_reducible refine Kd.C_drew ?_))):p:=h
theorem zq285 (h:p:=by (with_reducible repeat(first|apply Kd.S_alloc|apply Kd.S_drewN|apply Kd.S_drew));exact Kd.S_mono HO_3.out (fun k_ hk=>⟨trivial,fun e_=>hk e_⟩)):p:=h
theorem zq286 (h:p:=by (repeat(first|exact HOr2.out|apply Kd.R_alloc))):p:=h
theorem zq287 (h:p:=by have:=b4.out;have:=b3.out;have:=d8.out;first|omega|exact Nat.le_refl _):p:=h
theorem zq288 (h:p:=by (with_reducible repeat(first|apply Kd.N_alloc|apply Kd.N_drewN|apply Kd.N_drew));exact a0.out):p:=h
theorem zq289 (h:p:=by (with_reducible repeat(first|apply Kd.R_alloc|apply Kd.R_drewN|apply Kd.R_drew));exact h7.out):p:=h
theorem zq290 (h:p:=by (with_reducible repeat(first|apply Kd.R_alloc|apply Kd.R_drewN|apply Kd.R_drew));exact h8.out):p:=h
theorem zq291 (h:p:=by (with_reducible repeat(first|apply Kd.R_alloc|apply Kd.R_drewN|apply Kd.R_drew));exact h9.out):p:=h
theorem zq292 (h:p:=by (with_reducible repeat(first|apply Kd.R_alloc|apply Kd.R_drewN|apply Kd.R_drew));exact i0.out):p:=h
theorem zq293 (h:p:=by (with_reducible repeat(first|apply Kd.S_alloc|apply Kd.S_drewN|apply Kd.S_drew));exact b3.out):p:=h
theorem zq295 (h:p:=by (repeat(first|exact HA7.out|apply Kd.R_alloc))):p:=h
theorem zq296 (h:p:=by have:=a2.out;have:=a6.out;have:=a7.out;omega):p:=h
theorem zq298 (h:p:=by (with_reducible repeat(first|apply Kd.R_alloc|apply Kd.R_drewN|apply Kd.R_drew));exact Kd.R_mono HO_5.out (fun _ hk=>⟨trivial,hk⟩)):p:=h
theorem zq299 (h:p:=by (with_reducible repeat(first|apply Kd.S_alloc|apply Kd.S_drewN|apply Kd.S_drew));exact Kd.S_mono HO_3.out (fun _ hk=>⟨trivial,hk⟩)):p:=h
theorem zq300 (h:p:=by (with_reducible repeat(first|apply Kd.S_alloc|apply Kd.S_drewN|apply Kd.S_drew));exact Kd.S_mono c3.out (fun _ hk=>⟨trivial,hk⟩)):p:=h
theorem zq302 (h:p:=by have:=d2.out;have:=d3.out;have:=d6.out;have:=e1.out;first|omega|exact Nat.le_refl _):p:=h
theorem zq304 (h:p:=by exact(by(with_reducible repeat(first|apply Kd.R_alloc|apply Kd.R_drewN|apply Kd.R_drew));exact HO_131001.out)):p:=h
theorem zq305 (h:p:=by have:=b3.out;have:=b4.out;have:=b7.out;first|omega|exact Nat.le_refl _):p:=h
theorem zq314 (h:p:=by (with_reducible repeat(first|apply Kd.S_alloc|apply Kd.S_drewN|apply Kd.S_drew));exact j3.out):p:=h
theorem zq315 (h:p:=by (with_reducible repeat(first|apply Kd.S_alloc|apply Kd.S_drewN|apply Kd.S_drew));exact j4.out):p:=h
theorem zq316 (h:p:=by (with_reducible repeat(first|apply Kd.S_alloc|apply Kd.S_drewN|apply Kd.S_drew));exact j6.out):p:=h
theorem zq317 (h:p:=by (with_reducible repeat(first|apply Kd.S_alloc|apply Kd.S_drewN|apply Kd.S_drew));exact j7.out):p:=h
theorem zq318 (h:p:=by first | rfl | (simp; done) | (simp [*]; done)):p:=h
theorem zq319 (h:p:=by have:=u5.out;have:=u7.out;have:=HK3.out;omega):p:=h
theorem zq320 (h:p:=by exact(Reps.one (show Kd.M (Kd.int .i64) _ _ _ 1 [.int .i64 1] from rfl) (Reps.none _ _))):p:=h
theorem zq322 (h:p:=by have:=a8.out;have:=b3.out;have:=b4.out;omega):p:=h
theorem zq323 (h:p:=by have:=f1.out;have:=j2.out;have:=j3.out;omega):p:=h
theorem zq326 (h:p:=by have:=b3.out;have:=b4.out;first|omega|exact Nat.le_refl _):p:=h
theorem zq327 (h:p:=by have:=b1.out;have:=b2.out;have:=e7.out;have:=b3.out;first|omega|exact Nat.le_refl _):p:=h
theorem zq329 (h:p:=by (repeat(first|exact HG7.out|refine blk_alloc ?_ _))):p:=h
theorem zq330 (h:p:=by (repeat(first|exact HGr.out|refine blk_alloc ?_ _))):p:=h
theorem zq331 (h:p:=by (repeat(first|exact HX7.out|refine blk_alloc ?_ _))):p:=h
theorem zq332 (h:p:=by (repeat(first|exact HXr.out|refine blk_alloc ?_ _))):p:=h
theorem zq334 (h:p:=by (repeat(first|exact HrO7.out|apply Kd.R_alloc))):p:=h
theorem zq335 (h:p:=by have:=d0.out;have:=d1.out;have:=f0.out;first|omega|exact Nat.le_refl _):p:=h
theorem zq336 (h:p:=by have:=d2.out;have:=d3.out;have:=d6.out;first|omega|exact Nat.le_refl _):p:=h
theorem zq337 (h:p:=by (repeat(first|exact HAr.out|apply Kd.R_alloc))):p:=h
theorem zq338 (h:p:=by (repeat(first|exact HO7.out|apply Kd.R_alloc))):p:=h
theorem zq339 (h:p:=by (repeat(first|exact HV7.out|apply Kd.R_alloc))):p:=h
theorem zq340 (h:p:=by (repeat(first|exact HVr.out|apply Kd.R_alloc))):p:=h
theorem zq341 (h:p:=by (repeat(first|exact HrA.out|apply Kd.R_alloc))):p:=h
theorem zq342 (h:p:=by (repeat(first|exact HrO.out|apply Kd.R_alloc))):p:=h
theorem zq343 (h:p:=by have:=i9.out;first|omega|exact Nat.le_refl _):p:=h
end Go.Proofs.Ytcbjpdaogicibaa
end
section
namespace Go.Proofs.Ytcbjpdaogicibaa.Print
open Go.RowKit Go.Proofs.YtcbjpdaogicibaaW.PrintWords Go.Proofs.YtcbjpdaogicibaaW.PrintLast Go.Proofs.YtcbjpdaogicibaaW.PrintMore
attribute [local go_sem] max2_int min2_int max_two min_two max_three min_three max_four min_four   -- for this text's walks alone
def errW : Option Int → Value
 | none => .nilIface
 | some c => .iface 0 (.int .i64 c)
theorem errW_none : errW none = .nilIface := rfl
theorem errW_some (c : Int) : errW (some c) = .iface 0 (.int .i64 c) := rfl
theorem info3 : (Try.prog.info? 3).map (fun i => (i.zero, i.size, i.bytes)) = some (some (.int .i64 0), 1, 8) := by kernel_rfl
theorem info5 : (Try.prog.info? 5).map (fun i => (i.zero, i.size, i.bytes)) = some (some (.int .u8 0), 1, 1) := by kernel_rfl
theorem info24 : (Try.prog.info? 24).map (fun i => (i.zero, i.size, i.bytes)) = some (some (.slice none 0 0), 1, 24) := by kernel_rfl
def rd_L2 (xs : List (List Int)) (i : Int) : (List Int) := xs.getD i.toNat ([] : List Int)
theorem at_L2 {w : World} {A : Option Addr} {n : Nat} {xs : List (List Int)} (h : Kd.C (Kd.slice 3 (Kd.int .i64)) w A n xs) (i : Int) (h0 : 0 ≤ i) (h1 : i < n) : ∃ ad A0 c0, A = some ad ∧ w.cell? (ad.add i.toNat) = some (.slice A0 (rd_L2 xs i).length c0) ∧ (rd_L2 xs i).length ≤ c0 ∧ (Kd.int .i64).C w A0 (rd_L2 xs i).length (rd_L2 xs i) := by
 obtain ⟨ad, c, e, _, hK, hc0⟩ := Kd.C_get h ([] : List Int) i h0 h1
 have hc : ∀ j u, c[j]? = some u → w.cell? (ad.add (i.toNat * 1 + j)) = some u := hc0
 obtain ⟨A0, c0, rfl, l0, g0⟩ := hK
 exact ⟨ad, A0, c0, e, by have hq := hc 0 _ rfl; rwa [Nat.mul_one, Nat.add_zero] at hq, l0, g0⟩
end Go.Proofs.Ytcbjpdaogicibaa.Print
end
section
namespace Go.Proofs.Ytcbjpdaogicibaa.Print
open Go.RowKit Go.Proofs.YtcbjpdaogicibaaW.PrintWords Go.Proofs.YtcbjpdaogicibaaW.PrintLast Go.Proofs.YtcbjpdaogicibaaW.PrintMore
attribute [local go_sem] max2_int min2_int max_two min_two max_three min_three max_four min_four   -- for this text's walks alone
mutual
def impl_OrderOk.j0 : Nat → List (List Int) → Int → Bool → Option (Bool)
 | 0, _, _, _ => none
 | k + 1, x0, x3, x18 => if x18 = true then (some false) else (impl_OrderOk.l0 k x0 x3 x0 (x0.length : Int) 0)
def impl_OrderOk.l0 : Nat → List (List Int) → Int → List (List Int) → Int → Int → Option (Bool)
 | 0, _, _, _, _, _ => none
 | k + 1, x0, x3, x19, x20, x21 => if x21 < x20 then (if 0 ≤ x21 then (if x21 < (x19.length : Int) then (if ((rd_L2 x19 x21).length : Int) = x3 then (if x21 < ((rd_L2 x19 x21).length : Int) then (impl_OrderOk.j2 k x0 x3 x21 (rd_L2 x19 x21) x19 x20 x21 ((rd (rd_L2 x19 x21) x21) != 1)) else (none)) else (impl_OrderOk.j2 k x0 x3 x21 (rd_L2 x19 x21) x19 x20 x21 true)) else (none)) else (none)) else (impl_OrderOk.l2 k x0 x3 x3 0)
def impl_OrderOk.j2 : Nat → List (List Int) → Int → Int → List Int → List (List Int) → Int → Int → Bool → Option (Bool)
 | 0, _, _, _, _, _, _, _, _ => none
 | k + 1, x0, x3, x4, x5, x19, x20, x21, x36 => if x36 = true then (some false) else (impl_OrderOk.l1 k x0 x3 x4 x19 x20 x21 x5 (x5.length : Int) 0)
def impl_OrderOk.l1 : Nat → List (List Int) → Int → Int → List (List Int) → Int → Int → List Int → Int → Int → Option (Bool)
 | 0, _, _, _, _, _, _, _, _, _ => none
 | k + 1, x0, x3, x4, x19, x20, x21, x37, x38, x39 => if x39 < x38 then (if 0 ≤ x39 then (if x39 < (x37.length : Int) then (if (rd x37 x39) = 0 then (impl_OrderOk.j4 k x0 x3 x4 x39 (rd x37 x39) x19 x20 x21 x37 x38 x39 false) else (impl_OrderOk.j4 k x0 x3 x4 x39 (rd x37 x39) x19 x20 x21 x37 x38 x39 ((rd x37 x39) != 1))) else (none)) else (none)) else (impl_OrderOk.l0 k x0 x3 x19 x20 (wrap64 (x21 + 1)))
def impl_OrderOk.j4 : Nat → List (List Int) → Int → Int → Int → Int → List (List Int) → Int → Int → List Int → Int → Int → Bool → Option (Bool)
 | 0, _, _, _, _, _, _, _, _, _, _, _, _ => none
 | k + 1, x0, x3, x4, x6, x7, x19, x20, x21, x37, x38, x39, x49 => if x49 = true then (some false) else (if 0 ≤ x6 then (if x6 < (x0.length : Int) then (if ((rd_L2 x0 x6).length : Int) = x3 then (if x7 = 1 then (if x4 = x6 then (impl_OrderOk.l1 k x0 x3 x4 x19 x20 x21 x37 x38 (wrap64 (x39 + 1))) else (if 0 ≤ x4 then (if x4 < ((rd_L2 x0 x6).length : Int) then (if (rd (rd_L2 x0 x6) x4) = 1 then (some false) else (impl_OrderOk.l1 k x0 x3 x4 x19 x20 x21 x37 x38 (wrap64 (x39 + 1)))) else (none)) else (none))) else (impl_OrderOk.l1 k x0 x3 x4 x19 x20 x21 x37 x38 (wrap64 (x39 + 1)))) else (some false)) else (none)) else (none))
def impl_OrderOk.l2 : Nat → List (List Int) → Int → Int → Int → Option (Bool)
 | 0, _, _, _, _ => none
 | k + 1, x0, x3, x78, x79 => if x79 < x78 then (impl_OrderOk.l3 k x0 x3 x79 x78 x79 x3 0) else (some true)
def impl_OrderOk.l3 : Nat → List (List Int) → Int → Int → Int → Int → Int → Int → Option (Bool)
 | 0, _, _, _, _, _, _, _ => none
 | k + 1, x0, x3, x8, x78, x79, x82, x83 => if x83 < x82 then (impl_OrderOk.l4 k x0 x3 x8 x83 x78 x79 x82 x83 x3 0) else (impl_OrderOk.l2 k x0 x3 x78 (wrap64 (x79 + 1)))
def impl_OrderOk.l4 : Nat → List (List Int) → Int → Int → Int → Int → Int → Int → Int → Int → Int → Option (Bool)
 | 0, _, _, _, _, _, _, _, _, _, _ => none
 | k + 1, x0, x3, x8, x9, x78, x79, x82, x83, x86, x87 => if x87 < x86 then (if 0 ≤ x8 then (if x8 < (x0.length : Int) then (if 0 ≤ x9 then (if x9 < ((rd_L2 x0 x8).length : Int) then (if (rd (rd_L2 x0 x8) x9) = 1 then (if x9 < (x0.length : Int) then (if 0 ≤ x87 then (if x87 < ((rd_L2 x0 x9).length : Int) then (if (rd (rd_L2 x0 x9) x87) = 1 then (if x87 < ((rd_L2 x0 x8).length : Int) then (if (rd (rd_L2 x0 x8) x87) = 1 then (impl_OrderOk.l4 k x0 x3 x8 x9 x78 x79 x82 x83 x86 (wrap64 (x87 + 1))) else (some false)) else (none)) else (impl_OrderOk.l4 k x0 x3 x8 x9 x78 x79 x82 x83 x86 (wrap64 (x87 + 1)))) else (none)) else (none)) else (none)) else (impl_OrderOk.l4 k x0 x3 x8 x9 x78 x79 x82 x83 x86 (wrap64 (x87 + 1)))) else (none)) else (none)) else (none)) else (none)) else (impl_OrderOk.l3 k x0 x3 x8 x78 x79 x82 (wrap64 (x83 + 1)))
end
def impl_OrderOk.f (k : Nat) (l0 : List (List Int)) : Option (Bool) := if (l0.length : Int) < 1 then (impl_OrderOk.j0 k l0 (l0.length : Int) true) else (impl_OrderOk.j0 k l0 (l0.length : Int) (decide ((l0.length : Int) > 12)))
set_option maxHeartbeats 8000000 in
set_option maxRecDepth 100000 in
theorem impl_OrderOk.calls (k : Nat) (A0 : Option Addr) (c0 : Nat) (l0 : List (List Int)) (r : Bool) (w : World) (hr0 : Kd.C (Kd.slice 3 (Kd.int .i64)) w A0 l0.length l0) (hc0 : l0.length ≤ c0) (h : impl_OrderOk.f k l0 = some r) :
  Calls Try.prog 81 #[.slice A0 l0.length c0] w fun e w' => e = .returned (.bool r) ∧ Drawn0 w w' := by
 have c2:=zqm hr0;have w2:=zqm hc0;clear hr0 hc0;have H:(if(l0.length:Int)<1 then(impl_OrderOk.j0 k l0 (l0.length:Int) true) else(impl_OrderOk.j0 k l0 (l0.length:Int) (decide ((l0.length:Int)>12))))=some r:=h;clear h;have p4:=zqm H;clear H
 go_enter Try.func81,Try.ntmps81
 go_upto_region 2 with (fail)
 go_cut [18] (fun t5 wc=> ∃(kq:Nat) (h3:Bool),t5= .bool h3∧Aside0 (impl_OrderOk.j0 kq l0 (l0.length:Int) h3=some r)∧Aside0 (kq≤k)∧Drawn0 w wc)
 case first=>
  have H:=p4.out;clear p4
  by_cases c3:(l0.length:Int)<1
  ·rw [if_pos c3] at H;have i3:decide ((l0.length:Int)<1)=true:=decide_eq_true c3;have s2:decide (l0.length<1)=true:=decide_eq_true (by omega);clear c3;(first|rw [i3]|(simp only [i64_w,i32_w];rw [i3])|skip);have H':=zqm H;clear H
   go_wp2
   go_meet
   case rel=>exact⟨_,(true),(by first|rfl|(simp;done)|(simp [*];done)),H',⟨by first|omega|exact Nat.le_refl _⟩,zq17⟩
  ·rw [if_neg c3] at H;have i3:decide ((l0.length:Int)<1)=false:=decide_eq_false c3;have s2:decide (l0.length<1)=false:=decide_eq_false (by omega);clear c3;(first|rw [i3]|(simp only [i64_w,i32_w];rw [i3])|skip);have H':=zqm H;clear H
   go_wp2
   go_meet
   case rel=>exact⟨_,(decide ((l0.length:Int)>12)),(by first|rfl|(simp;done)|(simp [*];done)),H',⟨by first|omega|exact Nat.le_refl _⟩,zq17⟩
 case rest=>
  clear p4;obtain⟨kq,h3,rfl,HA,b1,⟨mc1,rfl⟩⟩:=hcut
  cases kq with
  |zero=>exact absurd HA.out (by simp [impl_OrderOk.j0])
  |succ p8=>
   have H:=HA.out;clear HA;simp only [impl_OrderOk.j0] at H
   by_cases c4:h3=true
   ·subst c4;(have H1:(some false)=some r:=by rw [if_pos rfl] at H;exact H);clear H;have H:=H1;clear H1;obtain rfl:=Option.some.inj H
    go_wp2
    go_ret
    exact⟨by first|rfl|(simp;done)|(simp [*];done),zq17⟩
   ·replace c4:=Bool.eq_false_iff.mpr c4;subst c4;(have H1:(impl_OrderOk.l0 p8 l0 (l0.length:Int) l0 (l0.length:Int) 0)=some r:=by rw [if_neg (show¬(false=true) by decide)] at H;exact H);clear H;have H:=H1;clear H1;have H':=zqm H;clear H
    go_wp2
    go_loopg [21] p8 (fun kq t6 w'=> ∃(a0:Int),t6= .int .i64 a0∧Aside0 (impl_OrderOk.l0 kq l0 (l0.length:Int) l0 (l0.length:Int) a0=some r)∧Aside0 (kq≤p8)∧Drawn0 w w')
    case atStart=>exact⟨(0),(by first|rfl|(simp;done)|(simp [*];done)),H',⟨Nat.le_refl _⟩,zq17⟩
    case round=>
     clear H';obtain⟨a0,rfl,HA,b2,⟨m2,rfl⟩⟩:=hrel
     cases gk with
     |zero=>exact absurd HA.out (by simp [impl_OrderOk.l0])
     |succ k2=>
      have H:=HA.out;clear HA;simp only [impl_OrderOk.l0] at H
      by_cases c5:a0<(l0.length:Int)
      ·rw [if_pos c5] at H;have s3:decide (a0<(l0.length:Int))=true:=decide_eq_true c5;clear c5
       by_cases c6:0≤a0
       ·rw [if_pos c6] at H;have w0:decide (0≤a0)=true:=decide_eq_true c6;clear c6
        by_cases c7:a0<(l0.length:Int)
        ·rw [if_pos c7] at H;have w1:decide (a0<(l0.length:Int))=true:=decide_eq_true c7;clear c7;have p5:=zqm H;clear H;have m0:0≤(a0:Int):=zqo;have m7:a0<(l0.length:Int):=zqo;obtain⟨e2,t3,t4,s6,t0,j8,j7⟩:=at_L2 c2.out a0 m0 m7
         cases s6
         have i9:=zqm j7;have s9:=zqm j8;clear j7 j8;replace m0:=eq_true m0;replace m7:=eq_true m7
         go_upto_region 7 with (fail)
         go_cut [36] (fun t7 wc=> ∃(kq:Nat) (h4:Bool),t7= .bool h4∧Aside0 (impl_OrderOk.j2 kq l0 (l0.length:Int) a0 (rd_L2 l0 a0) l0 (l0.length:Int) a0 h4=some r)∧Aside0 (kq≤k2)∧Drawn0 w wc)
         case first=>
          have H:=p5.out;clear p5
          by_cases c9:((rd_L2 l0 a0).length:Int)=(l0.length:Int)
          ·rw [if_pos c9] at H;have i5:(((rd_L2 l0 a0).length:Int)==(l0.length:Int))=true:=beq_iff_eq.mpr c9;have s4:(((rd_L2 l0 a0).length:Int) !=(l0.length:Int))=false:=bne_eq_false_iff_eq.mpr c9;(have s5:((rd_L2 l0 a0).length==l0.length)=true:=by first|simpa using c9|(simp at c9 ⊢;omega));clear c9;(first|rw [i5]|(simp only [i64_w,i32_w];rw [i5])|skip)
           by_cases n1:a0<((rd_L2 l0 a0).length:Int)
           ·rw [if_pos n1] at H;have u5:decide (a0<((rd_L2 l0 a0).length:Int))=true:=decide_eq_true n1;clear n1;have H':=zqm H;clear H;have m1:0≤(a0:Int):=zqo;have m8:a0<((rd_L2 l0 a0).length:Int):=zqo;obtain⟨u3,s7,t1⟩:=Kd.at_int i9.out a0 m1 m8
            cases s7
            replace m1:=eq_true m1;replace m8:=eq_true m8
            go_wp2
            go_meet
            case rel=>exact⟨_,(((rd (rd_L2 l0 a0) a0) !=1)),(by first|rfl|(simp;done)|(simp [*];done)),H',⟨by have:=b1.out;have:=b2.out;first|omega|exact Nat.le_refl _⟩,zq17⟩
           ·rw [if_neg n1] at H;exact absurd H (by simp)
          ·rw [if_neg c9] at H;have i5:(((rd_L2 l0 a0).length:Int)==(l0.length:Int))=false:=beq_eq_false_iff_ne.mpr c9;have s4:(((rd_L2 l0 a0).length:Int) !=(l0.length:Int))=true:=bne_iff_ne.mpr c9;(have s5:((rd_L2 l0 a0).length==l0.length)=false:=by first|simpa using c9|(simp at c9 ⊢;omega));(first|rw [i5]|(simp only [i64_w,i32_w];rw [i5])|skip);have H':=zqm H;clear H
           go_wp2
           go_meet
           case rel=>exact⟨_,(true),(by first|rfl|(simp;done)|(simp [*];done)),H',⟨by have:=b1.out;have:=b2.out;first|omega|exact Nat.le_refl _⟩,zq17⟩
         case rest=>
          clear p5;obtain⟨kq,h4,rfl,HA,e7,⟨mc7,rfl⟩⟩:=hcut
          cases kq with
          |zero=>exact absurd HA.out (by simp [impl_OrderOk.j2])
          |succ p9=>
           have H:=HA.out;clear HA;simp only [impl_OrderOk.j2] at H
           by_cases n2:h4=true
           ·subst n2;(have H1:(some false)=some r:=by rw [if_pos rfl] at H;exact H);clear H;have H:=H1;clear H1;obtain rfl:=Option.some.inj H
            go_wp2
            go_ret
            exact⟨by first|rfl|(simp;done)|(simp [*];done),zq17⟩
           ·replace n2:=Bool.eq_false_iff.mpr n2;subst n2;(have H1:(impl_OrderOk.l1 p9 l0 (l0.length:Int) a0 l0 (l0.length:Int) a0 (rd_L2 l0 a0) ((rd_L2 l0 a0).length:Int) 0)=some r:=by rw [if_neg (show¬(false=true) by decide)] at H;exact H);clear H;have H:=H1;clear H1;have H':=zqm H;clear H
            go_wp2
            go_loopg [39] p9 (fun kq t8 w'=> ∃(a1:Int),t8= .int .i64 a1∧Aside0 (impl_OrderOk.l1 kq l0 (l0.length:Int) a0 l0 (l0.length:Int) a0 (rd_L2 l0 a0) ((rd_L2 l0 a0).length:Int) a1=some r)∧Aside0 (kq≤p9)∧Drawn0 w w')
            case atStart=>exact⟨(0),(by first|rfl|(simp;done)|(simp [*];done)),H',⟨Nat.le_refl _⟩,zq17⟩
            case round=>
             clear H';obtain⟨a1,rfl,HA,b3,⟨m4,rfl⟩⟩:=hrel
             cases gk with
             |zero=>exact absurd HA.out (by simp [impl_OrderOk.l1])
             |succ k4=>
              have H:=HA.out;clear HA;simp only [impl_OrderOk.l1] at H
              by_cases j1:a1<((rd_L2 l0 a0).length:Int)
              ·rw [if_pos j1] at H;have q2:decide (a1<((rd_L2 l0 a0).length:Int))=true:=decide_eq_true j1;clear j1
               by_cases n3:0≤a1
               ·rw [if_pos n3] at H;have u6:decide (0≤a1)=true:=decide_eq_true n3;clear n3
                by_cases n4:a1<((rd_L2 l0 a0).length:Int)
                ·rw [if_pos n4] at H;have u7:decide (a1<((rd_L2 l0 a0).length:Int))=true:=decide_eq_true n4;clear n4;have l5:=zqm H;clear H;have m6:0≤(a1:Int):=zqo;have m9:a1<((rd_L2 l0 a0).length:Int):=zqo;obtain⟨u4,s8,t2⟩:=Kd.at_int i9.out a1 m6 m9
                 cases s8
                 replace m6:=eq_true m6;replace m9:=eq_true m9
                 go_upto_region 12 with (fail)
                 go_cut [49] (fun t9 wc=> ∃(kq:Nat) (g3:Bool),t9= .bool g3∧Aside0 (impl_OrderOk.j4 kq l0 (l0.length:Int) a0 a1 (rd (rd_L2 l0 a0) a1) l0 (l0.length:Int) a0 (rd_L2 l0 a0) ((rd_L2 l0 a0).length:Int) a1 g3=some r)∧Aside0 (kq≤k4)∧Drawn0 w wc)
                 case first=>
                  have H:=l5.out;clear l5
                  by_cases h6:(rd (rd_L2 l0 a0) a1)=0
                  ·rw [if_pos h6] at H;have g1:((rd (rd_L2 l0 a0) a1)==0)=true:=beq_iff_eq.mpr h6;have q3:((rd (rd_L2 l0 a0) a1) !=0)=false:=bne_eq_false_iff_eq.mpr h6;clear h6;(first|rw [g1]|(simp only [i64_w,i32_w];rw [g1])|skip);have H':=zqm H;clear H
                   go_wp2
                   go_meet
                   case rel=>exact⟨_,(false),(by first|rfl|(simp;done)|(simp [*];done)),H',⟨zq327⟩,zq17⟩
                  ·rw [if_neg h6] at H;have g1:((rd (rd_L2 l0 a0) a1)==0)=false:=beq_eq_false_iff_ne.mpr h6;have q3:((rd (rd_L2 l0 a0) a1) !=0)=true:=bne_iff_ne.mpr h6;(first|rw [g1]|(simp only [i64_w,i32_w];rw [g1])|skip);have H':=zqm H;clear H
                   go_wp2
                   go_meet
                   case rel=>exact⟨_,(((rd (rd_L2 l0 a0) a1) !=1)),(by first|rfl|(simp;done)|(simp [*];done)),H',⟨zq327⟩,zq17⟩
                 case rest=>
                  clear l5;obtain⟨kq,g3,rfl,HA,g5,⟨mc14,rfl⟩⟩:=hcut
                  cases kq with
                  |zero=>exact absurd HA.out (by simp [impl_OrderOk.j4])
                  |succ h1=>
                   have H:=HA.out;clear HA;simp only [impl_OrderOk.j4] at H
                   by_cases n5:g3=true
                   ·subst n5;(have H1:(some false)=some r:=by rw [if_pos rfl] at H;exact H);clear H;have H:=H1;clear H1;obtain rfl:=Option.some.inj H
                    go_wp2
                    go_ret
                    exact⟨by first|rfl|(simp;done)|(simp [*];done),zq17⟩
                   ·replace n5:=Bool.eq_false_iff.mpr n5;subst n5;(have H1:(if 0≤a1 then(if a1<(l0.length:Int) then(if((rd_L2 l0 a1).length:Int)=(l0.length:Int) then(if(rd (rd_L2 l0 a0) a1)=1 then(if a0=a1 then(impl_OrderOk.l1 h1 l0 (l0.length:Int) a0 l0 (l0.length:Int) a0 (rd_L2 l0 a0) ((rd_L2 l0 a0).length:Int) (wrap64 (a1+1))) else(if 0≤a0 then(if a0<((rd_L2 l0 a1).length:Int) then(if(rd (rd_L2 l0 a1) a0)=1 then(some false) else(impl_OrderOk.l1 h1 l0 (l0.length:Int) a0 l0 (l0.length:Int) a0 (rd_L2 l0 a0) ((rd_L2 l0 a0).length:Int) (wrap64 (a1+1)))) else(none)) else(none))) else(impl_OrderOk.l1 h1 l0 (l0.length:Int) a0 l0 (l0.length:Int) a0 (rd_L2 l0 a0) ((rd_L2 l0 a0).length:Int) (wrap64 (a1+1)))) else(some false)) else(none)) else(none))=some r:=by rw [if_neg (show¬(false=true) by decide)] at H;exact H);clear H;have H:=H1;clear H1
                    by_cases n6:0≤a1
                    ·rw [if_pos n6] at H;have u8:decide (0≤a1)=true:=decide_eq_true n6;clear n6
                     by_cases n7:a1<(l0.length:Int)
                     ·rw [if_pos n7] at H;have u9:decide (a1<(l0.length:Int))=true:=decide_eq_true n7;clear n7
                      by_cases e4:((rd_L2 l0 a1).length:Int)=(l0.length:Int)
                      ·rw [if_pos e4] at H;have q4:(((rd_L2 l0 a1).length:Int)==(l0.length:Int))=true:=beq_iff_eq.mpr e4;have q5:(((rd_L2 l0 a1).length:Int) !=(l0.length:Int))=false:=bne_eq_false_iff_eq.mpr e4;(have q6:((rd_L2 l0 a1).length==l0.length)=true:=by first|simpa using e4|(simp at e4 ⊢;omega));clear e4
                       by_cases h7:(rd (rd_L2 l0 a0) a1)=1
                       ·rw [if_pos h7] at H;have q7:((rd (rd_L2 l0 a0) a1)==1)=true:=beq_iff_eq.mpr h7;have q8:((rd (rd_L2 l0 a0) a1) !=1)=false:=bne_eq_false_iff_eq.mpr h7;clear h7
                        by_cases h8:a0=a1
                        ·rw [if_pos h8] at H;have q9:(a0==a1)=true:=beq_iff_eq.mpr h8;have r0:(a0 !=a1)=false:=bne_eq_false_iff_eq.mpr h8;clear h8;have H':=zqm H;clear H;have a9:0≤(a1:Int):=zqo;have b0:a1<(l0.length:Int):=zqo;obtain⟨c8,f9,g2,e3,d0,a6,a5⟩:=at_L2 c2.out a1 a9 b0;obtain rfl:e2=c8:=(by injection e3);have e6:=zqm a5;have e5:=zqm a6;clear a5 a6;replace a9:=eq_true a9;replace b0:=eq_true b0
                         go_wp2
                         go_roundg h1
                         (case measure=> exact zq247);case rel=>exact⟨(wrap64 (a1+1)),(by first|rfl|(simp;done)|(simp [*];done)),H',⟨zq247⟩,zq17⟩
                        ·rw [if_neg h8] at H;have q9:(a0==a1)=false:=beq_eq_false_iff_ne.mpr h8;have r0:(a0 !=a1)=true:=bne_iff_ne.mpr h8
                         by_cases n8:0≤a0
                         ·rw [if_pos n8] at H;have v0:decide (0≤a0)=true:=decide_eq_true n8;clear n8
                          by_cases n9:a0<((rd_L2 l0 a1).length:Int)
                          ·rw [if_pos n9] at H;have v1:decide (a0<((rd_L2 l0 a1).length:Int))=true:=decide_eq_true n9;clear n9
                           by_cases h9:(rd (rd_L2 l0 a1) a0)=1
                           ·rw [if_pos h9] at H;have r1:((rd (rd_L2 l0 a1) a0)==1)=true:=beq_iff_eq.mpr h9;have r2:((rd (rd_L2 l0 a1) a0) !=1)=false:=bne_eq_false_iff_eq.mpr h9;clear h9;obtain rfl:=Option.some.inj H;have a9:0≤(a1:Int):=zqo;have b0:a1<(l0.length:Int):=zqo;obtain⟨c8,f9,g2,e3,d0,a6,a5⟩:=at_L2 c2.out a1 a9 b0;obtain rfl:e2=c8:=(by injection e3);have e6:=zqm a5;have e5:=zqm a6;clear a5 a6;replace a9:=eq_true a9;replace b0:=eq_true b0;have f1:0≤(a1:Int):=zqo;have f5:a1<(l0.length:Int):=zqo;obtain⟨k1,p2,p6,l6,g8,d9,d7⟩:=at_L2 c2.out a1 f1 f5;obtain rfl:e2=k1:=(by injection l6);have g6:=zqm d7;have o8:=zqm d9;clear d7 d9;replace f1:=eq_true f1;replace f5:=eq_true f5;have ea_:=Option.some.inj (d0.symm.trans g8);injection ea_ with ea_ en_ ec_;subst ea_;subst ec_;clear en_;have f2:0≤(a0:Int):=zqo;have f6:a0<((rd_L2 l0 a1).length:Int):=zqo;obtain⟨q0,l7,p0⟩:=Kd.at_int g6.out a0 f2 f6
                            cases l7
                            replace f2:=eq_true f2;replace f6:=eq_true f6
                            go_wp2
                            go_ret
                            exact⟨by first|rfl|(simp;done)|(simp [*];done),zq17⟩
                           ·rw [if_neg h9] at H;have r1:((rd (rd_L2 l0 a1) a0)==1)=false:=beq_eq_false_iff_ne.mpr h9;have r2:((rd (rd_L2 l0 a1) a0) !=1)=true:=bne_iff_ne.mpr h9;have H':=zqm H;clear H;have a9:0≤(a1:Int):=zqo;have b0:a1<(l0.length:Int):=zqo;obtain⟨c8,f9,g2,e3,d0,a6,a5⟩:=at_L2 c2.out a1 a9 b0;obtain rfl:e2=c8:=(by injection e3);have e6:=zqm a5;have e5:=zqm a6;clear a5 a6;replace a9:=eq_true a9;replace b0:=eq_true b0;have f1:0≤(a1:Int):=zqo;have f5:a1<(l0.length:Int):=zqo;obtain⟨k1,p2,p6,l6,g8,d9,d7⟩:=at_L2 c2.out a1 f1 f5;obtain rfl:e2=k1:=(by injection l6);have g6:=zqm d7;have o8:=zqm d9;clear d7 d9;replace f1:=eq_true f1;replace f5:=eq_true f5;have ea_:=Option.some.inj (d0.symm.trans g8);injection ea_ with ea_ en_ ec_;subst ea_;subst ec_;clear en_;have f2:0≤(a0:Int):=zqo;have f6:a0<((rd_L2 l0 a1).length:Int):=zqo;obtain⟨q0,l7,p0⟩:=Kd.at_int g6.out a0 f2 f6
                            cases l7
                            replace f2:=eq_true f2;replace f6:=eq_true f6
                            go_wp2
                            go_roundg h1
                            (case measure=> exact zq247);case rel=>exact⟨(wrap64 (a1+1)),(by first|rfl|(simp;done)|(simp [*];done)),H',⟨zq247⟩,zq17⟩
                          ·rw [if_neg n9] at H;exact absurd H (by simp)
                         ·rw [if_neg n8] at H;exact absurd H (by simp)
                       ·rw [if_neg h7] at H;have q7:((rd (rd_L2 l0 a0) a1)==1)=false:=beq_eq_false_iff_ne.mpr h7;have q8:((rd (rd_L2 l0 a0) a1) !=1)=true:=bne_iff_ne.mpr h7;have H':=zqm H;clear H;have a9:0≤(a1:Int):=zqo;have b0:a1<(l0.length:Int):=zqo;obtain⟨c8,f9,g2,e3,d0,a6,a5⟩:=at_L2 c2.out a1 a9 b0;obtain rfl:e2=c8:=(by injection e3);have e6:=zqm a5;have e5:=zqm a6;clear a5 a6;replace a9:=eq_true a9;replace b0:=eq_true b0
                        go_wp2
                        go_roundg h1
                        (case measure=> exact zq247);case rel=>exact⟨(wrap64 (a1+1)),(by first|rfl|(simp;done)|(simp [*];done)),H',⟨zq247⟩,zq17⟩
                      ·rw [if_neg e4] at H;have q4:(((rd_L2 l0 a1).length:Int)==(l0.length:Int))=false:=beq_eq_false_iff_ne.mpr e4;have q5:(((rd_L2 l0 a1).length:Int) !=(l0.length:Int))=true:=bne_iff_ne.mpr e4;(have q6:((rd_L2 l0 a1).length==l0.length)=false:=by first|simpa using e4|(simp at e4 ⊢;omega));obtain rfl:=Option.some.inj H;have a9:0≤(a1:Int):=zqo;have b0:a1<(l0.length:Int):=zqo;obtain⟨c8,f9,g2,e3,d0,a6,a5⟩:=at_L2 c2.out a1 a9 b0;obtain rfl:e2=c8:=(by injection e3);have e6:=zqm a5;have e5:=zqm a6;clear a5 a6;replace a9:=eq_true a9;replace b0:=eq_true b0
                       go_wp2
                       go_ret
                       exact⟨by first|rfl|(simp;done)|(simp [*];done),zq17⟩
                     ·rw [if_neg n7] at H;exact absurd H (by simp)
                    ·rw [if_neg n6] at H;exact absurd H (by simp)
                ·rw [if_neg n4] at H;exact absurd H (by simp)
               ·rw [if_neg n3] at H;exact absurd H (by simp)
              ·rw [if_neg j1] at H;have q2:decide (a1<((rd_L2 l0 a0).length:Int))=false:=decide_eq_false j1;clear j1;have H':=zqm H;clear H
               go_wp2
               go_roundg k4
               (case measure=>have:=b1.out;have:=b2.out;have:=e7.out;have:=b3.out;omega);case rel=>exact⟨(wrap64 (a0+1)),(by first|rfl|(simp;done)|(simp [*];done)),H',⟨by have:=b1.out;have:=b2.out;have:=e7.out;have:=b3.out;omega⟩,zq17⟩
        ·rw [if_neg c7] at H;exact absurd H (by simp)
       ·rw [if_neg c6] at H;exact absurd H (by simp)
      ·rw [if_neg c5] at H;have s3:decide (a0<(l0.length:Int))=false:=decide_eq_false c5;clear c5;have H':=zqm H;clear H
       go_wp2
       go_loopg [79] k2 (fun kq u0 w'=> ∃(a2:Int),u0= .int .i64 a2∧Aside0 (impl_OrderOk.l2 kq l0 (l0.length:Int) (l0.length:Int) a2=some r)∧Aside0 (kq≤k2)∧Drawn0 w w')
       case atStart=>exact⟨(0),(by first|rfl|(simp;done)|(simp [*];done)),H',⟨Nat.le_refl _⟩,zq17⟩
       case round=>
        clear H';obtain⟨a2,rfl,HA,e8,⟨m3,rfl⟩⟩:=hrel
        cases gk with
        |zero=>exact absurd HA.out (by simp [impl_OrderOk.l2])
        |succ k3=>
         have H:=HA.out;clear HA;simp only [impl_OrderOk.l2] at H
         by_cases j3:a2<(l0.length:Int)
         ·rw [if_pos j3] at H;have r3:decide (a2<(l0.length:Int))=true:=decide_eq_true j3;clear j3;have H':=zqm H;clear H
          go_wp2
          go_loopg [83] k3 (fun kq u1 w'=> ∃(a3:Int),u1= .int .i64 a3∧Aside0 (impl_OrderOk.l3 kq l0 (l0.length:Int) a2 (l0.length:Int) a2 (l0.length:Int) a3=some r)∧Aside0 (kq≤k3)∧Drawn0 w w')
          case atStart=>exact⟨(0),(by first|rfl|(simp;done)|(simp [*];done)),H',⟨Nat.le_refl _⟩,zq17⟩
          case round=>
           clear H';obtain⟨a3,rfl,HA,b3,⟨m4,rfl⟩⟩:=hrel
           cases gk with
           |zero=>exact absurd HA.out (by simp [impl_OrderOk.l3])
           |succ k4=>
            have H:=HA.out;clear HA;simp only [impl_OrderOk.l3] at H
            by_cases j5:a3<(l0.length:Int)
            ·rw [if_pos j5] at H;have r4:decide (a3<(l0.length:Int))=true:=decide_eq_true j5;clear j5;have H':=zqm H;clear H
             go_wp2
             go_loopg [87] k4 (fun kq u2 w'=> ∃(a4:Int),u2= .int .i64 a4∧Aside0 (impl_OrderOk.l4 kq l0 (l0.length:Int) a2 a3 (l0.length:Int) a2 (l0.length:Int) a3 (l0.length:Int) a4=some r)∧Aside0 (kq≤k4)∧Drawn0 w w')
             case atStart=>exact⟨(0),(by first|rfl|(simp;done)|(simp [*];done)),H',⟨Nat.le_refl _⟩,zq17⟩
             case round=>
              clear H';obtain⟨a4,rfl,HA,h2,⟨m5,rfl⟩⟩:=hrel
              cases gk with
              |zero=>exact absurd HA.out (by simp [impl_OrderOk.l4])
              |succ k5=>
               have H:=HA.out;clear HA;simp only [impl_OrderOk.l4] at H
               by_cases j6:a4<(l0.length:Int)
               ·rw [if_pos j6] at H;have r5:decide (a4<(l0.length:Int))=true:=decide_eq_true j6;clear j6
                by_cases o0:0≤a2
                ·rw [if_pos o0] at H;have v2:decide (0≤a2)=true:=decide_eq_true o0;clear o0
                 by_cases o1:a2<(l0.length:Int)
                 ·rw [if_pos o1] at H;have v3:decide (a2<(l0.length:Int))=true:=decide_eq_true o1;clear o1
                  by_cases o2:0≤a3
                  ·rw [if_pos o2] at H;have v4:decide (0≤a3)=true:=decide_eq_true o2;clear o2
                   by_cases o3:a3<((rd_L2 l0 a2).length:Int)
                   ·rw [if_pos o3] at H;have v5:decide (a3<((rd_L2 l0 a2).length:Int))=true:=decide_eq_true o3;clear o3
                    by_cases i0:(rd (rd_L2 l0 a2) a3)=1
                    ·rw [if_pos i0] at H;have r6:((rd (rd_L2 l0 a2) a3)==1)=true:=beq_iff_eq.mpr i0;have r7:((rd (rd_L2 l0 a2) a3) !=1)=false:=bne_eq_false_iff_eq.mpr i0;clear i0
                     by_cases o4:a3<(l0.length:Int)
                     ·rw [if_pos o4] at H;have v6:decide (a3<(l0.length:Int))=true:=decide_eq_true o4;clear o4
                      by_cases o5:0≤a4
                      ·rw [if_pos o5] at H;have v7:decide (0≤a4)=true:=decide_eq_true o5;clear o5
                       by_cases o6:a4<((rd_L2 l0 a3).length:Int)
                       ·rw [if_pos o6] at H;have v8:decide (a4<((rd_L2 l0 a3).length:Int))=true:=decide_eq_true o6;clear o6
                        by_cases i1:(rd (rd_L2 l0 a3) a4)=1
                        ·rw [if_pos i1] at H;have r8:((rd (rd_L2 l0 a3) a4)==1)=true:=beq_iff_eq.mpr i1;have r9:((rd (rd_L2 l0 a3) a4) !=1)=false:=bne_eq_false_iff_eq.mpr i1;clear i1
                         by_cases o7:a4<((rd_L2 l0 a2).length:Int)
                         ·rw [if_pos o7] at H;have v9:decide (a4<((rd_L2 l0 a2).length:Int))=true:=decide_eq_true o7;clear o7
                          by_cases i2:(rd (rd_L2 l0 a2) a4)=1
                          ·rw [if_pos i2] at H;have s0:((rd (rd_L2 l0 a2) a4)==1)=true:=beq_iff_eq.mpr i2;have s1:((rd (rd_L2 l0 a2) a4) !=1)=false:=bne_eq_false_iff_eq.mpr i2;clear i2;have H':=zqm H;clear H;have b4:0≤(a2:Int):=zqo;have b6:a2<(l0.length:Int):=zqo;obtain⟨d5,h5,i4,e9,e1,a8,a7⟩:=at_L2 c2.out a2 b4 b6
                           cases e9
                           have c1:=zqm a7;have g4:=zqm a8;clear a7 a8;replace b4:=eq_true b4;replace b6:=eq_true b6;have b5:0≤(a3:Int):=zqo;have b7:a3<((rd_L2 l0 a2).length:Int):=zqo;obtain⟨k6,f0,g9⟩:=Kd.at_int c1.out a3 b5 b7
                           cases f0
                           replace b5:=eq_true b5;replace b7:=eq_true b7;have d1:0≤(a3:Int):=zqo;have d3:a3<(l0.length:Int):=zqo;obtain⟨g0,k8,k9,i6,j9,b9,b8⟩:=at_L2 c2.out a3 d1 d3;obtain rfl:d5=g0:=(by injection i6);have d6:=zqm b8;have i8:=zqm b9;clear b8 b9;replace d1:=eq_true d1;replace d3:=eq_true d3;have d2:0≤(a4:Int):=zqo;have d4:a4<((rd_L2 l0 a3).length:Int):=zqo;obtain⟨n0,i7,k0⟩:=Kd.at_int d6.out a4 d2 d4
                           cases i7
                           replace d2:=eq_true d2;replace d4:=eq_true d4;have f3:0≤(a2:Int):=zqo;have f7:a2<(l0.length:Int):=zqo;obtain⟨k7,p3,p7,l8,h0,e0,d8⟩:=at_L2 c2.out a2 f3 f7;obtain rfl:d5=k7:=(by injection l8);have g7:=zqm d8;have o9:=zqm e0;clear d8 e0;replace f3:=eq_true f3;replace f7:=eq_true f7;have ea_:=Option.some.inj (e1.symm.trans h0);injection ea_ with ea_ en_ ec_;subst ea_;subst ec_;clear en_;have f4:0≤(a4:Int):=zqo;have f8:a4<((rd_L2 l0 a2).length:Int):=zqo;obtain⟨q1,l9,p1⟩:=Kd.at_int g7.out a4 f4 f8
                           cases l9
                           replace f4:=eq_true f4;replace f8:=eq_true f8
                           go_wp2
                           go_roundg k5
                           (case measure=> exact zq221);case rel=>exact⟨(wrap64 (a4+1)),(by first|rfl|(simp;done)|(simp [*];done)),H',⟨zq221⟩,zq17⟩
                          ·rw [if_neg i2] at H;have s0:((rd (rd_L2 l0 a2) a4)==1)=false:=beq_eq_false_iff_ne.mpr i2;have s1:((rd (rd_L2 l0 a2) a4) !=1)=true:=bne_iff_ne.mpr i2;obtain rfl:=Option.some.inj H;have b4:0≤(a2:Int):=zqo;have b6:a2<(l0.length:Int):=zqo;obtain⟨d5,h5,i4,e9,e1,a8,a7⟩:=at_L2 c2.out a2 b4 b6
                           cases e9
                           have c1:=zqm a7;have g4:=zqm a8;clear a7 a8;replace b4:=eq_true b4;replace b6:=eq_true b6;have b5:0≤(a3:Int):=zqo;have b7:a3<((rd_L2 l0 a2).length:Int):=zqo;obtain⟨k6,f0,g9⟩:=Kd.at_int c1.out a3 b5 b7
                           cases f0
                           replace b5:=eq_true b5;replace b7:=eq_true b7;have d1:0≤(a3:Int):=zqo;have d3:a3<(l0.length:Int):=zqo;obtain⟨g0,k8,k9,i6,j9,b9,b8⟩:=at_L2 c2.out a3 d1 d3;obtain rfl:d5=g0:=(by injection i6);have d6:=zqm b8;have i8:=zqm b9;clear b8 b9;replace d1:=eq_true d1;replace d3:=eq_true d3;have d2:0≤(a4:Int):=zqo;have d4:a4<((rd_L2 l0 a3).length:Int):=zqo;obtain⟨n0,i7,k0⟩:=Kd.at_int d6.out a4 d2 d4
                           cases i7
                           replace d2:=eq_true d2;replace d4:=eq_true d4;have f3:0≤(a2:Int):=zqo;have f7:a2<(l0.length:Int):=zqo;obtain⟨k7,p3,p7,l8,h0,e0,d8⟩:=at_L2 c2.out a2 f3 f7;obtain rfl:d5=k7:=(by injection l8);have g7:=zqm d8;have o9:=zqm e0;clear d8 e0;replace f3:=eq_true f3;replace f7:=eq_true f7;have ea_:=Option.some.inj (e1.symm.trans h0);injection ea_ with ea_ en_ ec_;subst ea_;subst ec_;clear en_;have f4:0≤(a4:Int):=zqo;have f8:a4<((rd_L2 l0 a2).length:Int):=zqo;obtain⟨q1,l9,p1⟩:=Kd.at_int g7.out a4 f4 f8
                           cases l9
                           replace f4:=eq_true f4;replace f8:=eq_true f8
                           go_wp2
                           go_ret
                           exact⟨by first|rfl|(simp;done)|(simp [*];done),zq17⟩
                         ·rw [if_neg o7] at H;exact absurd H (by simp)
                        ·rw [if_neg i1] at H;have r8:((rd (rd_L2 l0 a3) a4)==1)=false:=beq_eq_false_iff_ne.mpr i1;have r9:((rd (rd_L2 l0 a3) a4) !=1)=true:=bne_iff_ne.mpr i1;have H':=zqm H;clear H;have b4:0≤(a2:Int):=zqo;have b6:a2<(l0.length:Int):=zqo;obtain⟨d5,h5,i4,e9,e1,a8,a7⟩:=at_L2 c2.out a2 b4 b6
                         cases e9
                         have c1:=zqm a7;have g4:=zqm a8;clear a7 a8;replace b4:=eq_true b4;replace b6:=eq_true b6;have b5:0≤(a3:Int):=zqo;have b7:a3<((rd_L2 l0 a2).length:Int):=zqo;obtain⟨k6,f0,g9⟩:=Kd.at_int c1.out a3 b5 b7
                         cases f0
                         replace b5:=eq_true b5;replace b7:=eq_true b7;have d1:0≤(a3:Int):=zqo;have d3:a3<(l0.length:Int):=zqo;obtain⟨g0,k8,k9,i6,j9,b9,b8⟩:=at_L2 c2.out a3 d1 d3;obtain rfl:d5=g0:=(by injection i6);have d6:=zqm b8;have i8:=zqm b9;clear b8 b9;replace d1:=eq_true d1;replace d3:=eq_true d3;have d2:0≤(a4:Int):=zqo;have d4:a4<((rd_L2 l0 a3).length:Int):=zqo;obtain⟨n0,i7,k0⟩:=Kd.at_int d6.out a4 d2 d4
                         cases i7
                         replace d2:=eq_true d2;replace d4:=eq_true d4
                         go_wp2
                         go_roundg k5
                         (case measure=> exact zq221);case rel=>exact⟨(wrap64 (a4+1)),(by first|rfl|(simp;done)|(simp [*];done)),H',⟨zq221⟩,zq17⟩
                       ·rw [if_neg o6] at H;exact absurd H (by simp)
                      ·rw [if_neg o5] at H;exact absurd H (by simp)
                     ·rw [if_neg o4] at H;exact absurd H (by simp)
                    ·rw [if_neg i0] at H;have r6:((rd (rd_L2 l0 a2) a3)==1)=false:=beq_eq_false_iff_ne.mpr i0;have r7:((rd (rd_L2 l0 a2) a3) !=1)=true:=bne_iff_ne.mpr i0;have H':=zqm H;clear H;have b4:0≤(a2:Int):=zqo;have b6:a2<(l0.length:Int):=zqo;obtain⟨d5,h5,i4,e9,e1,a8,a7⟩:=at_L2 c2.out a2 b4 b6
                     cases e9
                     have c1:=zqm a7;have g4:=zqm a8;clear a7 a8;replace b4:=eq_true b4;replace b6:=eq_true b6;have b5:0≤(a3:Int):=zqo;have b7:a3<((rd_L2 l0 a2).length:Int):=zqo;obtain⟨k6,f0,g9⟩:=Kd.at_int c1.out a3 b5 b7
                     cases f0
                     replace b5:=eq_true b5;replace b7:=eq_true b7
                     go_wp2
                     go_roundg k5
                     (case measure=> exact zq221);case rel=>exact⟨(wrap64 (a4+1)),(by first|rfl|(simp;done)|(simp [*];done)),H',⟨zq221⟩,zq17⟩
                   ·rw [if_neg o3] at H;exact absurd H (by simp)
                  ·rw [if_neg o2] at H;exact absurd H (by simp)
                 ·rw [if_neg o1] at H;exact absurd H (by simp)
                ·rw [if_neg o0] at H;exact absurd H (by simp)
               ·rw [if_neg j6] at H;have r5:decide (a4<(l0.length:Int))=false:=decide_eq_false j6;clear j6;have H':=zqm H;clear H
                go_wp2
                go_roundg k5
                (case measure=> exact zq221);case rel=>exact⟨(wrap64 (a3+1)),(by first|rfl|(simp;done)|(simp [*];done)),H',⟨zq221⟩,zq17⟩
            ·rw [if_neg j5] at H;have r4:decide (a3<(l0.length:Int))=false:=decide_eq_false j5;clear j5;have H':=zqm H;clear H
             go_wp2
             go_roundg k4
             (case measure=>have:=b1.out;have:=b2.out;have:=e8.out;have:=b3.out;omega);case rel=>exact⟨(wrap64 (a2+1)),(by first|rfl|(simp;done)|(simp [*];done)),H',⟨by have:=b1.out;have:=b2.out;have:=e8.out;have:=b3.out;omega⟩,zq17⟩
         ·rw [if_neg j3] at H;have r3:decide (a2<(l0.length:Int))=false:=decide_eq_false j3;clear j3;obtain rfl:=Option.some.inj H
          go_wp2
          go_ret
          exact⟨by first|rfl|(simp;done)|(simp [*];done),zq17⟩
end Go.Proofs.Ytcbjpdaogicibaa.Print
end
section
namespace Go.Proofs.Ytcbjpdaogicibaa.Print
open Go.RowKit Go.Proofs.YtcbjpdaogicibaaW.PrintWords Go.Proofs.YtcbjpdaogicibaaW.PrintLast Go.Proofs.YtcbjpdaogicibaaW.PrintMore
attribute [local go_sem] max2_int min2_int max_two min_two max_three min_three max_four min_four   -- for this text's walks alone
def laws_alive.f (k : Nat)  : Option (Bool) := (impl_OrderOk.f k (([(([1] : List Int))] : List (List Int)))).bind fun t522 => (if t522 = true then ((impl_OrderOk.f k (([(([0] : List Int))] : List (List Int)))).bind fun t529 => (some (!t529))) else (some false))
set_option maxHeartbeats 8000000 in
set_option maxRecDepth 100000 in
theorem laws_alive.calls (k : Nat)  (r : Bool) (w : World) (h : laws_alive.f k  = some r) :
  Calls Try.prog 18 #[] w fun e w' => e = .returned (.bool r) ∧ Below w.heap.size w w' := by
 have HB:=zqm (Below.refl w.heap.size w);have H:((impl_OrderOk.f k (([(([1]:List Int))]:List (List Int)))).bind fun a6=>(if a6=true then((impl_OrderOk.f k (([(([0]:List Int))]:List (List Int)))).bind fun a1=>(some (!a1))) else(some false)))=some r:=h;clear h;obtain⟨a4,a7⟩: ∃y_:List Int,y_=(([1]:List Int)):=⟨_,rfl⟩;(replace H:((impl_OrderOk.f k (([a4]:List (List Int)))).bind fun a6=>(if a6=true then((impl_OrderOk.f k (([(([0]:List Int))]:List (List Int)))).bind fun a1=>(some (!a1))) else(some false)))=some r:=by first|(rw [a7];with_reducible exact H)|(have a3:=(Option.bind_some _ _).symm.trans H;rw [a7];with_reducible exact a3)|(have a3:=(Option.bind_some _ _).symm.trans H;with_reducible exact a3)|with_reducible exact H|(rw [a7];exact H)|exact H);have b5:=zqm a7;clear a7;obtain⟨a5,a8⟩: ∃y_:List (List Int),y_=(([a4]:List (List Int))):=⟨_,rfl⟩;(replace H:((impl_OrderOk.f k a5).bind fun a6=>(if a6=true then((impl_OrderOk.f k (([(([0]:List Int))]:List (List Int)))).bind fun a1=>(some (!a1))) else(some false)))=some r:=by first|(rw [a8];with_reducible exact H)|(have a3:=(Option.bind_some _ _).symm.trans H;rw [a8];with_reducible exact a3)|(have a3:=(Option.bind_some _ _).symm.trans H;with_reducible exact a3)|with_reducible exact H|(rw [a8];exact H)|exact H);have b6:=zqm a8;clear a8;replace H:=Option.bind_eq_some_iff.mp H;obtain⟨a6,d2,H⟩:=H;replace H:(if a6=true then((impl_OrderOk.f k (([(([0]:List Int))]:List (List Int)))).bind fun a1=>(some (!a1))) else(some false))=some r:=H;have A1:=zqm d2;clear d2
 by_cases c2:a6=true
 ·subst c2;(have H1:((impl_OrderOk.f k (([(([0]:List Int))]:List (List Int)))).bind fun a1=>(some (!a1)))=some r:=by rw [if_pos rfl] at H;exact H);clear H;have H:=H1;clear H1;obtain⟨b3,a9⟩: ∃y_:List Int,y_=(([0]:List Int)):=⟨_,rfl⟩;(replace H:((impl_OrderOk.f k (([b3]:List (List Int)))).bind fun a1=>(some (!a1)))=some r:=by first|(rw [a9];with_reducible exact H)|(have a3:=(Option.bind_some _ _).symm.trans H;rw [a9];with_reducible exact a3)|(have a3:=(Option.bind_some _ _).symm.trans H;with_reducible exact a3)|with_reducible exact H|(rw [a9];exact H)|exact H);have c5:=zqm a9;clear a9;obtain⟨d1,b0⟩: ∃y_:List (List Int),y_=(([b3]:List (List Int))):=⟨_,rfl⟩;(replace H:((impl_OrderOk.f k d1).bind fun a1=>(some (!a1)))=some r:=by first|(rw [b0];with_reducible exact H)|(have a3:=(Option.bind_some _ _).symm.trans H;rw [b0];with_reducible exact a3)|(have a3:=(Option.bind_some _ _).symm.trans H;with_reducible exact a3)|with_reducible exact H|(rw [b0];exact H)|exact H);have c6:=zqm b0;clear b0;replace H:=Option.bind_eq_some_iff.mp H;obtain⟨a1,d3,H⟩:=H;replace H:(some (!a1))=some r:=H;have A3:=zqm d3;clear d3;obtain rfl:=Option.some.inj H
  go_enter Try.func18,Try.ntmps18
  go_wp2_with (first|((with_reducible refine gate_dst (N:=1) rfl ?_);(try(refine gate_guard (by rfl) ?_;dsimp only));refine Kd.R_lit (Kd.int .i64) _ 3 ?hg (N:=1) ?hd (xs:=([1]:List Int)) (inner:= [.int .i64 1]) (ok:=fun _=>True) (okp:=fun _=>True) ?hr ?hp (fun _ hk=>hk) trivial (Below.refl _ _) (Nat.le_refl _) (by simp) ?_;(case hd=>rfl);(case hg=>rfl);(case hr=>first|(go_simp;done)|(go_simp;rfl));(case hp=> exact zq320);intro e2 w4 c3 hb hg_ hnew_;clear hg_ hnew_;(first|rw [← b5.out] at c3|(simp only [Int.reduceToNat] at c3;rw [← b5.out] at c3));have a2:=zqm (Kd.R_lower c3 (below_size zq0));replace HB:=zqm (below_step zq0 hb);clear hb c3;obtain⟨d4,d5,e4⟩:=Kd.R_slice a2.out;subst e4)|((with_reducible refine gate_dst (N:=2) rfl ?_);(try(refine gate_guard (by rfl) ?_;dsimp only));refine Kd.N_lit (Kd.slice 3 (Kd.int .i64)) _ 24 ?hg (N':=2) ?hd (xs:=([a4]:List (List Int))) (inner:= [.slice d4 a4.length d5]) (ok:=(fun _=>True)) (okp:=(fun _=>True)) ?hr ?hp (fun _ hk=>hk) ((show∀k_,w4.heap.size≤k_→(fun _=>True) k_ from fun k_ hk=>trivial) _ (Nat.le_refl _)) (Below.refl _ _) (Nat.le_refl _) (by simp) ?_;(case hd=>rfl);(case hg=>rfl);(case hr=>first|(go_simp;done)|(go_simp;rfl));(case hp=>exact(Reps.one (show Kd.FK (Kd.slice 3 (Kd.int .i64)) _ _ a4 [.slice d4 a4.length d5] from (Kd.FK_slice_mk (Kd.R_reads' (Kd.R_mono (ok':=(fun _=>True)) (a2.out) (fun k_ hk=>trivial))).2.1 (Kd.R_F (Kd.R_mono (ok':=(fun _=>True)) (a2.out) (fun k_ hk=>trivial))))) (Reps.none _ _)));intro e3 w7 c4 hb hg_ hnew_;clear hg_ hnew_;(first|rw [← b6.out] at c4|(simp only [Int.reduceToNat] at c4;rw [← b6.out] at c4));have a0:=zqm (Kd.N_lower c4 (below_size zq0));replace HB:=zqm (below_step zq0 hb);clear a2;clear hb c4;obtain⟨b9,c0,e5⟩:=Kd.N_slice a0.out;subst e5)|((with_reducible refine gate_callee (f:=81) rfl ?_);refine goesL_ (some 3) rfl rfl Try.func81 zqk rfl #[.slice b9 a5.length c0] rfl zq1 ?_;(with_reducible refine(impl_OrderOk.calls k _ _ a5 true _ ?side1 ?side2 A1.out).mono ?_);(case side1=> exact zq275);(case side2=>exact(Kd.N_reads' a0.out).2.1);rintro e w' ⟨rfl,⟨nd,rfl⟩⟩;refine⟨_,rfl,?_⟩)|((with_reducible refine gate_dst (N:=5) rfl ?_);(try(refine gate_guard (by rfl) ?_;dsimp only));refine Kd.R_lit (Kd.int .i64) _ 3 ?hg (N:=5) ?hd (xs:=([0]:List Int)) (inner:= [.int .i64 0]) (ok:=fun _=>True) (okp:=fun _=>True) ?hr ?hp (fun _ hk=>hk) trivial (Below.refl _ _) (Nat.le_refl _) (by simp) ?_;(case hd=>rfl);(case hg=>rfl);(case hr=>first|(go_simp;done)|(go_simp;rfl));(case hp=>exact(Reps.one (show Kd.M (Kd.int .i64) _ _ _ 0 [.int .i64 0] from rfl) (Reps.none _ _)));intro f0 e6 b1 hb hg_ hnew_;clear hg_ hnew_;(first|rw [← c5.out] at b1|(simp only [Int.reduceToNat] at b1;rw [← c5.out] at b1));replace a0:=zqm (Kd.N_elder' zq288 (Kd.R_base b1) hb);have b4:=zqm (Kd.R_lower b1 (below_size zq0));replace HB:=zqm (below_step zq0 hb);clear hb b1;obtain⟨c7,c9,d8⟩:=Kd.R_slice b4.out;subst d8)|((with_reducible refine gate_dst (N:=6) rfl ?_);(try(refine gate_guard (by rfl) ?_;dsimp only));refine Kd.N_lit (Kd.slice 3 (Kd.int .i64)) _ 24 ?hg (N':=6) ?hd (xs:=([b3]:List (List Int))) (inner:= [.slice c7 b3.length c9]) (ok:=(fun k_=>some k_≠(.slice b9 a5.length c0:Value).ownBlock)) (okp:=(fun k_=>some k_≠(.slice b9 a5.length c0:Value).ownBlock)) ?hr ?hp (fun _ hk=>hk) ((show∀k_,e6.heap.size≤k_→(fun k_=>some k_≠(.slice b9 a5.length c0:Value).ownBlock) k_ from fun k_ hk=>Kd.fresh' (Kd.N_lt zq288) k_ hk) _ (Nat.le_refl _)) (Below.refl _ _) (Nat.le_refl _) (by simp) ?_;(case hd=>rfl);(case hg=>rfl);(case hr=>first|(go_simp;done)|(go_simp;rfl));(case hp=>exact(Reps.one (show Kd.FK (Kd.slice 3 (Kd.int .i64)) _ _ b3 [.slice c7 b3.length c9] from (Kd.FK_slice_mk (Kd.R_reads' (Kd.R_mono (ok':=(fun k_=>some k_≠(.slice b9 a5.length c0:Value).ownBlock)) (Kd.R_apart' (b4.out) (Kd.N_typed a0.out) (by decide)) (fun k_ hk=>hk.2))).2.1 (Kd.R_F (Kd.R_mono (ok':=(fun k_=>some k_≠(.slice b9 a5.length c0:Value).ownBlock)) (Kd.R_apart' (b4.out) (Kd.N_typed a0.out) (by decide)) (fun k_ hk=>hk.2))))) (Reps.none _ _)));intro f1 f2 b2 hb hg_ hnew_;clear hg_ hnew_;(first|rw [← c6.out] at b2|(simp only [Int.reduceToNat] at b2;rw [← c6.out] at b2));replace a0:=zqm (Kd.N_elder' zq288 (Kd.N_base b2) hb);have c1:=zqm (Kd.N_lower b2 (below_size zq0));replace HB:=zqm (below_step zq0 hb);clear b4;clear hb b2;obtain⟨e8,e9,d9⟩:=Kd.N_slice c1.out;subst d9)|(go_at_call 81;(with_reducible refine(impl_OrderOk.calls k _ _ d1 a1 _ ?side1 ?side2 A3.out).mono ?_);(case side1=>repeat(first|exact(Kd.N_reads' c1.out).2.2|(with_reducible refine Kd.C_alloc ?_ _)|(with_reducible refine Kd.C_drewN ?_ _)|(with_reducible refine Kd.C_drew ?_)));(case side2=>exact(Kd.N_reads' c1.out).2.1);rintro e w' ⟨rfl,⟨nd,rfl⟩⟩))
  go_ret
  exact⟨zq11,zq0⟩
 ·replace c2:=Bool.eq_false_iff.mpr c2;subst c2;(have H1:(some false)=some r:=by rw [if_neg (show¬(false=true) by decide)] at H;exact H);clear H;have H:=H1;clear H1;obtain rfl:=Option.some.inj H
  go_enter Try.func18,Try.ntmps18
  go_wp2_with (first|((with_reducible refine gate_dst (N:=1) rfl ?_);(try(refine gate_guard (by rfl) ?_;dsimp only));refine Kd.R_lit (Kd.int .i64) _ 3 ?hg (N:=1) ?hd (xs:=([1]:List Int)) (inner:= [.int .i64 1]) (ok:=fun _=>True) (okp:=fun _=>True) ?hr ?hp (fun _ hk=>hk) trivial (Below.refl _ _) (Nat.le_refl _) (by simp) ?_;(case hd=>rfl);(case hg=>rfl);(case hr=>first|(go_simp;done)|(go_simp;rfl));(case hp=> exact zq320);intro e2 e7 b7 hb hg_ hnew_;clear hg_ hnew_;(first|rw [← b5.out] at b7|(simp only [Int.reduceToNat] at b7;rw [← b5.out] at b7));have a2:=zqm (Kd.R_lower b7 (below_size zq0));replace HB:=zqm (below_step zq0 hb);clear hb b7;obtain⟨c8,d0,e0⟩:=Kd.R_slice a2.out;subst e0)|((with_reducible refine gate_dst (N:=2) rfl ?_);(try(refine gate_guard (by rfl) ?_;dsimp only));refine Kd.N_lit (Kd.slice 3 (Kd.int .i64)) _ 24 ?hg (N':=2) ?hd (xs:=([a4]:List (List Int))) (inner:= [.slice c8 a4.length d0]) (ok:=(fun _=>True)) (okp:=(fun _=>True)) ?hr ?hp (fun _ hk=>hk) ((show∀k_,e7.heap.size≤k_→(fun _=>True) k_ from fun k_ hk=>trivial) _ (Nat.le_refl _)) (Below.refl _ _) (Nat.le_refl _) (by simp) ?_;(case hd=>rfl);(case hg=>rfl);(case hr=>first|(go_simp;done)|(go_simp;rfl));(case hp=>exact(Reps.one (show Kd.FK (Kd.slice 3 (Kd.int .i64)) _ _ a4 [.slice c8 a4.length d0] from (Kd.FK_slice_mk (Kd.R_reads' (Kd.R_mono (ok':=(fun _=>True)) (a2.out) (fun k_ hk=>trivial))).2.1 (Kd.R_F (Kd.R_mono (ok':=(fun _=>True)) (a2.out) (fun k_ hk=>trivial))))) (Reps.none _ _)));intro e3 f3 b8 hb hg_ hnew_;clear hg_ hnew_;(first|rw [← b6.out] at b8|(simp only [Int.reduceToNat] at b8;rw [← b6.out] at b8));have a0:=zqm (Kd.N_lower b8 (below_size zq0));replace HB:=zqm (below_step zq0 hb);clear a2;clear hb b8;obtain⟨d6,d7,e1⟩:=Kd.N_slice a0.out;subst e1)|((with_reducible refine gate_callee (f:=81) rfl ?_);refine goesL_ (some 3) rfl rfl Try.func81 zqk rfl #[.slice d6 a5.length d7] rfl zq1 ?_;(with_reducible refine(impl_OrderOk.calls k _ _ a5 false _ ?side1 ?side2 A1.out).mono ?_);(case side1=> exact zq275);(case side2=>exact(Kd.N_reads' a0.out).2.1);rintro e w' ⟨rfl,⟨nd,rfl⟩⟩;refine⟨_,rfl,?_⟩))
  go_ret
  exact⟨zq11,zq0⟩
def IsS110 (w0 W : World) (g : Nat) (f0 : List Int) (f1 : Int) : Prop := ∃ A0 c0, W.heap[g]? = some (.cells #[.slice A0 f0.length c0, .int .i64 f1] 110 (0, 0)) ∧ w0.heap.size ≤ g ∧ Kd.C (Kd.int .u8) w0 A0 f0.length f0
theorem IsS110.grown {w0 W : World} {g : Nat} {f0 : List Int} {f1 : Int} {W1 : World} {row : Option Nat} (h : IsS110 w0 W g f0 f1) (hw : W.grownBy W1 row) (hne : some g ≠ row) : IsS110 w0 W1 g f0 f1 := by
 obtain ⟨A0, c0, hb, hg, hr0⟩ := h
 exact ⟨A0, c0, blk_grown hb hw hne, hg, hr0⟩
theorem IsS110.kept {w0 W : World} {g : Nat} {f0 : List Int} {f1 : Int} {W1 : World} {S : Nat → Prop} (h : IsS110 w0 W g f0 f1) (hk : Kept W W1 S) (hne : ¬ S g) : IsS110 w0 W1 g f0 f1 := by
 obtain ⟨A0, c0, hb, hg, hr0⟩ := h
 exact ⟨A0, c0, blk_kept hb hk hne, hg, hr0⟩
theorem IsS110.below {w0 W : World} {g : Nat} {f0 : List Int} {f1 : Int} {W1 : World} (h : IsS110 w0 W g f0 f1) (hw : Below W.heap.size W W1) : IsS110 w0 W1 g f0 f1 := h.grown (grown_of_below hw none) (by simp)
theorem IsS110.alloc {w0 W : World} {g : Nat} {f0 : List Int} {f1 : Int} (h : IsS110 w0 W g f0 f1) (o : Obj) : IsS110 w0 (W.alloc o) g f0 f1 := h.below (below_alloc (Below.refl _ _) o)
theorem IsS110.drewN {w0 W : World} {g : Nat} {f0 : List Int} {f1 : Int} (h : IsS110 w0 W g f0 f1) (m : Nat) : IsS110 w0 (W.drewN m) g f0 f1 := h
theorem IsS110.drew {w0 W : World} {g : Nat} {f0 : List Int} {f1 : Int} (h : IsS110 w0 W g f0 f1) : IsS110 w0 W.drew g f0 f1 := h
theorem IsS110.apart {w0 W : World} {g : Nat} {f0 : List Int} {f1 : Int} {α : Type} {d : Kd α} {e : Nat} {base : Nat} {ok : Nat → Prop} {v : Value} {xs : List α} (h : IsS110 w0 W g f0 f1) (ho : d.R e W base ok v xs) (ht : ∀ q, q ∈ e :: d.E → q ≠ 110) : d.R e W base (fun k => ok k ∧ k ≠ g) v xs := by
 obtain ⟨A0, c0, hb, hg, hr0⟩ := h
 exact Kd.R_types ho hb ht
theorem IsS110.own_ne {w0 W : World} {g : Nat} {f0 : List Int} {f1 : Int} {α : Type} {d : Kd α} {e : Nat} {base : Nat} {ok : Nat → Prop} {v : Value} {xs : List α} (h : IsS110 w0 W g f0 f1) (ho : d.R e W base ok v xs) (ht : e ≠ 110) : some g ≠ v.ownBlock := by
 obtain ⟨A0, c0, hb, hg, hr0⟩ := h
 exact Kd.R_ne ho hb ht
theorem IsS110.apartQ {w0 W : World} {g : Nat} {f0 : List Int} {f1 : Int} {α : Type} {d : Kd α} {e : Nat} {base : Nat} {ok : Nat → Prop} {v : Value} {xs : List α} (h : IsS110 w0 W g f0 f1) (ho : d.Q e W base ok v xs) (ht : ∀ q, q ∈ e :: d.E → q ≠ 110) : d.Q e W base (fun k => ok k ∧ k ≠ g) v xs := by
 obtain ⟨A0, c0, hb, hg, hr0⟩ := h
 exact Kd.Q_types ho hb ht
theorem IsS110.own_neQ {w0 W : World} {g : Nat} {f0 : List Int} {f1 : Int} {α : Type} {d : Kd α} {e : Nat} {base : Nat} {ok : Nat → Prop} {v : Value} {xs : List α} (h : IsS110 w0 W g f0 f1) (ho : d.Q e W base ok v xs) (ht : e ≠ 110) : some g ≠ v.ownBlock := by
 obtain ⟨A0, c0, hb, hg, hr0⟩ := h
 exact Kd.Q_ne ho hb ht
theorem IsS110.apartS {w0 W : World} {g : Nat} {f0 : List Int} {f1 : Int} {α : Type} {d : Kd α} {e : Nat} {base : Nat} {ok : Nat → Prop} {v : Value} {xs : List α} (h : IsS110 w0 W g f0 f1) (ho : d.S e W base ok v xs) (ht : ∀ q, q ∈ e :: d.E → q ≠ 110) : d.S e W base (fun k => ok k ∧ k ≠ g) v xs := by
 obtain ⟨A0, c0, hb, hg, hr0⟩ := h
 exact Kd.S_types ho hb ht
theorem IsS110.lt {w0 W : World} {g : Nat} {f0 : List Int} {f1 : Int} (h : IsS110 w0 W g f0 f1) : g < W.heap.size := by
 obtain ⟨A0, c0, hb, hg, hr0⟩ := h
 exact blk_lt hb
theorem IsS110.ge {w0 W : World} {g : Nat} {f0 : List Int} {f1 : Int} (h : IsS110 w0 W g f0 f1) : w0.heap.size ≤ g := by
 obtain ⟨A0, c0, hb, hg, hr0⟩ := h
 exact hg
theorem IsS110.ne_blk {w0 W : World} {g : Nat} {f0 : List Int} {f1 : Int} {a : Nat} {cs : Array Value} {t : TypeId} {fr : Nat × Nat} (h : IsS110 w0 W g f0 f1) (hb2 : W.heap[a]? = some (.cells cs t fr)) (ht : t ≠ 110) : g ≠ a := by
 obtain ⟨A0, c0, hb, hg, hr0⟩ := h
 rintro rfl
 rw [hb] at hb2
 injection hb2 with hb2
 injection hb2 with _ ht2
 exact ht ht2.symm
theorem IsS110.far {w0 W : World} {g : Nat} {f0 : List Int} {f1 : Int} {p : Addr} (h : IsS110 w0 W g f0 f1) (hne : g ≠ p.block) (u : Value) : IsS110 w0 (W.setCell p u) g f0 f1 := by
 obtain ⟨A0, c0, hb, hg, hr0⟩ := h
 exact ⟨A0, c0, blk_far hb hne u, hg, hr0⟩
theorem cellS110_0 {W : World} {g : Nat} {A0 : Option Addr} {c0 : Nat} {f0 : List Int} {f1 : Int} (h : W.heap[g]? = some (.cells #[.slice A0 f0.length c0, .int .i64 f1] 110 (0, 0))) : W.cell? ⟨g, 0, none⟩ = some (.slice A0 f0.length c0) := (blk_cell h 0).trans rfl
theorem cellS110_1 {W : World} {g : Nat} {A0 : Option Addr} {c0 : Nat} {f0 : List Int} {f1 : Int} (h : W.heap[g]? = some (.cells #[.slice A0 f0.length c0, .int .i64 f1] 110 (0, 0))) : W.cell? ⟨g, 1, none⟩ = some (.int .i64 f1) := (blk_cell h 1).trans rfl
theorem IsS110.set_1 {w0 W : World} {g : Nat} {f0 : List Int} {f1 : Int} (h : IsS110 w0 W g f0 f1) (x : Int) : IsS110 w0 (W.setCell ⟨g, 1, none⟩ (.int .i64 x)) g f0 x := by
 obtain ⟨A0, c0, hb, hg, hr0⟩ := h
 exact ⟨A0, c0, by simpa using blk_set hb 1 (.int .i64 x), hg, hr0⟩
def spec_l20Rd_pick.j0 : Nat → Int → Bool → List Int → Int → Option (Int × Int)
 | 0, _, _, _, _ => none
 | k + 1, x1, x24, x1000, x1001 => if x24 = true then (some (0, x1001)) else (if (wrap64 (x1001 - 1)) < (x1000.length : Int) then (if 0 ≤ (wrap64 (x1001 - 1)) then (if x1 = 0 then (none) else (some (Int.tmod (wrap64 (rd x1000 (wrap64 (x1001 - 1)))) x1, x1001))) else (none)) else (if (x1000.length : Int) = 0 then (none) else (if 0 ≤ (Int.tmod (wrap64 (x1001 - 1)) (x1000.length : Int)) then (if (Int.tmod (wrap64 (x1001 - 1)) (x1000.length : Int)) < (x1000.length : Int) then (if 0 ≤ (Int.tmod (wrap64 ((wrap64 ((wrap64 (x1001 - 1)) * 7)) + 3)) (x1000.length : Int)) then (if (Int.tmod (wrap64 ((wrap64 ((wrap64 (x1001 - 1)) * 7)) + 3)) (x1000.length : Int)) < (x1000.length : Int) then (if x1 = 0 then (none) else (some (Int.tmod (Go.bits .xor .i64 (wrap64 ((wrap64 ((wrap64 ((wrap64 ((wrap64 (rd x1000 (Int.tmod (wrap64 (x1001 - 1)) (x1000.length : Int)))) * 131)) + (wrap64 ((wrap64 (rd x1000 (Int.tmod (wrap64 ((wrap64 ((wrap64 (x1001 - 1)) * 7)) + 3)) (x1000.length : Int)))) * 1117)))) + (wrap64 ((wrap64 (x1001 - 1)) * 29)))) + (wrap64 ((wrap64 (Int.tdiv (wrap64 (x1001 - 1)) (x1000.length : Int))) * 53)))) (wrap64 (Int.tdiv (wrap64 ((wrap64 ((wrap64 ((wrap64 ((wrap64 (rd x1000 (Int.tmod (wrap64 (x1001 - 1)) (x1000.length : Int)))) * 131)) + (wrap64 ((wrap64 (rd x1000 (Int.tmod (wrap64 ((wrap64 ((wrap64 (x1001 - 1)) * 7)) + 3)) (x1000.length : Int)))) * 1117)))) + (wrap64 ((wrap64 (x1001 - 1)) * 29)))) + (wrap64 ((wrap64 (Int.tdiv (wrap64 (x1001 - 1)) (x1000.length : Int))) * 53)))) 64))) x1, x1001))) else (none)) else (none)) else (none)) else (none))))
def spec_l20Rd_pick.f (k : Nat) (s0_0 : List Int) (s0_1 : Int) (a1 : Int) : Option (Int × Int) := if a1 < 1 then (spec_l20Rd_pick.j0 k a1 true s0_0 (wrap64 (s0_1 + 1))) else (spec_l20Rd_pick.j0 k a1 ((s0_0.length : Int) == 0) s0_0 (wrap64 (s0_1 + 1)))
set_option maxHeartbeats 8000000 in
set_option maxRecDepth 100000 in
theorem spec_l20Rd_pick.calls (k : Nat) (g : Nat) (s0_0 : List Int) (s0_1 : Int) (a1 : Int) (r1 : Int) (r2 : Int) (w0 w : World) (hI : IsS110 w0 w g s0_0 s0_1) (hB : Below w0.heap.size w0 w) (h : spec_l20Rd_pick.f k s0_0 s0_1 a1 = some (r1, r2)) :
  Calls Try.prog 91 #[.pointer (some ⟨g, 0, none⟩), .int .i64 a1] w fun e w' => e = .returned (.int .i64 r1) ∧ IsS110 w0 w' g s0_0 r2 ∧ Below w0.heap.size w0 w' ∧ KeepBut w w' g none := by
 have a0:=zqm hI;have HK:=zqm (KeepBut.refl w g none);have HL:=zqm hB.size;clear hI;have g5:=zqm hB.size;have HB:=zqm hB;clear hB;have H:(if a1<1 then(spec_l20Rd_pick.j0 k a1 true s0_0 (wrap64 (s0_1+1))) else(spec_l20Rd_pick.j0 k a1 ((s0_0.length:Int)==0) s0_0 (wrap64 (s0_1+1))))=some (r1,r2):=h;clear h;have d0:=zqm H;clear H;obtain⟨ASz4_0,cSz4_0,HGz4,hgz4,HSz4_0⟩:=a0.out;have e3:=cellS110_0 HGz4;have e4:=cellS110_1 HGz4;have e7:=blk_frozen HGz4 1;clear HGz4 hgz4
 go_enter Try.func91,Try.ntmps91
 go_upto_region 2 with (fail)
 repeat(go_quiet (fail);go_upto_region 2 with (fail))
 go_cut [24] (fun e9 wc=> ∃(kq:Nat) (a5:Bool),e9= .bool a5∧Aside0 (spec_l20Rd_pick.j0 kq a1 a5 s0_0 (wrap64 (s0_1+1))=some (r1,r2))∧Aside0 (kq≤k)∧Aside0 (IsS110 w0 wc g s0_0 (wrap64 (s0_1+1)))∧Aside0 (KeepBut w wc g none)∧Aside0 (Below w0.heap.size w0 wc))
 case first=>
  have H:=d0.out;clear d0
  by_cases c5:a1<1
  ·rw [if_pos c5] at H;have a6:decide (a1<1)=true:=decide_eq_true c5;clear c5;(first|rw [a6]|(simp only [i64_w,i32_w];rw [a6])|skip);have H':=zqm H;clear H
   go_wp2
   repeat(go_quiet (fail);try go_wp2)
   go_meet
   case rel=>exact⟨_,(true),(by first|rfl|(simp;done)|(simp [*];done)),H',⟨by first|omega|exact Nat.le_refl _⟩,⟨zq39⟩,⟨zq16⟩,⟨zq28⟩⟩
  ·rw [if_neg c5] at H;have a6:decide (a1<1)=false:=decide_eq_false c5;clear c5;(first|rw [a6]|(simp only [i64_w,i32_w];rw [a6])|skip);have H':=zqm H;clear H;obtain⟨ASz6_0,cSz6_0,HGz6,hgz6,HSz6_0⟩:=a0.out;have e5:=cellS110_0 HGz6;have e6:=cellS110_1 HGz6;have e8:=blk_frozen HGz6 1;clear HGz6 hgz6
   go_wp2
   repeat(go_quiet (fail);try go_wp2)
   go_meet
   case rel=>exact⟨_,(((s0_0.length:Int)==0)),(by first|rfl|(simp;done)|(simp [*];done)),H',⟨by first|omega|exact Nat.le_refl _⟩,⟨zq39⟩,⟨zq16⟩,⟨zq28⟩⟩
 case rest=>
  clear d0;obtain⟨kq,a5,rfl,HA,g4,a0,HK,HB⟩:=hcut
  cases kq with
  |zero=>exact absurd HA.out (by simp [spec_l20Rd_pick.j0])
  |succ g6=>
   have H:=HA.out;clear HA;simp only [spec_l20Rd_pick.j0] at H
   by_cases c7:a5=true
   ·subst c7;(have H1:(some (0,(wrap64 (s0_1+1))))=some (r1,r2):=by rw [if_pos rfl] at H;exact H);clear H;have H:=H1;clear H1;simp only [Option.some.injEq,Prod.mk.injEq] at H;obtain⟨rfl,rfl⟩:=H
    go_wp2
    repeat(go_quiet (fail);try go_wp2)
    go_ret
    exact⟨zq11,zq39,zq28,zq16⟩
   ·replace c7:=Bool.eq_false_iff.mpr c7;subst c7;(have H1:(if(wrap64 ((wrap64 (s0_1+1)) - 1))<(s0_0.length:Int) then(if 0≤(wrap64 ((wrap64 (s0_1+1)) - 1)) then(if a1=0 then(none) else(some (Int.tmod (wrap64 (rd s0_0 (wrap64 ((wrap64 (s0_1+1)) - 1)))) a1,(wrap64 (s0_1+1))))) else(none)) else(if(s0_0.length:Int)=0 then(none) else(if 0≤(Int.tmod (wrap64 ((wrap64 (s0_1+1)) - 1)) (s0_0.length:Int)) then(if(Int.tmod (wrap64 ((wrap64 (s0_1+1)) - 1)) (s0_0.length:Int))<(s0_0.length:Int) then(if 0≤(Int.tmod (wrap64 ((wrap64 ((wrap64 ((wrap64 (s0_1+1)) - 1))*7))+3)) (s0_0.length:Int)) then(if(Int.tmod (wrap64 ((wrap64 ((wrap64 ((wrap64 (s0_1+1)) - 1))*7))+3)) (s0_0.length:Int))<(s0_0.length:Int) then(if a1=0 then(none) else(some (Int.tmod (Go.bits .xor .i64 (wrap64 ((wrap64 ((wrap64 ((wrap64 ((wrap64 (rd s0_0 (Int.tmod (wrap64 ((wrap64 (s0_1+1)) - 1)) (s0_0.length:Int))))*131))+(wrap64 ((wrap64 (rd s0_0 (Int.tmod (wrap64 ((wrap64 ((wrap64 ((wrap64 (s0_1+1)) - 1))*7))+3)) (s0_0.length:Int))))*1117))))+(wrap64 ((wrap64 ((wrap64 (s0_1+1)) - 1))*29))))+(wrap64 ((wrap64 (Int.tdiv (wrap64 ((wrap64 (s0_1+1)) - 1)) (s0_0.length:Int)))*53)))) (wrap64 (Int.tdiv (wrap64 ((wrap64 ((wrap64 ((wrap64 ((wrap64 (rd s0_0 (Int.tmod (wrap64 ((wrap64 (s0_1+1)) - 1)) (s0_0.length:Int))))*131))+(wrap64 ((wrap64 (rd s0_0 (Int.tmod (wrap64 ((wrap64 ((wrap64 ((wrap64 (s0_1+1)) - 1))*7))+3)) (s0_0.length:Int))))*1117))))+(wrap64 ((wrap64 ((wrap64 (s0_1+1)) - 1))*29))))+(wrap64 ((wrap64 (Int.tdiv (wrap64 ((wrap64 (s0_1+1)) - 1)) (s0_0.length:Int)))*53)))) 64))) a1,(wrap64 (s0_1+1))))) else(none)) else(none)) else(none)) else(none))))=some (r1,r2):=by rw [if_neg (show¬(false=true) by decide)] at H;exact H);clear H;have H:=H1;clear H1
    by_cases c8:(wrap64 ((wrap64 (s0_1+1)) - 1))<(s0_0.length:Int)
    ·rw [if_pos c8] at H;have d1:decide ((wrap64 ((wrap64 (s0_1+1)) - 1))<(s0_0.length:Int))=true:=decide_eq_true c8;clear c8;obtain⟨a4,a7⟩: ∃j_:Int,(wrap64 ((wrap64 (s0_1+1)) - 1))=j_:=⟨_,rfl⟩;(replace H:(if 0≤(a4) then(if a1=0 then(none) else(some (Int.tmod (wrap64 (rd s0_0 (a4))) a1,(wrap64 (s0_1+1))))) else(none))=some (r1,r2):=by first|(rw [a7] at H;exact H)|(simp only [a7] at H ⊢;exact H));(try rw [a7] at d1);have g3:(IntKind.i64.wrap ((wrap64 (s0_1+1)) - 1))=a4:=(i64_w _).trans a7
     by_cases c0:0≤(a4)
     ·rw [if_pos c0] at H;have f1:decide (0≤(a4))=true:=decide_eq_true c0;clear c0
      by_cases c1:a1=0
      ·rw [if_pos c1] at H;exact absurd H (by simp)
      ·rw [if_neg c1] at H;have f2:(a1==0)=false:=beq_eq_false_iff_ne.mpr c1;have f3:(a1 !=0)=true:=bne_iff_ne.mpr c1;simp only [Option.some.injEq,Prod.mk.injEq] at H;obtain⟨rfl,rfl⟩:=H;obtain⟨ASz12_0,cSz12_0,HGz12,hgz12,HSz12_0⟩:=a0.out;have d7:=cellS110_0 HGz12;have d8:=cellS110_1 HGz12;have e1:=blk_frozen HGz12 1;clear HGz12 hgz12;have b4:0≤((a4):Int):=zqo;have b7:(a4)<(s0_0.length:Int):=zqo;obtain⟨f0,d4,a8⟩:=Kd.at_int HSz12_0 (a4) b4 b7
       cases d4
       replace a8:=pw_cell_below HB.out a8;replace b4:=eq_true b4;replace b7:=eq_true b7
       go_wp2
       repeat(go_quiet (fail);try go_wp2)
       go_ret
       exact⟨by first|rfl|(simp [errW_none,errW_some] <;> rfl)|(simp only [← a7];first|rfl|(simp [errW_none,errW_some] <;> rfl))|(simp [*,errW_none,errW_some] <;> rfl),zq39,zq28,zq16⟩
     ·rw [if_neg c0] at H;exact absurd H (by simp)
    ·rw [if_neg c8] at H;have d1:decide ((wrap64 ((wrap64 (s0_1+1)) - 1))<(s0_0.length:Int))=false:=decide_eq_false c8;clear c8
     by_cases b3:(s0_0.length:Int)=0
     ·rw [if_pos b3] at H;exact absurd H (by simp)
     ·rw [if_neg b3] at H;have f4:((s0_0.length:Int)==0)=false:=beq_eq_false_iff_ne.mpr b3;have f5:((s0_0.length:Int) !=0)=true:=bne_iff_ne.mpr b3;have f6: ¬(s0_0= []):=fun h_=>b3 (by rw [h_];rfl);obtain⟨a2,b1⟩: ∃j_:Int,(Int.tmod (wrap64 ((wrap64 (s0_1+1)) - 1)) (s0_0.length:Int))=j_:=⟨_,rfl⟩;replace H:(if 0≤(a2) then(if(a2)<(s0_0.length:Int) then(if 0≤(Int.tmod (wrap64 ((wrap64 ((wrap64 ((wrap64 (s0_1+1)) - 1))*7))+3)) (s0_0.length:Int)) then(if(Int.tmod (wrap64 ((wrap64 ((wrap64 ((wrap64 (s0_1+1)) - 1))*7))+3)) (s0_0.length:Int))<(s0_0.length:Int) then(if a1=0 then(none) else(some (Int.tmod (Go.bits .xor .i64 (wrap64 ((wrap64 ((wrap64 ((wrap64 ((wrap64 (rd s0_0 (a2)))*131))+(wrap64 ((wrap64 (rd s0_0 (Int.tmod (wrap64 ((wrap64 ((wrap64 ((wrap64 (s0_1+1)) - 1))*7))+3)) (s0_0.length:Int))))*1117))))+(wrap64 ((wrap64 ((wrap64 (s0_1+1)) - 1))*29))))+(wrap64 ((wrap64 (Int.tdiv (wrap64 ((wrap64 (s0_1+1)) - 1)) (s0_0.length:Int)))*53)))) (wrap64 (Int.tdiv (wrap64 ((wrap64 ((wrap64 ((wrap64 ((wrap64 (rd s0_0 (a2)))*131))+(wrap64 ((wrap64 (rd s0_0 (Int.tmod (wrap64 ((wrap64 ((wrap64 ((wrap64 (s0_1+1)) - 1))*7))+3)) (s0_0.length:Int))))*1117))))+(wrap64 ((wrap64 ((wrap64 (s0_1+1)) - 1))*29))))+(wrap64 ((wrap64 (Int.tdiv (wrap64 ((wrap64 (s0_1+1)) - 1)) (s0_0.length:Int)))*53)))) 64))) a1,(wrap64 (s0_1+1))))) else(none)) else(none)) else(none)) else(none))=some (r1,r2):=by first|(rw [b1] at H;exact H)|(simp only [b1] at H ⊢;exact H)
      by_cases c2:0≤(a2)
      ·rw [if_pos c2] at H;have f7:decide (0≤(a2))=true:=decide_eq_true c2;clear c2
       by_cases c3:(a2)<(s0_0.length:Int)
       ·rw [if_pos c3] at H;have f8:decide ((a2)<(s0_0.length:Int))=true:=decide_eq_true c3;clear c3;obtain⟨a3,b2⟩: ∃j_:Int,(Int.tmod (wrap64 ((wrap64 ((wrap64 ((wrap64 (s0_1+1)) - 1))*7))+3)) (s0_0.length:Int))=j_:=⟨_,rfl⟩;replace H:(if 0≤(a3) then(if(a3)<(s0_0.length:Int) then(if a1=0 then(none) else(some (Int.tmod (Go.bits .xor .i64 (wrap64 ((wrap64 ((wrap64 ((wrap64 ((wrap64 (rd s0_0 (a2)))*131))+(wrap64 ((wrap64 (rd s0_0 (a3)))*1117))))+(wrap64 ((wrap64 ((wrap64 (s0_1+1)) - 1))*29))))+(wrap64 ((wrap64 (Int.tdiv (wrap64 ((wrap64 (s0_1+1)) - 1)) (s0_0.length:Int)))*53)))) (wrap64 (Int.tdiv (wrap64 ((wrap64 ((wrap64 ((wrap64 ((wrap64 (rd s0_0 (a2)))*131))+(wrap64 ((wrap64 (rd s0_0 (a3)))*1117))))+(wrap64 ((wrap64 ((wrap64 (s0_1+1)) - 1))*29))))+(wrap64 ((wrap64 (Int.tdiv (wrap64 ((wrap64 (s0_1+1)) - 1)) (s0_0.length:Int)))*53)))) 64))) a1,(wrap64 (s0_1+1))))) else(none)) else(none))=some (r1,r2):=by first|(rw [b2] at H;exact H)|(simp only [b2] at H ⊢;exact H)
        by_cases c4:0≤(a3)
        ·rw [if_pos c4] at H;have f9:decide (0≤(a3))=true:=decide_eq_true c4;clear c4
         by_cases c6:(a3)<(s0_0.length:Int)
         ·rw [if_pos c6] at H;have g0:decide ((a3)<(s0_0.length:Int))=true:=decide_eq_true c6;clear c6
          by_cases c9:a1=0
          ·rw [if_pos c9] at H;exact absurd H (by simp)
          ·rw [if_neg c9] at H;have g1:(a1==0)=false:=beq_eq_false_iff_ne.mpr c9;have g2:(a1 !=0)=true:=bne_iff_ne.mpr c9;simp only [Option.some.injEq,Prod.mk.injEq] at H;obtain⟨rfl,rfl⟩:=H;obtain⟨ASz21_0,cSz21_0,HGz21,hgz21,HSz21_0⟩:=a0.out;have d9:=cellS110_0 HGz21;have e0:=cellS110_1 HGz21;have e2:=blk_frozen HGz21 1;clear HGz21 hgz21;have b5:0≤((a2):Int):=zqo;have b8:(a2)<(s0_0.length:Int):=zqo;obtain⟨d2,d5,a9⟩:=Kd.at_int HSz21_0 (a2) b5 b8
           cases d5
           replace a9:=pw_cell_below HB.out a9;replace b5:=eq_true b5;replace b8:=eq_true b8;have b6:0≤((a3):Int):=zqo;have b9:(a3)<(s0_0.length:Int):=zqo;obtain⟨d3,d6,b0⟩:=Kd.at_int HSz21_0 (a3) b6 b9;obtain rfl:d2=d3:=(by injection d6);replace b0:=pw_cell_below HB.out b0;replace b6:=eq_true b6;replace b9:=eq_true b9
           go_wp2
           repeat(go_quiet (fail);try go_wp2)
           go_ret
           exact⟨by first|rfl|(simp [errW_none,errW_some] <;> rfl)|(simp only [← b1,← b2];first|rfl|(simp [errW_none,errW_some] <;> rfl))|(simp [*,errW_none,errW_some] <;> rfl),zq39,zq28,zq16⟩
         ·rw [if_neg c6] at H;exact absurd H (by simp)
        ·rw [if_neg c4] at H;exact absurd H (by simp)
       ·rw [if_neg c3] at H;exact absurd H (by simp)
      ·rw [if_neg c2] at H;exact absurd H (by simp)
def spec_l20Open.f (l0 : List Int) : Option (List Int × Int) := if (l0.length : Int) > 2000 then (if 2000 ≤ (l0.length : Int) then (some (l0.take 2000, 0)) else (none)) else (some (l0, 0))
set_option maxHeartbeats 8000000 in
set_option maxRecDepth 100000 in
theorem spec_l20Open.calls (A0 : Option Addr) (c0 : Nat) (l0 : List Int) (r1 : List Int) (r2 : Int) (w0 w : World) (hB : Below w0.heap.size w0 w) (hr0 : Kd.C (Kd.int .u8) w0 A0 l0.length l0) (hc0 : l0.length ≤ c0) (h : spec_l20Open.f l0 = some (r1, r2)) :
  Calls Try.prog 69 #[.slice A0 l0.length c0] w fun e w' => ∃ g_ : Nat, e = .returned (.pointer (some ⟨g_, 0, none⟩)) ∧ IsS110 w0 w' g_ r1 r2 ∧ Below w0.heap.size w0 w' ∧ Below w.heap.size w w' := by
 have hu110:=Try.underlying110;have b1:=zqm hr0;have b5:=zqm hc0;clear hr0 hc0;have HBW:=zqm (Below.refl w.heap.size w);have b2:=zqm hB.size;have HB:=zqm hB;clear hB;have H:(if(l0.length:Int)>2000 then(if 2000≤(l0.length:Int) then(some (l0.take 2000,0)) else(none)) else(some (l0,0)))=some (r1,r2):=h;clear h
 by_cases c2:(l0.length:Int)>2000
 ·rw [if_pos c2] at H;have b3:decide (2000<(l0.length:Int))=true:=decide_eq_true c2;have b4:decide (2000<l0.length)=true:=decide_eq_true (by omega);clear c2
  by_cases c3:2000≤(l0.length:Int)
  ·rw [if_pos c3] at H;have b7:=eq_true c3;have b8:decide (2000≤(l0.length:Int))=true:=decide_eq_true c3;clear c3;simp only [Option.some.injEq,Prod.mk.injEq] at H;obtain⟨rfl,rfl⟩:=H;obtain⟨i04,a5,_,hsz4,_⟩:=info_parts info5;obtain⟨hcut4,hA4,hC4⟩:=print_take_of (P:=Try.prog) (Value.int .u8) 0 22 5 .i64 Try.underlying22 a5 hsz4 A0 c0 l0 2000 (by omega) (zqo) b5.out;have b0:=zqm (Kd.C_of_reads (h1:=fun _=>rfl) (hA4 _ (Kd.reads_of_C b1.out)));have b6:=zqm hC4;clear hA4 hC4 a5 hsz4
   go_enter Try.func69,Try.ntmps69
   go_wp2_with (first|((with_reducible refine gate_dst (N:=10) rfl ?_);refine box_event ?hg (N:=10) ?hd (cs:= #[.slice A0 (l0.take 2000).length c0,.int .i64 0]) (t:=110) ?hr ?_;(case hd=>rfl);(case hg=>rfl);(case hr=>first|(go_simp;done)|(go_simp;rfl));intro a0 hg w5 hbox hb;have a2:=zqm (below_step HBW.out hb);replace HB:=zqm (below_step zq0 hb);have a6:=zqm (hbox);have a8:=zqm ((by rw [hg];exact(below_size zq238):w.heap.size≤a0));have a3:=zqm ((Nat.le_trans b2.out (by rw [hg];exact(below_size zq238):w.heap.size≤a0):w0.heap.size≤a0));clear HBW;have HBW:=a2;clear a2 hb hbox hg))
   go_ret
   exact⟨_,rfl,(show IsS110 w0 _ a0 (l0.take 2000) 0 from ⟨_,_,by(with_reducible repeat(first|refine blk_drewN ?_ _|refine blk_drew ?_|refine blk_alloc ?_ _));exact a6.out,a3.out,b0.out⟩),zq53,by repeat(first|(with_reducible first|exact HBW.out|apply below_alloc|apply pw_below_drewN|apply below_drew1|refine below_set ?_ a8.out)|exact HBW.out)⟩
  ·rw [if_neg c3] at H;exact absurd H (by simp)
 ·rw [if_neg c2] at H;have b3:decide (2000<(l0.length:Int))=false:=decide_eq_false c2;have b4:decide (2000<l0.length)=false:=decide_eq_false (by omega);clear c2;simp only [Option.some.injEq,Prod.mk.injEq] at H;obtain⟨rfl,rfl⟩:=H
  go_enter Try.func69,Try.ntmps69
  go_wp2_with (first|((with_reducible refine gate_dst (N:=10) rfl ?_);refine box_event ?hg (N:=10) ?hd (cs:= #[.slice A0 l0.length c0,.int .i64 0]) (t:=110) ?hr ?_;(case hd=>rfl);(case hg=>rfl);(case hr=>first|(go_simp;done)|(go_simp;rfl));intro a1 hg w6 hbox hb;have a2:=zqm (below_step HBW.out hb);replace HB:=zqm (below_step zq0 hb);have a7:=zqm (hbox);have a9:=zqm ((by rw [hg];exact(below_size zq238):w.heap.size≤a1));have a4:=zqm ((Nat.le_trans b2.out (by rw [hg];exact(below_size zq238):w.heap.size≤a1):w0.heap.size≤a1));clear HBW;have HBW:=a2;clear a2 hb hbox hg))
  go_ret
  exact⟨_,rfl,(show IsS110 w0 _ a1 l0 0 from ⟨_,_,zq38,a4.out,b1.out⟩),zq36,by repeat(first|(with_reducible first|exact HBW.out|apply below_alloc|apply pw_below_drewN|apply below_drew1|refine below_set ?_ a9.out)|exact HBW.out)⟩
end Go.Proofs.Ytcbjpdaogicibaa.Print
end
section
namespace Go.Proofs.Ytcbjpdaogicibaa.Print
open Go.RowKit Go.Proofs.YtcbjpdaogicibaaW.PrintWords Go.Proofs.YtcbjpdaogicibaaW.PrintLast Go.Proofs.YtcbjpdaogicibaaW.PrintMore
attribute [local go_sem] max2_int min2_int max_two min_two max_three min_three max_four min_four   -- for this text's walks alone
mutual
def spec_l20Sets.l0 : Nat → Int → List (List Int) → Int → Option ((List (List Int)))
 | 0, _, _, _ => none
 | k + 1, x0, x3, x4 => if 0 ≤ x0 then (if x4 < (shl .i64 1 x0) then (spec_l20Sets.l1 k x0 x3 x4 (([] : List Int)) 0) else (some x3)) else (none)
def spec_l20Sets.l1 : Nat → Int → List (List Int) → Int → List Int → Int → Option ((List (List Int)))
 | 0, _, _, _, _, _ => none
 | k + 1, x0, x3, x4, x5, x6 => if 0 ≤ x0 then (if x6 < (shl .i64 1 x0) then (if (Go.bits .and .i64 x4 x6) = x4 then (if x5.length < 17592186044416 then (spec_l20Sets.l1 k x0 x3 x4 (x5 ++ [1]) (wrap64 (x6 + 1))) else (none)) else (if x5.length < 17592186044416 then (spec_l20Sets.l1 k x0 x3 x4 (x5 ++ [0]) (wrap64 (x6 + 1))) else (none))) else (if x3.length < 5864062014805 then (spec_l20Sets.l0 k x0 (x3 ++ [x5]) (wrap64 (x4 + 1))) else (none))) else (none)
end
def spec_l20Sets.f (k : Nat) (a0 : Int) : Option ((List (List Int))) := spec_l20Sets.l0 k a0 (([] : List (List Int))) 0
theorem spec_l20Sets.mono_l : ∀ k, (∀ y0 y1 y2, LeO (spec_l20Sets.l0 k y0 y1 y2) (spec_l20Sets.l0 (k + 1) y0 y1 y2)) ∧ (∀ y0 y1 y2 y3 y4, LeO (spec_l20Sets.l1 k y0 y1 y2 y3 y4) (spec_l20Sets.l1 (k + 1) y0 y1 y2 y3 y4))
 | 0 => ⟨fun _ _ _ r h => by simp [spec_l20Sets.l0] at h, fun _ _ _ _ _ r h => by simp [spec_l20Sets.l1] at h⟩
 | k + 1 => by
  obtain ⟨ih0, ih1⟩ := spec_l20Sets.mono_l k
  refine ⟨?_, ?_⟩
  ·intro y0 y1 y2
   unfold spec_l20Sets.l0
   repeat' first
   | (with_reducible exact ih0 _ _ _)
   | (with_reducible exact ih1 _ _ _ _ _)
   | (with_reducible exact LeO.refl _)
   | (with_reducible exact LeO.none _)
   | (with_reducible refine LeO.ite ?_ ?_)
   | (with_reducible refine LeO.bind ?_ (fun _ => ?_))
   | exact ih0 _ _ _
   | exact ih1 _ _ _ _ _
   | exact LeO.none _
   | refine LeO.ite ?_ ?_
   | refine LeO.bind ?_ (fun _ => ?_)
  ·intro y0 y1 y2 y3 y4
   unfold spec_l20Sets.l1
   repeat' first
   | (with_reducible exact ih0 _ _ _)
   | (with_reducible exact ih1 _ _ _ _ _)
   | (with_reducible exact LeO.refl _)
   | (with_reducible exact LeO.none _)
   | (with_reducible refine LeO.ite ?_ ?_)
   | (with_reducible refine LeO.bind ?_ (fun _ => ?_))
   | exact ih0 _ _ _
   | exact ih1 _ _ _ _ _
   | exact LeO.none _
   | refine LeO.ite ?_ ?_
   | refine LeO.bind ?_ (fun _ => ?_)
theorem spec_l20Sets.mono : ∀ a0 k, LeO (spec_l20Sets.f k a0) (spec_l20Sets.f (k + 1) a0) := by
 intro a0 k
 obtain ⟨ih0, ih1⟩ := spec_l20Sets.mono_l k
 unfold spec_l20Sets.f
 repeat' first
   | (with_reducible exact ih0 _ _ _)
   | (with_reducible exact ih1 _ _ _ _ _)
   | (with_reducible exact LeO.refl _)
   | (with_reducible exact LeO.none _)
   | (with_reducible refine LeO.ite ?_ ?_)
   | (with_reducible refine LeO.bind ?_ (fun _ => ?_))
   | exact ih0 _ _ _
   | exact ih1 _ _ _ _ _
   | exact LeO.none _
   | refine LeO.ite ?_ ?_
   | refine LeO.bind ?_ (fun _ => ?_)
set_option maxHeartbeats 8000000 in
set_option maxRecDepth 100000 in
theorem spec_l20Sets.calls (k : Nat) (a0 : Int) (r : List (List Int)) (w : World) (h : spec_l20Sets.f k a0 = some r) :
  Calls Try.prog 149 #[.int .i64 a0] w fun e w' => ∃ v0_ : Value, e = .returned (v0_) ∧ Kd.S (Kd.slice 3 (Kd.int .i64)) 24 w' w.heap.size (fun _ => True) v0_ r ∧ Below w.heap.size w w' := by
 have HB:=zqm (Below.refl w.heap.size w);have H:(spec_l20Sets.l0 k a0 (([]:List (List Int))) 0)=some r:=h;clear h;obtain⟨d3,a9⟩: ∃y_:List (List Int),y_=(([]:List (List Int))):=⟨_,rfl⟩;(replace H:(spec_l20Sets.l0 k a0 d3 0)=some r:=by first|(rw [a9];with_reducible exact H)|(have a5:=(Option.bind_some _ _).symm.trans H;rw [a9];with_reducible exact a5)|(have a5:=(Option.bind_some _ _).symm.trans H;with_reducible exact a5)|with_reducible exact H|(rw [a9];exact H)|exact H);have c2:=zqm a9;clear a9;have H':=zqm H;clear H
 go_enter Try.func149,Try.ntmps149
 go_wp2_with (first|((with_reducible refine gate_dst (N:=8) rfl ?_);refine Kd.S_lit (Kd.slice 3 (Kd.int .i64)) _ 24 ?hg (N:=8) ?hd (xs:=([]:List (List Int))) (inner:= []) (ok:=fun _=>True) (okp:=fun _=>True) ?hr ?hp (fun _ hk=>hk) trivial (Below.refl _ _) (Nat.le_refl _) (by simp) ?_;(case hd=>rfl);(case hg=>rfl);(case hr=>first|(go_simp;done)|(go_simp;rfl));(case hp=>exact(Reps.none _ _));intro f5 w2 c1 hb hg_ hnew_;clear hg_ hnew_;(first|rw [← c2.out] at c1|(simp only [Int.reduceToNat] at c1;rw [← c2.out] at c1));have d8:=zqm (Kd.S_lower c1 (below_size zq0));replace HB:=zqm (below_step zq0 hb);clear hb c1))
 go_loopg [3,4] k (fun kq v3 v4 w'=> ∃(a4:List (List Int)) (a1:Int),v4= .int .i64 a1∧Aside0 (spec_l20Sets.l0 kq a0 a4 a1=some r)∧Aside0 (kq≤k)∧Aside0 (Kd.S (Kd.slice 3 (Kd.int .i64)) 24 w' w.heap.size (fun _=>True) v3 a4)∧Aside0 (Below w.heap.size w w'))
 case atStart=>exact⟨(d3),(0),(by first|rfl|(simp;done)|(simp [*];done)),H',⟨Nat.le_refl _⟩,⟨by(with_reducible repeat(first|apply Kd.S_alloc|apply Kd.S_drewN|apply Kd.S_drew));exact d8.out⟩,⟨zq0⟩⟩
 case round=>
  clear H';obtain⟨a4,a1,rfl,HA,b6,HO_3,HB⟩:=hrel
  cases gk with
  |zero=>exact absurd HA.out (by simp [spec_l20Sets.l0])
  |succ k1=>
   have H:=HA.out;clear HA;simp only [spec_l20Sets.l0] at H
   by_cases c4:0≤a0
   ·rw [if_pos c4] at H;have f1:=eq_true c4;have f2:decide (0≤a0)=true:=decide_eq_true c4;clear c4;obtain⟨a7,b4⟩: ∃j_:Int,(shl .i64 1 a0)=j_:=⟨_,rfl⟩;(replace H:(if a1<(a7) then(spec_l20Sets.l1 k1 a0 a4 a1 (([]:List Int)) 0) else(some a4))=some r:=by first|(rw [b4] at H;exact H)|(simp only [b4] at H ⊢;exact H));have d0:(IntKind.i64.wrap (1*2 ^ min a0.toNat 64))=a7:=b4;have hji5z:a0≤64→(IntKind.i64.wrap (1*2 ^ a0.toNat))=a7:=shl_small b4;(have hji5u:(IntKind.i64.wrap (2 ^ min a0.toNat 64))=a7:=by have h_:=d0;rw [Int.one_mul] at h_;exact h_);(have hji5v:a0≤64→(IntKind.i64.wrap (2 ^ a0.toNat))=a7:=fun hle_=>by have h_:=hji5z hle_;rw [Int.one_mul] at h_;exact h_);have hji5y:(wrap64 (1*2 ^ min a0.toNat 64))=a7:=(i64_w _).symm.trans d0;have hji5x:a0≤64→(wrap64 (1*2 ^ a0.toNat))=a7:=fun h_=>(i64_w _).symm.trans (hji5z h_)
    by_cases c6:a1<(a7)
    ·rw [if_pos c6] at H;have e9:decide (a1<(a7))=true:=decide_eq_true c6;clear c6;obtain⟨d4,b0⟩: ∃y_:List Int,y_=(([]:List Int)):=⟨_,rfl⟩;(replace H:(spec_l20Sets.l1 k1 a0 a4 a1 d4 0)=some r:=by first|(rw [b0];with_reducible exact H)|(have a5:=(Option.bind_some _ _).symm.trans H;rw [b0];with_reducible exact a5)|(have a5:=(Option.bind_some _ _).symm.trans H;with_reducible exact a5)|with_reducible exact H|(rw [b0];exact H)|exact H);have c3:=zqm b0;clear b0;have H':=zqm H;clear H
     go_wp2_with (first|((with_reducible refine gate_dst (N:=15) rfl ?_);refine Kd.R_lit (Kd.int .i64) _ 3 ?hg (N:=15) ?hd (xs:=([]:List Int)) (inner:= []) (ok:=fun _=>True) (okp:=fun _=>True) ?hr ?hp (fun _ hk=>hk) trivial (Below.refl _ _) (Nat.le_refl _) (by simp) ?_;(case hd=>rfl);(case hg=>rfl);(case hr=>first|(go_simp;done)|(go_simp;rfl));(case hp=>exact(Reps.none _ _));intro f6 w7 b9 hb hg_ hnew_;clear hg_ hnew_;(first|rw [← c3.out] at b9|(simp only [Int.reduceToNat] at b9;rw [← c3.out] at b9));replace HO_3:=zqm (Kd.S_elder' zq121 (Kd.R_base b9) hb);have d9:=zqm (Kd.R_lower b9 (below_size zq0));replace HB:=zqm (below_step zq0 hb);clear hb b9))
     go_loopg [5,6] k1 (fun kq v5 v6 w'=> ∃(a3:List Int) (a2:Int),v6= .int .i64 a2∧Aside0 (spec_l20Sets.l1 kq a0 a4 a1 a3 a2=some r)∧Aside0 (kq≤k1)∧Aside0 (Kd.S (Kd.slice 3 (Kd.int .i64)) 24 w' w.heap.size (fun k_=>some k_≠(v5:Value).ownBlock) u3 a4)∧Aside0 (Kd.R (Kd.int .i64) 3 w' w.heap.size (fun _=>True) v5 a3)∧Aside0 (Below w.heap.size w w'))
     case atStart=>exact⟨(d4),(0),(by first|rfl|(simp;done)|(simp [*];done)),H',⟨Nat.le_refl _⟩,⟨zq264⟩,⟨zq106⟩,⟨zq0⟩⟩
     case round=>
      clear H';obtain⟨a3,a2,rfl,HA,b7,HO_3,HO_5,HB⟩:=hrel
      cases gk with
      |zero=>exact absurd HA.out (by simp [spec_l20Sets.l1])
      |succ k2=>
       have H:=HA.out;clear HA;simp only [spec_l20Sets.l1] at H
       by_cases c9:0≤a0
       ·rw [if_pos c9] at H;have f3:=eq_true c9;have f4:decide (0≤a0)=true:=decide_eq_true c9;clear c9;obtain⟨a6,a8⟩: ∃j_:Int,(shl .i64 1 a0)=j_:=⟨_,rfl⟩;(first|(obtain rfl:a6=a7:=a8.symm.trans b4)|skip);(replace H:(if a2<(a6) then(if(Go.bits .and .i64 a1 a2)=a1 then(if a3.length<17592186044416 then(spec_l20Sets.l1 k2 a0 a4 a1 (a3 ++ [1]) (wrap64 (a2+1))) else(none)) else(if a3.length<17592186044416 then(spec_l20Sets.l1 k2 a0 a4 a1 (a3 ++ [0]) (wrap64 (a2+1))) else(none))) else(if a4.length<5864062014805 then(spec_l20Sets.l0 k2 a0 (a4 ++ [a3]) (wrap64 (a1+1))) else(none)))=some r:=by first|(rw [a8] at H;exact H)|(simp only [a8] at H ⊢;exact H));have c0:(IntKind.i64.wrap (1*2 ^ min a0.toNat 64))=a6:=a8;have hji10z:a0≤64→(IntKind.i64.wrap (1*2 ^ a0.toNat))=a6:=shl_small a8;(have hji10u:(IntKind.i64.wrap (2 ^ min a0.toNat 64))=a6:=by have h_:=c0;rw [Int.one_mul] at h_;exact h_);(have hji10v:a0≤64→(IntKind.i64.wrap (2 ^ a0.toNat))=a6:=fun hle_=>by have h_:=hji10z hle_;rw [Int.one_mul] at h_;exact h_);have hji10y:(wrap64 (1*2 ^ min a0.toNat 64))=a6:=(i64_w _).symm.trans c0;have hji10x:a0≤64→(wrap64 (1*2 ^ a0.toNat))=a6:=fun h_=>(i64_w _).symm.trans (hji10z h_)
        by_cases b8:a2<(a6)
        ·rw [if_pos b8] at H;have e6:decide (a2<(a6))=true:=decide_eq_true b8;clear b8
         by_cases b5:(Go.bits .and .i64 a1 a2)=a1
         ·rw [if_pos b5] at H;have e7:((Go.bits .and .i64 a1 a2)==a1)=true:=beq_iff_eq.mpr b5;have e8:((Go.bits .and .i64 a1 a2) !=a1)=false:=bne_eq_false_iff_eq.mpr b5;clear b5
          by_cases c5:a3.length<17592186044416
          ·rw [if_pos c5] at H;have LMc13:=zqm c5;clear c5;obtain⟨d5,b1⟩: ∃y_:List Int,y_=(a3 ++ [1]):=⟨_,rfl⟩;(replace H:(spec_l20Sets.l1 k2 a0 a4 a1 d5 (wrap64 (a2+1)))=some r:=by first|(rw [b1];with_reducible exact H)|(have a5:=(Option.bind_some _ _).symm.trans H;rw [b1];with_reducible exact a5)|(have a5:=(Option.bind_some _ _).symm.trans H;with_reducible exact a5)|with_reducible exact H|(rw [b1];exact H)|exact H);have e3:=zqm b1;clear b1;have H':=zqm H;clear H
           go_wp2_with (first|((with_reducible refine gate_builtin (b:= .append) (xs:= #[.tmp 27,.tmp 29]) rfl ?_);at_builtin;refine Kd.R_append (Kd.int .i64) (w0:=w) w.heap.size rfl (.tmp 27) (.tmp 29) 24 3 (.int .i64 0) 8 rfl Try.underlying24 info3 rfl (by decide) (by omega) u5 a3 1 [.int .i64 1] (fun _=>True) (fun _=>False) rfl rfl ?aP (fun _ hk=>hk.elim) ?aF ?aO ?aB ?aS ?aL ?_;(case aP=>exact rfl);(case aB=> exact zq231);(case aF=>exact(fun _ _=>trivial));(case aO=> exact zq251);(case aS=> exact zq219);(case aL=>have:=LMc13.out;omega);intro f7 g0 ho hb hg hat;rw [← e3.out] at ho;replace HO_3:=zqm (Kd.S_after (ok:=(fun _=>True)) zq299 hg hat);replace HB:=zqm (hb);have e0:=zqm (ho);clear HO_5;clear ho hb hg hat))
           go_roundg k2
           (case measure=>have:=b6.out;have:=b7.out;omega);case rel=>exact⟨(d5),(wrap64 (a2+1)),(by first|rfl|(simp;done)|(simp [*];done)),H',⟨by have:=b6.out;have:=b7.out;omega⟩,⟨zq264⟩,⟨by(with_reducible repeat(first|apply Kd.R_alloc|apply Kd.R_drewN|apply Kd.R_drew));exact e0.out⟩,⟨zq0⟩⟩
          ·rw [if_neg c5] at H;exact absurd H (by simp)
         ·rw [if_neg b5] at H;have e7:((Go.bits .and .i64 a1 a2)==a1)=false:=beq_eq_false_iff_ne.mpr b5;have e8:((Go.bits .and .i64 a1 a2) !=a1)=true:=bne_iff_ne.mpr b5
          by_cases c7:a3.length<17592186044416
          ·rw [if_pos c7] at H;have LMc15:=zqm c7;clear c7;obtain⟨d6,b2⟩: ∃y_:List Int,y_=(a3 ++ [0]):=⟨_,rfl⟩;(replace H:(spec_l20Sets.l1 k2 a0 a4 a1 d6 (wrap64 (a2+1)))=some r:=by first|(rw [b2];with_reducible exact H)|(have a5:=(Option.bind_some _ _).symm.trans H;rw [b2];with_reducible exact a5)|(have a5:=(Option.bind_some _ _).symm.trans H;with_reducible exact a5)|with_reducible exact H|(rw [b2];exact H)|exact H);have e4:=zqm b2;clear b2;have H':=zqm H;clear H
           go_wp2_with (first|((with_reducible refine gate_builtin (b:= .append) (xs:= #[.tmp 27,.tmp 29]) rfl ?_);at_builtin;refine Kd.R_append (Kd.int .i64) (w0:=w) w.heap.size rfl (.tmp 27) (.tmp 29) 24 3 (.int .i64 0) 8 rfl Try.underlying24 info3 rfl (by decide) (by omega) u5 a3 0 [.int .i64 0] (fun _=>True) (fun _=>False) rfl rfl ?aP (fun _ hk=>hk.elim) ?aF ?aO ?aB ?aS ?aL ?_;(case aP=>exact rfl);(case aB=> exact zq231);(case aF=>exact(fun _ _=>trivial));(case aO=> exact zq251);(case aS=> exact zq219);(case aL=>have:=LMc15.out;omega);intro f8 g1 ho hb hg hat;rw [← e4.out] at ho;replace HO_3:=zqm (Kd.S_after (ok:=(fun _=>True)) zq299 hg hat);replace HB:=zqm (hb);have e1:=zqm (ho);clear HO_5;clear ho hb hg hat))
           go_roundg k2
           (case measure=>have:=b6.out;have:=b7.out;omega);case rel=>exact⟨(d6),(wrap64 (a2+1)),(by first|rfl|(simp;done)|(simp [*];done)),H',⟨by have:=b6.out;have:=b7.out;omega⟩,⟨zq264⟩,⟨by(with_reducible repeat(first|apply Kd.R_alloc|apply Kd.R_drewN|apply Kd.R_drew));exact e1.out⟩,⟨zq0⟩⟩
          ·rw [if_neg c7] at H;exact absurd H (by simp)
        ·rw [if_neg b8] at H;have e6:decide (a2<(a6))=false:=decide_eq_false b8;clear b8
         by_cases c8:a4.length<5864062014805
         ·rw [if_pos c8] at H;have LMc17:=zqm c8;clear c8;obtain⟨d7,b3⟩: ∃y_:List (List Int),y_=(a4 ++ [a3]):=⟨_,rfl⟩;(replace H:(spec_l20Sets.l0 k2 a0 d7 (wrap64 (a1+1)))=some r:=by first|(rw [b3];with_reducible exact H)|(have a5:=(Option.bind_some _ _).symm.trans H;rw [b3];with_reducible exact a5)|(have a5:=(Option.bind_some _ _).symm.trans H;with_reducible exact a5)|with_reducible exact H|(rw [b3];exact H)|exact H);have e5:=zqm b3;clear b3;have H':=zqm H;clear H;obtain⟨d1,d2,f0⟩:=Kd.R_slice HO_5.out;subst f0
          go_wp2_with (first|((with_reducible refine gate_builtin (b:= .append) (xs:= #[.tmp 31,.tmp 33]) rfl ?_);at_builtin;refine Kd.S_append (Kd.slice 3 (Kd.int .i64)) (w0:=w) w.heap.size rfl (.tmp 31) (.tmp 33) 23 24 (.slice none 0 0) 24 rfl Try.underlying23 info24 rfl (by decide) (by omega) u3 a4 a3 [.slice d1 a3.length d2] (fun _=>True) (fun k_=>some k_=(.slice d1 a3.length d2:Value).ownBlock) rfl rfl ?aP (fun k_ hk_=>((Kd.R_mono (ok':=fun k_=>((fun _=>True)) k_∧some k_≠(u3:Value).ownBlock) (Kd.R_apart' (HO_5.out) (Kd.S_typed HO_3.out) (by decide)) (fun k_ hk=>⟨trivial,hk.2⟩))).1 k_ hk_.symm) ?aF ?aO ?aB ?aS ?aL ?_;(case aP=>exact Kd.M_row (Kd.R_mono (Kd.R_tight rfl (Kd.R_mono (ok':=fun k_=>((fun _=>True)) k_∧some k_≠(u3:Value).ownBlock) (Kd.R_apart' (HO_5.out) (Kd.S_typed HO_3.out) (by decide)) (fun k_ hk=>⟨trivial,hk.2⟩))) (fun _ h_=>h_)));(case aB=> exact zq231);(case aF=>exact(fun _ _=>trivial));(case aO=>exact zq285);(case aS=> exact zq219);(case aL=>have:=LMc17.out;omega);intro f9 g2 ho hb hg hat;rw [← e5.out] at ho;replace HB:=zqm (hb);have e2:=zqm (ho);clear HO_3 HO_5;clear ho hb hg hat))
          go_roundg k2
          (case measure=>have:=b6.out;have:=b7.out;omega);case rel=>exact⟨(d7),(wrap64 (a1+1)),(by first|rfl|(simp;done)|(simp [*];done)),H',⟨by have:=b6.out;have:=b7.out;omega⟩,⟨by(with_reducible repeat(first|apply Kd.S_alloc|apply Kd.S_drewN|apply Kd.S_drew));exact e2.out⟩,⟨zq0⟩⟩
         ·rw [if_neg c8] at H;exact absurd H (by simp)
       ·rw [if_neg c9] at H;exact absurd H (by simp)
    ·rw [if_neg c6] at H;have e9:decide (a1<(a7))=false:=decide_eq_false c6;clear c6;obtain rfl:=Option.some.inj H
     go_wp2
     go_ret
     exact⟨_,by first|rfl|(simp [errW_none,errW_some] <;> rfl)|(simp only [← b4];first|rfl|(simp [errW_none,errW_some] <;> rfl))|(simp [*,errW_none,errW_some] <;> rfl),zq121,zq0⟩
   ·rw [if_neg c4] at H;exact absurd H (by simp)
end Go.Proofs.Ytcbjpdaogicibaa.Print
end
section
namespace Go.Proofs.Ytcbjpdaogicibaa.Print
open Go.RowKit Go.Proofs.YtcbjpdaogicibaaW.PrintWords Go.Proofs.YtcbjpdaogicibaaW.PrintLast Go.Proofs.YtcbjpdaogicibaaW.PrintMore
attribute [local go_sem] max2_int min2_int max_two min_two max_three min_three max_four min_four   -- for this text's walks alone
def spec_l20Boole.l0 : Nat → Int → Int → List (List Int) → List Int → Option ((List (List Int)) × List Int)
 | 0, _, _, _, _ => none
 | k + 1, x0, x4, x124000, x124001 => if 0 ≤ x0 then (if x4 < (shl .i64 1 x0) then (if x124001.length < 17592186044416 then (spec_l20Boole.l0 k x0 (wrap64 (x4 + 1)) x124000 (x124001 ++ [wrap64 ((wrap64 ((shl .i64 1 x0) - 1)) - x4)])) else (none)) else (some (x124000, x124001))) else (none)
def spec_l20Boole.f (k : Nat) (a0 : Int) : Option ((List (List Int)) × List Int) := (spec_l20Sets.f k a0).bind fun t120 => (spec_l20Boole.l0 k a0 0 t120 ([] : List Int))
theorem spec_l20Boole.mono_l : ∀ k, (∀ y0 y1 y2 y3, LeO (spec_l20Boole.l0 k y0 y1 y2 y3) (spec_l20Boole.l0 (k + 1) y0 y1 y2 y3))
 | 0 => fun _ _ _ _ r h => by simp [spec_l20Boole.l0] at h
 | k + 1 => by
  have ih0 := spec_l20Boole.mono_l k
  ·intro y0 y1 y2 y3
   unfold spec_l20Boole.l0
   repeat' first
   | (with_reducible exact ih0 _ _ _ _)
   | (with_reducible exact spec_l20Sets.mono _ _)
   | (with_reducible exact LeO.refl _)
   | (with_reducible exact LeO.none _)
   | (with_reducible refine LeO.ite ?_ ?_)
   | (with_reducible refine LeO.bind ?_ (fun _ => ?_))
   | exact ih0 _ _ _ _
   | exact spec_l20Sets.mono _ _
   | exact LeO.none _
   | refine LeO.ite ?_ ?_
   | refine LeO.bind ?_ (fun _ => ?_)
theorem spec_l20Boole.mono : ∀ a0 k, LeO (spec_l20Boole.f k a0) (spec_l20Boole.f (k + 1) a0) := by
 intro a0 k
 have ih0 := spec_l20Boole.mono_l k
 unfold spec_l20Boole.f
 repeat' first
   | (with_reducible exact ih0 _ _ _ _)
   | (with_reducible exact spec_l20Sets.mono _ _)
   | (with_reducible exact LeO.refl _)
   | (with_reducible exact LeO.none _)
   | (with_reducible refine LeO.ite ?_ ?_)
   | (with_reducible refine LeO.bind ?_ (fun _ => ?_))
   | exact ih0 _ _ _ _
   | exact spec_l20Sets.mono _ _
   | exact LeO.none _
   | refine LeO.ite ?_ ?_
   | refine LeO.bind ?_ (fun _ => ?_)
def spec_l20Boole.T5 : Bool × List (List Nat × List Nat) := (true, [([], []), ([0], [0]), ([], []), ([2], [2]), ([3], [3]), ([], []), ([4, 5], [4, 5]), ([6], [6]), ([1, 7], [1, 7]), ([0, 1, 2, 3, 4, 5, 6, 7, 8], []), ([9, 8, 8, 0, 1, 2, 3, 4, 5, 6, 7, 8], [8, 9])])
def spec_l20Boole.B5 : List Nat := [0, 1, 0, 4, 12, 0, 60, 124, 255, 511, 1023]
theorem spec_l20Boole.tab5 : rtab .any (opsOf Try.f126 5) = spec_l20Boole.T5 := by kernel_rfl
theorem spec_l20Boole.bits5 : waitsOk spec_l20Boole.T5.2 spec_l20Boole.B5 = true := by kernel_rfl
set_option maxHeartbeats 8000000 in
set_option maxRecDepth 100000 in
theorem spec_l20Boole.calls (k : Nat) (a0 : Int) (r1 : List (List Int)) (r2 : List Int) (w : World) (h : spec_l20Boole.f k a0 = some (r1, r2)) :
  Calls Try.prog 126 #[.int .i64 a0] w fun e w' => ∃ v0_ v1_ : Value, e = .returned (.agg #[v0_, v1_]) ∧ Kd.S (Kd.slice 3 (Kd.int .i64)) 24 w' w.heap.size (fun k_ => some k_ ≠ (v1_ : Value).ownBlock) v0_ r1 ∧ Kd.R (Kd.int .i64) 3 w' w.heap.size (fun _ => True) v1_ r2 ∧ Below w.heap.size w w' := by
 have hu26:=Try.underlying26;have HB:=zqm (Below.refl w.heap.size w);have H:((spec_l20Sets.f k a0).bind fun a6=>(spec_l20Boole.l0 k a0 0 a6 ([]:List Int)))=some (r1,r2):=h;clear h;replace H:=Option.bind_eq_some_iff.mp H;obtain⟨a6,d3,H⟩:=H;replace H:(spec_l20Boole.l0 k a0 0 a6 ([]:List Int))=some (r1,r2):=H;have A2:=zqm d3;clear d3;have H':=zqm H;clear H
 go_enter Try.func126,Try.ntmps126
 go_wp2_with (first|((with_reducible refine gate_dst (N:=2) rfl ?_);refine box_event ?hg (N:=2) ?hd (cs:= #[.slice none 0 0,.slice none 0 0]) (t:=26) ?hr ?_;(case hd=>rfl);(case hg=>rfl);(case hr=>first|(go_simp;done)|(go_simp;rfl));intro a4 hg w3 hbox hb;have d8:=zqm (below_step zq0 hb);have a2:=zqm (hbox);have f9:=zqm ((by rw [hg];exact(below_size zq0):w.heap.size≤a4));have b1:=zqm ((by rw [hg];exact(below_size zq0):w.heap.size≤a4));clear HB;have HB:=d8;clear d8 hb hbox hg)|((with_reducible refine gate_callee (f:=149) rfl ?_);refine goesL_ (some 6) rfl rfl Try.func149 zqk rfl #[.int .i64 a0] rfl zq1 ?_;(with_reducible refine(spec_l20Sets.calls k a0 a6 _ A2.out).mono ?_);rintro e w4 ⟨g8,rfl,d7,hb⟩;refine⟨_,rfl,?_⟩;have b8:=zqm (Kd.S_lower d7 (below_size zq15));replace a2:=zqm (blk_below (g:=a4) (o:= .cells #[.slice none 0 0,.slice none 0 0] 26 (0,0)) zq10 hb);replace HB:=zqm (below_step zq15 hb);clear hb d7;obtain⟨b2,b3,f0⟩:=Kd.S_slice b8.out;subst f0)|((with_reducible refine gate_dst (N:=3) rfl ?_);refine box_event ?hg (N:=3) ?hd (cs:= #[.slice none 0 0,.slice none 0 0]) (t:=26) ?hr ?_;(case hd=>rfl);(case hg=>rfl);(case hr=>first|(go_simp;done)|(go_simp;rfl));intro a5 hg w6 hbox hb;replace b8:=zqm (Kd.S_below (by(with_reducible repeat(first|apply Kd.S_alloc|apply Kd.S_drewN|apply Kd.S_drew));exact b8.out) hb);have d9:=zqm (blk_below (g:=a4) (o:= .cells #[.slice none 0 0,.slice none 0 0] 26 (0,0)) zq10 hb);have e0:=zqm (below_step zq15 hb);have a1:=zqm (hbox);have g0:=zqm ((by rw [hg];exact(below_size zq15):w.heap.size≤a5));have b5:=zqm ((by rw [hg];exact(below_size zq15):w.heap.size≤a5));have a8:=zqm ((by rw [hg];exact Nat.ne_of_lt (blk_lt (g:=a4) (o:= .cells #[.slice none 0 0,.slice none 0 0] 26 (0,0)) zq10):a4≠a5));have b4:=zqm ((by rw [hg];exact Nat.ne_of_gt (blk_lt (g:=a4) (o:= .cells #[.slice none 0 0,.slice none 0 0] 26 (0,0)) zq10):a5≠a4));clear a2 HB;have a2:=d9;have HB:=e0;clear d9 e0 hb hbox hg;have g6:=b4.out;have g7:=a8.out;have f4:w6.cell? ⟨a5,0,none⟩=some (.slice none 0 0):=(blk_cell a1.out 0).trans rfl;have f5:w6.cell? ⟨a5,1,none⟩=some (.slice none 0 0):=(blk_cell a1.out 1).trans rfl;have f6:=blk_frozen a1.out 0;have f7:=blk_frozen a1.out 1))
 go_loopg [4] k (fun kq v4 w'=> ∃(b0:Int) (a3:List Int) (a7:Value),v4= .int .i64 b0∧Aside0 (spec_l20Boole.l0 kq a0 b0 a6 a3=some (r1,r2))∧Aside0 (kq≤k)∧Aside0 (Kd.S (Kd.slice 3 (Kd.int .i64)) 24 w' w.heap.size (fun k_=>some k_≠(a7:Value).ownBlock) (.slice b2 a6.length b3) a6)∧Aside0 (Kd.R (Kd.int .i64) 3 w' w.heap.size (fun _=>True) a7 a3)∧Aside0 (w'.heap[a4]? =some (.cells #[(.slice none 0 0),(.slice none 0 0)] 26 (0,0)))∧Aside0 (w'.heap[a5]? =some (.cells #[(.slice b2 a6.length b3),a7] 26 (0,0)))∧Aside0 (Below w.heap.size w w'))
 case atStart=>exact⟨(0),(([]:List Int)),(.slice none 0 0),(by first|rfl|(simp;done)|(simp [*];done)),H',⟨Nat.le_refl _⟩,⟨by(with_reducible repeat(first|apply Kd.S_alloc|apply Kd.S_drewN|apply Kd.S_drew));exact Kd.S_mono (Kd.S_far (p:=⟨a5,1,none⟩) (Kd.S_far (p:=⟨a5,0,none⟩) (Kd.S_types b8.out a1.out (by decide)) (fun _ hk=>hk.2) (.slice b2 a6.length b3)) (fun _ hk=>hk.2) (.slice none 0 0)) (fun _ hk=>(by simp [Value.ownBlock]))⟩,⟨zq133⟩,⟨by(with_reducible repeat(first|refine blk_drewN ?_ _|refine blk_drew ?_|refine blk_alloc ?_ _));refine blk_far ?_ a8.out _;(with_reducible repeat(first|refine blk_drewN ?_ _|refine blk_drew ?_|refine blk_alloc ?_ _));refine blk_far ?_ a8.out _;(with_reducible repeat(first|refine blk_drewN ?_ _|refine blk_drew ?_|refine blk_alloc ?_ _));exact a2.out⟩,⟨by(with_reducible repeat(first|refine blk_drewN ?_ _|refine blk_drew ?_|refine blk_alloc ?_ _));refine blk_put (cs:= #[.slice b2 a6.length b3,.slice none 0 0]) ?_ 1 _ rfl;(with_reducible repeat(first|refine blk_drewN ?_ _|refine blk_drew ?_|refine blk_alloc ?_ _));refine blk_put (cs:= #[.slice none 0 0,.slice none 0 0]) ?_ 0 _ rfl;(with_reducible repeat(first|refine blk_drewN ?_ _|refine blk_drew ?_|refine blk_alloc ?_ _));exact a1.out⟩,⟨zq112⟩⟩
 case round=>
  clear H';obtain⟨b0,a3,a7,rfl,HA,d4,HO_124000,HO_124001,a2,a1,HB⟩:=hrel
  cases gk with
  |zero=>exact absurd HA.out (by simp [spec_l20Boole.l0])
  |succ k1=>
   have H:=HA.out;clear HA;simp only [spec_l20Boole.l0] at H
   by_cases c9:0≤a0
   ·rw [if_pos c9] at H;have g4:=eq_true c9;have g5:decide (0≤a0)=true:=decide_eq_true c9;clear c9;obtain⟨a9,b6⟩: ∃j_:Int,(shl .i64 1 a0)=j_:=⟨_,rfl⟩;(replace H:(if b0<(a9) then(if a3.length<17592186044416 then(spec_l20Boole.l0 k1 a0 (wrap64 (b0+1)) a6 (a3 ++ [wrap64 ((wrap64 ((a9) - 1)) - b0)])) else(none)) else(some (a6,a3)))=some (r1,r2):=by first|(rw [b6] at H;exact H)|(simp only [b6] at H ⊢;exact H));have c1:(IntKind.i64.wrap (1*2 ^ min a0.toNat 64))=a9:=b6;have hji10z:a0≤64→(IntKind.i64.wrap (1*2 ^ a0.toNat))=a9:=shl_small b6;(have hji10u:(IntKind.i64.wrap (2 ^ min a0.toNat 64))=a9:=by have h_:=c1;rw [Int.one_mul] at h_;exact h_);(have hji10v:a0≤64→(IntKind.i64.wrap (2 ^ a0.toNat))=a9:=fun hle_=>by have h_:=hji10z hle_;rw [Int.one_mul] at h_;exact h_);have hji10y:(wrap64 (1*2 ^ min a0.toNat 64))=a9:=(i64_w _).symm.trans c1;have hji10x:a0≤64→(wrap64 (1*2 ^ a0.toNat))=a9:=fun h_=>(i64_w _).symm.trans (hji10z h_)
    by_cases c0:b0<(a9)
    ·rw [if_pos c0] at H;have d2:decide (b0<(a9))=true:=decide_eq_true c0;clear c0;have g1:=eq_true (zqo:0≤a0)
     by_cases c7:a3.length<17592186044416
     ·rw [if_pos c7] at H;have LMc14:=zqm c7;clear c7;obtain⟨b9,b7⟩: ∃y_:List Int,y_=(a3 ++ [wrap64 ((wrap64 ((a9) - 1)) - b0)]):=⟨_,rfl⟩;(replace H:(spec_l20Boole.l0 k1 a0 (wrap64 (b0+1)) a6 b9)=some (r1,r2):=by first|(rw [b7];with_reducible exact H)|(have c8:=(Option.bind_some _ _).symm.trans H;rw [b7];with_reducible exact c8)|(have c8:=(Option.bind_some _ _).symm.trans H;with_reducible exact c8)|with_reducible exact H|(rw [b7];exact H)|exact H);have d1:=zqm b7;clear b7;have H':=zqm H;clear H;(try go_wp2);replace HO_124000:=zqm (Kd.S_drew HO_124000.out);replace HO_124001:=zqm (Kd.R_drew HO_124001.out);replace a2:=zqm (blk_drew a2.out);replace a1:=zqm (blk_drew a1.out);replace HB:=zqm (below_drew1 HB.out);refine start_ (n:=11) (S:=fun w'=>w'.cell? ⟨a5,0,none⟩=some (.slice b2 a6.length b3)∧w'.cell? ⟨a5,1,none⟩=some (a7)) (ds:= [10]) (zqb 11 0) zqk rfl rfl ⟨(blk_cell a1.out 0).trans rfl,(blk_cell a1.out 1).trans rfl⟩ (fun hHeld=>?_);refine with_tabW spec_l20Boole.tab5 spec_l20Boole.bits5 (fun HT_ HW_=>?_);generalize wr.drew=h0 at HO_124000 HO_124001 a2 a1 HB hHeld ⊢;refine pure_ (i:=0) (N:=some 14) (v:=?_) (a':=?_) (zqb 11 1) rfl rfl (any_of HT_.out zqk) (fun _ _ _ h=>h) (Or.inl ⟨by rfl,?_⟩) ?_ ?_;rotate_left
      ·exact zqt
      rotate_left
      ·exact zqs
      refine pure_ (i:=2) (N:=some 16) (v:=?_) (a':=?_) (zqb 11 5) rfl rfl (any_of HT_.out zqk) (fun _ _ _ h=>h) (Or.inl ⟨by rfl,?_⟩) ?_ ?_;rotate_left
      ·exact zqt
      rotate_left
      ·exact zqs
      refine pure_ (i:=3) (N:=some 17) (v:=?_) (a':=?_) (zqb 11 13) rfl rfl (any_of HT_.out zqk) (fun _ _ _ h=>h) (Or.inl ⟨by rfl,?_⟩) ?_ ?_;rotate_left
      ·exact zqt
      rotate_left
      ·exact zqs
      refine pure_ (i:=4) (N:=some 18) (v:=?_) (a':=?_) (zqb 11 29) rfl rfl (any_of HT_.out zqk) (fun _ _ _ h=>h) (Or.inl ⟨by rfl,?_⟩) ?_ ?_;rotate_left
      ·exact zqt
      rotate_left
      ·exact zqs
      refine pure_ (i:=5) (N:=some 19) (v:=?_) (a':=?_) (zqb 11 61) rfl rfl (any_of HT_.out zqk) (fun _ _ _ h=>h) (Or.inl ⟨by rfl,?_⟩) ?_ ?_;rotate_left
      ·exact zqt
      rotate_left
      ·exact zqs
      refine pure_ (i:=6) (N:=some 20) (v:=?_) (a':=?_) (zqb 11 125) rfl rfl (any_of HT_.out zqk) (fun _ _ _ h=>h) (Or.inl ⟨by rfl,?_⟩) ?_ ?_;rotate_left
      ·exact zqt
      rotate_left
      ·exact zqs
      refine take_ (i:=1) (N:=some 15) (v:=?_) (a':=?_) (zqb 11 127) rfl rfl (take_ofW HT_.out HW_.out zqk) (fun _ _ _ h=>h) (Or.inl ⟨by rfl,?_⟩) hHeld ?_ ?_;rotate_left
      ·rintro w' ⟨s0,s1⟩;go_simp;with_reducible rfl
      rotate_left
      ·exact zqs
      refine one_ (i:=7) (N:=some 21) (zqb 11 255) rfl rfl (one_of HT_.out zqk) (by decide) (fun K hK=>?_);refine value_ (w1:=?_) (v:=?_) (by rfl) rfl ?_ ?_;rotate_left 2
      ·go_simp
       constructor
       ·rfl
       ·rfl
      refine hK.out _ _ ⟨(blk_cell (blk_alloc a1.out _) 0).trans rfl,(blk_cell (blk_alloc a1.out _) 1).trans rfl⟩ (fun hHeld=>?_);clear hK K;refine norm_ (a':=?_) ?_ ?_;rotate_left
      ·show Act.put _ (some 21) _=_;exact zqs
      refine one_ (i:=8) (N:=some 22) (zqb 11 511) rfl rfl (one_of HT_.out zqk) (by decide) (fun K hK=>?_);refine Kd.R_append_step (Kd.int .i64) (w0:=w) w.heap.size (by rfl) (.tmp 15) (.tmp 21) 24 3 (.int .i64 0) 8 rfl Try.underlying24 info3 rfl (by decide) (by omega) a7 a3 (wrap64 ((wrap64 ((a9) - 1)) - b0)) [.int .i64 (wrap64 ((wrap64 ((a9) - 1)) - b0))] (fun _=>True) (fun _=>False) rfl rfl ?aP (fun _ hk=>hk.elim) ?aF ?aO ?aB ?aS ?aL ?_;(case aP=>exact rfl);(case aB=>exact zq112);(case aF=>exact(fun _ _=>trivial));(case aO=>exact(by(with_reducible repeat(first|apply Kd.R_alloc|apply Kd.R_drewN|apply Kd.R_drew));exact HO_124001.out));(case aS=>exact(below_size zq112));(case aL=>have:=LMc14.out;omega);intro g9 f8 ho hb hg hat;rw [← d1.out] at ho;replace HO_124000:=zqm (Kd.S_after (ok:=(fun _=>True)) (by(with_reducible repeat(first|apply Kd.S_alloc|apply Kd.S_drewN|apply Kd.S_drew));exact Kd.S_mono HO_124000.out (fun _ hk=>⟨trivial,hk⟩)) hg hat);replace a2:=zqm (blk_grown (g:=a4) (o:= .cells #[.slice none 0 0,.slice none 0 0] 26 (0,0)) zq10 hg (Kd.R_ne HO_124001.out a2.out (by decide)));replace a1:=zqm (blk_grown (g:=a5) (o:= .cells #[.slice b2 a6.length b3,a7] 26 (0,0)) zq12 hg (Kd.R_ne HO_124001.out a1.out (by decide)));replace HB:=zqm (hb);have c6:=zqm (ho);clear HO_124001;clear ho hb hg hat;obtain⟨c2,c4,d0⟩:=Kd.R_slice c6.out;(first|subst d0|(injection d0 with d5 f1 d6;have f2:=d5.symm;have f3:=d6.symm;clear d5 f1 d6;subst f2;subst f3));refine hK.out _ _ ⟨(blk_cell a1.out 0).trans rfl,(blk_cell a1.out 1).trans rfl⟩ (fun hHeld=>?_);clear hK K;refine norm_ (a':=?_) ?_ ?_;rotate_left
      ·show Act.put _ (some 22) _=_;exact zqs
      refine pure_ (i:=9) (N:=some 23) (v:=?_) (a':=?_) (zqb 11 1023) rfl rfl (any_of HT_.out zqk) (fun _ _ _ h=>h) (Or.inl ⟨by rfl,?_⟩) ?_ ?_;rotate_left
      ·exact zqt
      rotate_left
      ·exact zqs
      refine last_ (i:=10) (N:=none) (zqb 11 2047) rfl rfl (one_of HT_.out zqk) (by decide) (fun K hK=>?_);have hs18:f8.cell? ⟨a5,1,none⟩=some (a7):=(blk_cell a1.out 1).trans rfl;have hfs18:=blk_frozen a1.out 1;have hns18_0:=a8.out;have hms18_0:=b4.out;refine skip_ (w1:=?_) (by rfl) rfl ?_ ?_;rotate_left
      ·go_simp;rfl
      refine hK.out _ _ ?_;clear hK K;refine done_ (done_of HT_.out zqk) ?_;try go_wp2
      go_roundg k1
      (case measure=>have:=d4.out;omega);case rel=>exact⟨(wrap64 (b0+1)),(b9),(.slice c2 b9.length c4),(by first|rfl|(simp;done)|(simp [*];done)),H',⟨by have:=d4.out;omega⟩,⟨by(with_reducible repeat(first|apply Kd.S_alloc|apply Kd.S_drewN|apply Kd.S_drew));exact Kd.S_mono (Kd.S_far (p:=⟨a5,1,none⟩) (Kd.S_types HO_124000.out a1.out (by decide)) (fun _ hk=>hk.2) (.slice c2 b9.length c4)) (fun _ hk=>hk.1.2)⟩,⟨by(with_reducible repeat(first|apply Kd.R_alloc|apply Kd.R_drewN|apply Kd.R_drew));exact Kd.R_mono (Kd.R_far (p:=⟨a5,1,none⟩) (Kd.R_types c6.out a1.out (by decide)) (fun _ hk=>hk.2) (.slice c2 b9.length c4)) (fun _ hk=>trivial)⟩,⟨by(with_reducible repeat(first|refine blk_drewN ?_ _|refine blk_drew ?_|refine blk_alloc ?_ _));refine blk_far ?_ a8.out _;(with_reducible repeat(first|refine blk_drewN ?_ _|refine blk_drew ?_|refine blk_alloc ?_ _));exact a2.out⟩,⟨by(with_reducible repeat(first|refine blk_drewN ?_ _|refine blk_drew ?_|refine blk_alloc ?_ _));refine blk_put (cs:= #[.slice b2 a6.length b3,a7]) ?_ 1 _ rfl;(with_reducible repeat(first|refine blk_drewN ?_ _|refine blk_drew ?_|refine blk_alloc ?_ _));exact a1.out⟩,⟨zq112⟩⟩
     ·rw [if_neg c7] at H;exact absurd H (by simp)
    ·rw [if_neg c0] at H;have d2:decide (b0<(a9))=false:=decide_eq_false c0;clear c0;simp only [Option.some.injEq,Prod.mk.injEq] at H;obtain⟨rfl,rfl⟩:=H;have g2:=b4.out;have g3:=a8.out;have e2:wr.cell? ⟨a5,0,none⟩=some (.slice b2 a6.length b3):=(blk_cell a1.out 0).trans rfl;have e3:wr.cell? ⟨a5,1,none⟩=some (a7):=(blk_cell a1.out 1).trans rfl;have e6:=blk_frozen a1.out 0;have e7:=blk_frozen a1.out 1;have e4:wr.cell? ⟨a4,0,none⟩=some (.slice none 0 0):=(blk_cell a2.out 0).trans rfl;have e5:wr.cell? ⟨a4,1,none⟩=some (.slice none 0 0):=(blk_cell a2.out 1).trans rfl;have e8:=blk_frozen a2.out 0;have e9:=blk_frozen a2.out 1;obtain⟨c3,c5,e1⟩:=Kd.R_slice HO_124001.out;subst e1
     go_wp2
     refine bodyPost_ret (results_cell_row rfl _ _ a4 26 #[.slice b2 a6.length b3,.slice c3 a3.length c5] (0,0) _ rfl (by(with_reducible repeat(first|refine blk_drewN ?_ _|refine blk_drew ?_|refine blk_alloc ?_ _));refine blk_put (cs:= #[.slice b2 a6.length b3,.slice none 0 0]) ?_ 1 _ rfl;(with_reducible repeat(first|refine blk_drewN ?_ _|refine blk_drew ?_|refine blk_alloc ?_ _));refine blk_put (cs:= #[.slice none 0 0,.slice none 0 0]) ?_ 0 _ rfl;(with_reducible repeat(first|refine blk_drewN ?_ _|refine blk_drew ?_|refine blk_alloc ?_ _));exact a2.out) Try.underlying26 rfl zqk) rfl ?_;exact⟨_,_,zq244,by(with_reducible repeat(first|apply Kd.S_alloc|apply Kd.S_drewN|apply Kd.S_drew));exact Kd.S_mono (Kd.S_far (p:=⟨a4,1,none⟩) (Kd.S_far (p:=⟨a4,0,none⟩) (Kd.S_types HO_124000.out a2.out (by decide)) (fun _ hk=>hk.2) (.slice b2 a6.length b3)) (fun _ hk=>hk.2) (.slice c3 a3.length c5)) (fun _ hk=>hk.1),by(with_reducible repeat(first|apply Kd.R_alloc|apply Kd.R_drewN|apply Kd.R_drew));exact Kd.R_mono (Kd.R_far (p:=⟨a4,1,none⟩) (Kd.R_far (p:=⟨a4,0,none⟩) (Kd.R_types HO_124001.out a2.out (by decide)) (fun _ hk=>hk.2) (.slice b2 a6.length b3)) (fun _ hk=>hk.2) (.slice c3 a3.length c5)) (fun _ hk=>trivial),zq112⟩
   ·rw [if_neg c9] at H;exact absurd H (by simp)
end Go.Proofs.Ytcbjpdaogicibaa.Print
end
section
namespace Go.Proofs.Ytcbjpdaogicibaa.Print
open Go.RowKit Go.Proofs.YtcbjpdaogicibaaW.PrintWords Go.Proofs.YtcbjpdaogicibaaW.PrintLast Go.Proofs.YtcbjpdaogicibaaW.PrintMore
attribute [local go_sem] max2_int min2_int max_two min_two max_three min_three max_four min_four   -- for this text's walks alone
mutual
def spec_l20Glued.l0 : Nat → Int → Int → Int → List (List Int) → List Int → List (List Int) → List Int → List (List Int) → List Int → Option ((List (List Int)) × List Int)
 | 0, _, _, _, _, _, _, _, _, _ => none
 | k + 1, x5, x6, x8, x128000, x128001, x129000, x129001, x131000, x131001 => if x8 < (wrap64 ((wrap64 (x5 + x6)) - 2)) then (spec_l20Glued.l1 k x5 x6 x8 (([] : List Int)) 0 x128000 x128001 x129000 x129001 x131000 x131001) else (some (x131000, x131001))
def spec_l20Glued.l1 : Nat → Int → Int → Int → List Int → Int → List (List Int) → List Int → List (List Int) → List Int → List (List Int) → List Int → Option ((List (List Int)) × List Int)
 | 0, _, _, _, _, _, _, _, _, _, _, _ => none
 | k + 1, x5, x6, x8, x9, x10, x128000, x128001, x129000, x129001, x131000, x131001 => if x10 < (wrap64 ((wrap64 (x5 + x6)) - 2)) then (if x8 = 0 then (spec_l20Glued.j2 k x5 x6 x8 x9 x10 0 true x128000 x128001 x129000 x129001 x131000 x131001) else (spec_l20Glued.j2 k x5 x6 x8 x9 x10 0 (x10 == (wrap64 ((wrap64 (x5 + x6)) - 3))) x128000 x128001 x129000 x129001 x131000 x131001)) else (if x131000.length < 5864062014805 then ((some (x131000 ++ [x9] : List (List Int))).bind fun y153 => (if x8 = 0 then (if x131001.length < 17592186044416 then (spec_l20Glued.l0 k x5 x6 (wrap64 (x8 + 1)) x128000 x128001 x129000 x129001 y153 (x131001 ++ [wrap64 ((wrap64 (x5 + x6)) - 3)])) else (none)) else (if x8 = (wrap64 ((wrap64 (x5 + x6)) - 3)) then (if x131001.length < 17592186044416 then (spec_l20Glued.l0 k x5 x6 (wrap64 (x8 + 1)) x128000 x128001 x129000 x129001 y153 (x131001 ++ [0])) else (none)) else (if x8 < (wrap64 (x5 - 1)) then (if 0 ≤ x8 then (if x8 < (x128001.length : Int) then (if x131001.length < 17592186044416 then (spec_l20Glued.l0 k x5 x6 (wrap64 (x8 + 1)) x128000 x128001 x129000 x129001 y153 (x131001 ++ [rd x128001 x8])) else (none)) else (none)) else (none)) else (if 0 ≤ (wrap64 ((wrap64 (x8 - x5)) + 2)) then (if (wrap64 ((wrap64 (x8 - x5)) + 2)) < (x129001.length : Int) then (if x131001.length < 17592186044416 then (spec_l20Glued.l0 k x5 x6 (wrap64 (x8 + 1)) x128000 x128001 x129000 x129001 y153 (x131001 ++ [wrap64 ((wrap64 ((rd x129001 (wrap64 ((wrap64 (x8 - x5)) + 2))) + x5)) - 2)])) else (none)) else (none)) else (none)))))) else (none))
def spec_l20Glued.j2 : Nat → Int → Int → Int → List Int → Int → Int → Bool → List (List Int) → List Int → List (List Int) → List Int → List (List Int) → List Int → Option ((List (List Int)) × List Int)
 | 0, _, _, _, _, _, _, _, _, _, _, _, _, _ => none
 | k + 1, x5, x6, x8, x9, x10, x11, x36, x128000, x128001, x129000, x129001, x131000, x131001 => if x36 = true then (if x9.length < 17592186044416 then (spec_l20Glued.l1 k x5 x6 x8 (x9 ++ [1]) (wrap64 (x10 + 1)) x128000 x128001 x129000 x129001 x131000 x131001) else (none)) else (if x8 < (wrap64 (x5 - 1)) then (spec_l20Glued.j3 k x5 x6 x8 x9 x10 x11 (decide (x10 < (wrap64 (x5 - 1)))) x128000 x128001 x129000 x129001 x131000 x131001) else (spec_l20Glued.j3 k x5 x6 x8 x9 x10 x11 false x128000 x128001 x129000 x129001 x131000 x131001))
def spec_l20Glued.j3 : Nat → Int → Int → Int → List Int → Int → Int → Bool → List (List Int) → List Int → List (List Int) → List Int → List (List Int) → List Int → Option ((List (List Int)) × List Int)
 | 0, _, _, _, _, _, _, _, _, _, _, _, _, _ => none
 | k + 1, x5, x6, x8, x9, x10, x11, x47, x128000, x128001, x129000, x129001, x131000, x131001 => if x47 = true then (if 0 ≤ x8 then (if x8 < (x128000.length : Int) then (if 0 ≤ x10 then (if x10 < ((rd_L2 x128000 x8).length : Int) then (if x9.length < 17592186044416 then (spec_l20Glued.l1 k x5 x6 x8 (x9 ++ [rd (rd_L2 x128000 x8) x10]) (wrap64 (x10 + 1)) x128000 x128001 x129000 x129001 x131000 x131001) else (none)) else (none)) else (none)) else (none)) else (none)) else (if x8 ≥ (wrap64 (x5 - 1)) then (if x10 ≥ (wrap64 (x5 - 1)) then (spec_l20Glued.j4 k x5 x6 x8 x9 x10 x11 (decide (x8 < (wrap64 ((wrap64 (x5 + x6)) - 3)))) x128000 x128001 x129000 x129001 x131000 x131001) else (spec_l20Glued.j4 k x5 x6 x8 x9 x10 x11 false x128000 x128001 x129000 x129001 x131000 x131001)) else (spec_l20Glued.j4 k x5 x6 x8 x9 x10 x11 false x128000 x128001 x129000 x129001 x131000 x131001))
def spec_l20Glued.j4 : Nat → Int → Int → Int → List Int → Int → Int → Bool → List (List Int) → List Int → List (List Int) → List Int → List (List Int) → List Int → Option ((List (List Int)) × List Int)
 | 0, _, _, _, _, _, _, _, _, _, _, _, _, _ => none
 | k + 1, x5, x6, x8, x9, x10, x11, x66, x128000, x128001, x129000, x129001, x131000, x131001 => if x66 = true then (if 0 ≤ (wrap64 ((wrap64 (x8 - x5)) + 2)) then (if (wrap64 ((wrap64 (x8 - x5)) + 2)) < (x129000.length : Int) then (if 0 ≤ (wrap64 ((wrap64 (x10 - x5)) + 2)) then (if (wrap64 ((wrap64 (x10 - x5)) + 2)) < ((rd_L2 x129000 (wrap64 ((wrap64 (x8 - x5)) + 2))).length : Int) then (if x9.length < 17592186044416 then (spec_l20Glued.l1 k x5 x6 x8 (x9 ++ [rd (rd_L2 x129000 (wrap64 ((wrap64 (x8 - x5)) + 2))) (wrap64 ((wrap64 (x10 - x5)) + 2))]) (wrap64 (x10 + 1)) x128000 x128001 x129000 x129001 x131000 x131001) else (none)) else (none)) else (none)) else (none)) else (none)) else (if x8 = x10 then (if x9.length < 17592186044416 then (spec_l20Glued.l1 k x5 x6 x8 (x9 ++ [1]) (wrap64 (x10 + 1)) x128000 x128001 x129000 x129001 x131000 x131001) else (none)) else (if x9.length < 17592186044416 then (spec_l20Glued.l1 k x5 x6 x8 (x9 ++ [x11]) (wrap64 (x10 + 1)) x128000 x128001 x129000 x129001 x131000 x131001) else (none)))
end
def spec_l20Glued.f (k : Nat) (l0_0 : List (List Int)) (l0_1 : List Int) (l1_0 : List (List Int)) (l1_1 : List Int) : Option ((List (List Int)) × List Int) := spec_l20Glued.l0 k (l0_1.length : Int) (l1_1.length : Int) 0 l0_0 l0_1 l1_0 l1_1 ([] : List (List Int)) ([] : List Int)
theorem spec_l20Glued.mono_l : ∀ k, (∀ y0 y1 y2 y3 y4 y5 y6 y7 y8, LeO (spec_l20Glued.l0 k y0 y1 y2 y3 y4 y5 y6 y7 y8) (spec_l20Glued.l0 (k + 1) y0 y1 y2 y3 y4 y5 y6 y7 y8)) ∧ (∀ y0 y1 y2 y3 y4 y5 y6 y7 y8 y9 y10, LeO (spec_l20Glued.l1 k y0 y1 y2 y3 y4 y5 y6 y7 y8 y9 y10) (spec_l20Glued.l1 (k + 1) y0 y1 y2 y3 y4 y5 y6 y7 y8 y9 y10)) ∧ (∀ y0 y1 y2 y3 y4 y5 y6 y7 y8 y9 y10 y11 y12, LeO (spec_l20Glued.j2 k y0 y1 y2 y3 y4 y5 y6 y7 y8 y9 y10 y11 y12) (spec_l20Glued.j2 (k + 1) y0 y1 y2 y3 y4 y5 y6 y7 y8 y9 y10 y11 y12)) ∧ (∀ y0 y1 y2 y3 y4 y5 y6 y7 y8 y9 y10 y11 y12, LeO (spec_l20Glued.j3 k y0 y1 y2 y3 y4 y5 y6 y7 y8 y9 y10 y11 y12) (spec_l20Glued.j3 (k + 1) y0 y1 y2 y3 y4 y5 y6 y7 y8 y9 y10 y11 y12)) ∧ (∀ y0 y1 y2 y3 y4 y5 y6 y7 y8 y9 y10 y11 y12, LeO (spec_l20Glued.j4 k y0 y1 y2 y3 y4 y5 y6 y7 y8 y9 y10 y11 y12) (spec_l20Glued.j4 (k + 1) y0 y1 y2 y3 y4 y5 y6 y7 y8 y9 y10 y11 y12))
 | 0 => ⟨fun _ _ _ _ _ _ _ _ _ r h => by simp [spec_l20Glued.l0] at h, fun _ _ _ _ _ _ _ _ _ _ _ r h => by simp [spec_l20Glued.l1] at h, fun _ _ _ _ _ _ _ _ _ _ _ _ _ r h => by simp [spec_l20Glued.j2] at h, fun _ _ _ _ _ _ _ _ _ _ _ _ _ r h => by simp [spec_l20Glued.j3] at h, fun _ _ _ _ _ _ _ _ _ _ _ _ _ r h => by simp [spec_l20Glued.j4] at h⟩
 | k + 1 => by
  obtain ⟨ih0, ih1, ih2, ih3, ih4⟩ := spec_l20Glued.mono_l k
  refine ⟨?_, ?_, ?_, ?_, ?_⟩
  ·intro y0 y1 y2 y3 y4 y5 y6 y7 y8
   unfold spec_l20Glued.l0
   repeat' first
   | (with_reducible exact ih0 _ _ _ _ _ _ _ _ _)
   | (with_reducible exact ih1 _ _ _ _ _ _ _ _ _ _ _)
   | (with_reducible exact ih2 _ _ _ _ _ _ _ _ _ _ _ _ _)
   | (with_reducible exact ih3 _ _ _ _ _ _ _ _ _ _ _ _ _)
   | (with_reducible exact ih4 _ _ _ _ _ _ _ _ _ _ _ _ _)
   | (with_reducible exact LeO.refl _)
   | (with_reducible exact LeO.none _)
   | (with_reducible refine LeO.ite ?_ ?_)
   | (with_reducible refine LeO.bind ?_ (fun _ => ?_))
   | exact ih0 _ _ _ _ _ _ _ _ _
   | exact ih1 _ _ _ _ _ _ _ _ _ _ _
   | exact ih2 _ _ _ _ _ _ _ _ _ _ _ _ _
   | exact ih3 _ _ _ _ _ _ _ _ _ _ _ _ _
   | exact ih4 _ _ _ _ _ _ _ _ _ _ _ _ _
   | exact LeO.none _
   | refine LeO.ite ?_ ?_
   | refine LeO.bind ?_ (fun _ => ?_)
  ·intro y0 y1 y2 y3 y4 y5 y6 y7 y8 y9 y10
   unfold spec_l20Glued.l1
   repeat' first
   | (with_reducible exact ih0 _ _ _ _ _ _ _ _ _)
   | (with_reducible exact ih1 _ _ _ _ _ _ _ _ _ _ _)
   | (with_reducible exact ih2 _ _ _ _ _ _ _ _ _ _ _ _ _)
   | (with_reducible exact ih3 _ _ _ _ _ _ _ _ _ _ _ _ _)
   | (with_reducible exact ih4 _ _ _ _ _ _ _ _ _ _ _ _ _)
   | (with_reducible exact LeO.refl _)
   | (with_reducible exact LeO.none _)
   | (with_reducible refine LeO.ite ?_ ?_)
   | (with_reducible refine LeO.bind ?_ (fun _ => ?_))
   | exact ih0 _ _ _ _ _ _ _ _ _
   | exact ih1 _ _ _ _ _ _ _ _ _ _ _
   | exact ih2 _ _ _ _ _ _ _ _ _ _ _ _ _
   | exact ih3 _ _ _ _ _ _ _ _ _ _ _ _ _
   | exact ih4 _ _ _ _ _ _ _ _ _ _ _ _ _
   | exact LeO.none _
   | refine LeO.ite ?_ ?_
   | refine LeO.bind ?_ (fun _ => ?_)
  ·intro y0 y1 y2 y3 y4 y5 y6 y7 y8 y9 y10 y11 y12
   unfold spec_l20Glued.j2
   repeat' first
   | (with_reducible exact ih0 _ _ _ _ _ _ _ _ _)
   | (with_reducible exact ih1 _ _ _ _ _ _ _ _ _ _ _)
   | (with_reducible exact ih2 _ _ _ _ _ _ _ _ _ _ _ _ _)
   | (with_reducible exact ih3 _ _ _ _ _ _ _ _ _ _ _ _ _)
   | (with_reducible exact ih4 _ _ _ _ _ _ _ _ _ _ _ _ _)
   | (with_reducible exact LeO.refl _)
   | (with_reducible exact LeO.none _)
   | (with_reducible refine LeO.ite ?_ ?_)
   | (with_reducible refine LeO.bind ?_ (fun _ => ?_))
   | exact ih0 _ _ _ _ _ _ _ _ _
   | exact ih1 _ _ _ _ _ _ _ _ _ _ _
   | exact ih2 _ _ _ _ _ _ _ _ _ _ _ _ _
   | exact ih3 _ _ _ _ _ _ _ _ _ _ _ _ _
   | exact ih4 _ _ _ _ _ _ _ _ _ _ _ _ _
   | exact LeO.none _
   | refine LeO.ite ?_ ?_
   | refine LeO.bind ?_ (fun _ => ?_)
  ·intro y0 y1 y2 y3 y4 y5 y6 y7 y8 y9 y10 y11 y12
   unfold spec_l20Glued.j3
   repeat' first
   | (with_reducible exact ih0 _ _ _ _ _ _ _ _ _)
   | (with_reducible exact ih1 _ _ _ _ _ _ _ _ _ _ _)
   | (with_reducible exact ih2 _ _ _ _ _ _ _ _ _ _ _ _ _)
   | (with_reducible exact ih3 _ _ _ _ _ _ _ _ _ _ _ _ _)
   | (with_reducible exact ih4 _ _ _ _ _ _ _ _ _ _ _ _ _)
   | (with_reducible exact LeO.refl _)
   | (with_reducible exact LeO.none _)
   | (with_reducible refine LeO.ite ?_ ?_)
   | (with_reducible refine LeO.bind ?_ (fun _ => ?_))
   | exact ih0 _ _ _ _ _ _ _ _ _
   | exact ih1 _ _ _ _ _ _ _ _ _ _ _
   | exact ih2 _ _ _ _ _ _ _ _ _ _ _ _ _
   | exact ih3 _ _ _ _ _ _ _ _ _ _ _ _ _
   | exact ih4 _ _ _ _ _ _ _ _ _ _ _ _ _
   | exact LeO.none _
   | refine LeO.ite ?_ ?_
   | refine LeO.bind ?_ (fun _ => ?_)
  ·intro y0 y1 y2 y3 y4 y5 y6 y7 y8 y9 y10 y11 y12
   unfold spec_l20Glued.j4
   repeat' first
   | (with_reducible exact ih0 _ _ _ _ _ _ _ _ _)
   | (with_reducible exact ih1 _ _ _ _ _ _ _ _ _ _ _)
   | (with_reducible exact ih2 _ _ _ _ _ _ _ _ _ _ _ _ _)
   | (with_reducible exact ih3 _ _ _ _ _ _ _ _ _ _ _ _ _)
   | (with_reducible exact ih4 _ _ _ _ _ _ _ _ _ _ _ _ _)
   | (with_reducible exact LeO.refl _)
   | (with_reducible exact LeO.none _)
   | (with_reducible refine LeO.ite ?_ ?_)
   | (with_reducible refine LeO.bind ?_ (fun _ => ?_))
   | exact ih0 _ _ _ _ _ _ _ _ _
   | exact ih1 _ _ _ _ _ _ _ _ _ _ _
   | exact ih2 _ _ _ _ _ _ _ _ _ _ _ _ _
   | exact ih3 _ _ _ _ _ _ _ _ _ _ _ _ _
   | exact ih4 _ _ _ _ _ _ _ _ _ _ _ _ _
   | exact LeO.none _
   | refine LeO.ite ?_ ?_
   | refine LeO.bind ?_ (fun _ => ?_)
theorem spec_l20Glued.mono : ∀ a0 a1 a2 a3 k, LeO (spec_l20Glued.f k a0 a1 a2 a3) (spec_l20Glued.f (k + 1) a0 a1 a2 a3) := by
 intro a0 a1 a2 a3 k
 obtain ⟨ih0, ih1, ih2, ih3, ih4⟩ := spec_l20Glued.mono_l k
 unfold spec_l20Glued.f
 repeat' first
   | (with_reducible exact ih0 _ _ _ _ _ _ _ _ _)
   | (with_reducible exact ih1 _ _ _ _ _ _ _ _ _ _ _)
   | (with_reducible exact ih2 _ _ _ _ _ _ _ _ _ _ _ _ _)
   | (with_reducible exact ih3 _ _ _ _ _ _ _ _ _ _ _ _ _)
   | (with_reducible exact ih4 _ _ _ _ _ _ _ _ _ _ _ _ _)
   | (with_reducible exact LeO.refl _)
   | (with_reducible exact LeO.none _)
   | (with_reducible refine LeO.ite ?_ ?_)
   | (with_reducible refine LeO.bind ?_ (fun _ => ?_))
   | exact ih0 _ _ _ _ _ _ _ _ _
   | exact ih1 _ _ _ _ _ _ _ _ _ _ _
   | exact ih2 _ _ _ _ _ _ _ _ _ _ _ _ _
   | exact ih3 _ _ _ _ _ _ _ _ _ _ _ _ _
   | exact ih4 _ _ _ _ _ _ _ _ _ _ _ _ _
   | exact LeO.none _
   | refine LeO.ite ?_ ?_
   | refine LeO.bind ?_ (fun _ => ?_)
def spec_l20Glued.T22 : Bool × List (List Nat × List Nat) := (true, [([], []), ([0], [0]), ([], []), ([2], [2]), ([], []), ([], []), ([4, 5], [4, 5]), ([6], [6]), ([3, 7], [3, 7]), ([8], [8]), ([], []), ([9, 10], [9, 10]), ([11], [11]), ([12], [12]), ([1, 13], [1, 13]), ([0, 1, 2, 3, 4, 5, 6, 7, 8, 9, 10, 11, 12, 13, 14], []), ([15, 14, 14, 0, 1, 2, 3, 4, 5, 6, 7, 8, 9, 10, 11, 12, 13, 14], [14, 15])])
def spec_l20Glued.B22 : List Nat := [0, 1, 0, 4, 0, 0, 48, 112, 252, 508, 0, 2044, 4092, 8188, 16383, 32767, 65535]
theorem spec_l20Glued.tab22 : rtab .any (opsOf Try.f127 22) = spec_l20Glued.T22 := by kernel_rfl
theorem spec_l20Glued.bits22 : waitsOk spec_l20Glued.T22.2 spec_l20Glued.B22 = true := by kernel_rfl
def spec_l20Glued.T28 : Bool × List (List Nat × List Nat) := (true, [([], []), ([0], [0]), ([], []), ([2], [2]), ([], []), ([3, 4], [3, 4]), ([5], [5]), ([6], [6]), ([1, 7], [1, 7]), ([0, 1, 2, 3, 4, 5, 6, 7, 8], []), ([9, 8, 8, 0, 1, 2, 3, 4, 5, 6, 7, 8], [8, 9])])
def spec_l20Glued.B28 : List Nat := [0, 1, 0, 4, 0, 28, 60, 124, 255, 511, 1023]
theorem spec_l20Glued.tab28 : rtab .any (opsOf Try.f127 28) = spec_l20Glued.T28 := by kernel_rfl
theorem spec_l20Glued.bits28 : waitsOk spec_l20Glued.T28.2 spec_l20Glued.B28 = true := by kernel_rfl
set_option maxHeartbeats 8000000 in
set_option maxRecDepth 100000 in
theorem spec_l20Glued.calls (k : Nat) (A0_0 : Option Addr) (c0_0 : Nat) (l0_0 : List (List Int)) (A0_1 : Option Addr) (c0_1 : Nat) (l0_1 : List Int) (A1_0 : Option Addr) (c1_0 : Nat) (l1_0 : List (List Int)) (A1_1 : Option Addr) (c1_1 : Nat) (l1_1 : List Int) (r1 : List (List Int)) (r2 : List Int) (w : World) (hr0_0 : Kd.C (Kd.slice 3 (Kd.int .i64)) w A0_0 l0_0.length l0_0) (hc0_0 : l0_0.length ≤ c0_0) (hr0_1 : Kd.C (Kd.int .i64) w A0_1 l0_1.length l0_1) (hc0_1 : l0_1.length ≤ c0_1) (hr1_0 : Kd.C (Kd.slice 3 (Kd.int .i64)) w A1_0 l1_0.length l1_0) (hc1_0 : l1_0.length ≤ c1_0) (hr1_1 : Kd.C (Kd.int .i64) w A1_1 l1_1.length l1_1) (hc1_1 : l1_1.length ≤ c1_1) (h : spec_l20Glued.f k l0_0 l0_1 l1_0 l1_1 = some (r1, r2)) :
  Calls Try.prog 127 #[.agg #[.slice A0_0 l0_0.length c0_0, .slice A0_1 l0_1.length c0_1], .agg #[.slice A1_0 l1_0.length c1_0, .slice A1_1 l1_1.length c1_1]] w fun e w' => ∃ v0_ v1_ : Value, e = .returned (.agg #[v0_, v1_]) ∧ Kd.S (Kd.slice 3 (Kd.int .i64)) 24 w' w.heap.size (fun k_ => some k_ ≠ (v1_ : Value).ownBlock) v0_ r1 ∧ Kd.R (Kd.int .i64) 3 w' w.heap.size (fun _ => True) v1_ r2 ∧ Below w.heap.size w w' := by
 have hu26:=Try.underlying26;have v2:=zqm hr0_0;have a4l:=zqm hc0_0;clear hr0_0 hc0_0;have v3:=zqm hr0_1;have a4m:=zqm hc0_1;clear hr0_1 hc0_1;have v4:=zqm hr1_0;have a4n:=zqm hc1_0;clear hr1_0 hc1_0;have v5:=zqm hr1_1;have a4o:=zqm hc1_1;clear hr1_1 hc1_1;have HB:=zqm (Below.refl w.heap.size w);have H:(spec_l20Glued.l0 k (l0_1.length:Int) (l1_1.length:Int) 0 l0_0 l0_1 l1_0 l1_1 ([]:List (List Int)) ([]:List Int))=some (r1,r2):=h;clear h;have H':=zqm H;clear H
 go_enter Try.func127,Try.ntmps127
 go_wp2_with (first|((with_reducible refine gate_dst (N:=2) rfl ?_);refine box_event ?hg (N:=2) ?hd (cs:= #[.slice A0_0 l0_0.length c0_0,.slice A0_1 l0_1.length c0_1]) (t:=26) ?hr ?_;(case hd=>rfl);(case hg=>rfl);(case hr=>first|(go_simp;done)|(go_simp;rfl));intro b7 hg w3 hbox hb;have d8:=zqm (below_step zq0 hb);have a2:=zqm (hbox);have a4h:=zqm ((by rw [hg];exact(below_size zq0):w.heap.size≤b7));have b1:=zqm ((by rw [hg];exact(below_size zq0):w.heap.size≤b7));clear HB;have HB:=d8;clear d8 hb hbox hg)|((with_reducible refine gate_dst (N:=3) rfl ?_);refine box_event ?hg (N:=3) ?hd (cs:= #[.slice A1_0 l1_0.length c1_0,.slice A1_1 l1_1.length c1_1]) (t:=26) ?hr ?_;(case hd=>rfl);(case hg=>rfl);(case hr=>first|(go_simp;done)|(go_simp;rfl));intro b8 hg w4 hbox hb;have d8:=zqm (blk_below (g:=b7) (o:= .cells #[.slice A0_0 l0_0.length c0_0,.slice A0_1 l0_1.length c0_1] 26 (0,0)) zq10 hb);have d9:=zqm (below_step zq15 hb);have a4:=zqm (hbox);have a4i:=zqm ((by rw [hg];exact(below_size zq15):w.heap.size≤b8));have b2:=zqm ((by rw [hg];exact(below_size zq15):w.heap.size≤b8));have e7:=zqm ((by rw [hg];exact Nat.ne_of_lt (blk_lt (g:=b7) (o:= .cells #[.slice A0_0 l0_0.length c0_0,.slice A0_1 l0_1.length c0_1] 26 (0,0)) zq10):b7≠b8));have e9:=zqm ((by rw [hg];exact Nat.ne_of_gt (blk_lt (g:=b7) (o:= .cells #[.slice A0_0 l0_0.length c0_0,.slice A0_1 l0_1.length c0_1] 26 (0,0)) zq10):b8≠b7));clear a2 HB;have a2:=d8;have HB:=d9;clear d8 d9 hb hbox hg)|((with_reducible refine gate_dst (N:=4) rfl ?_);refine box_event ?hg (N:=4) ?hd (cs:= #[.slice none 0 0,.slice none 0 0]) (t:=26) ?hr ?_;(case hd=>rfl);(case hg=>rfl);(case hr=>first|(go_simp;done)|(go_simp;rfl));intro b9 hg w5 hbox hb;have d8:=zqm (blk_below (g:=b7) (o:= .cells #[.slice A0_0 l0_0.length c0_0,.slice A0_1 l0_1.length c0_1] 26 (0,0)) zq10 hb);have d9:=zqm (blk_below (g:=b8) (o:= .cells #[.slice A1_0 l1_0.length c1_0,.slice A1_1 l1_1.length c1_1] 26 (0,0)) zq8 hb);have e6:=zqm (below_step zq230 hb);have a7:=zqm (hbox);have a4j:=zqm ((by rw [hg];exact(below_size zq230):w.heap.size≤b9));have b3:=zqm ((by rw [hg];exact(below_size zq230):w.heap.size≤b9));have e8:=zqm ((by rw [hg];exact Nat.ne_of_lt (blk_lt (g:=b7) (o:= .cells #[.slice A0_0 l0_0.length c0_0,.slice A0_1 l0_1.length c0_1] 26 (0,0)) zq10):b7≠b9));have f1:=zqm ((by rw [hg];exact Nat.ne_of_gt (blk_lt (g:=b7) (o:= .cells #[.slice A0_0 l0_0.length c0_0,.slice A0_1 l0_1.length c0_1] 26 (0,0)) zq10):b9≠b7));have f0:=zqm ((by rw [hg];exact Nat.ne_of_lt (blk_lt (g:=b8) (o:= .cells #[.slice A1_0 l1_0.length c1_0,.slice A1_1 l1_1.length c1_1] 26 (0,0)) zq8):b8≠b9));have f2:=zqm ((by rw [hg];exact Nat.ne_of_gt (blk_lt (g:=b8) (o:= .cells #[.slice A1_0 l1_0.length c1_0,.slice A1_1 l1_1.length c1_1] 26 (0,0)) zq8):b9≠b8));clear a2 a4 HB;have a2:=d8;have a4:=d9;have HB:=e6;clear d8 d9 e6 hb hbox hg;have a6l:=e7.out;have a6o:=e9.out;have a6m:=e8.out;have a6p:=f1.out;have a3g:w5.cell? ⟨b7,0,none⟩=some (.slice A0_0 l0_0.length c0_0):=(blk_cell a2.out 0).trans rfl;have a3h:w5.cell? ⟨b7,1,none⟩=some (.slice A0_1 l0_1.length c0_1):=(blk_cell a2.out 1).trans rfl;have a3i:=blk_frozen a2.out 0;have a3j:=blk_frozen a2.out 1;have a6n:=f0.out;have a6q:=f2.out;have a1d:w5.cell? ⟨b8,0,none⟩=some (.slice A1_0 l1_0.length c1_0):=(blk_cell a4.out 0).trans rfl;have a1e:w5.cell? ⟨b8,1,none⟩=some (.slice A1_1 l1_1.length c1_1):=(blk_cell a4.out 1).trans rfl;have a2b:=blk_frozen a4.out 0;have a2c:=blk_frozen a4.out 1)|((with_reducible refine gate_dst (N:=7) rfl ?_);refine box_event ?hg (N:=7) ?hd (cs:= #[.slice none 0 0,.slice none 0 0]) (t:=26) ?hr ?_;(case hd=>rfl);(case hg=>rfl);(case hr=>first|(go_simp;done)|(go_simp;rfl));intro a6 hg y9 hbox hb;have d8:=zqm (blk_below (g:=b7) (o:= .cells #[.slice A0_0 l0_0.length c0_0,.slice A0_1 l0_1.length c0_1] 26 (0,0)) zq10 hb);have d9:=zqm (blk_below (g:=b8) (o:= .cells #[.slice A1_0 l1_0.length c1_0,.slice A1_1 l1_1.length c1_1] 26 (0,0)) zq8 hb);have e6:=zqm (blk_below (g:=b9) (o:= .cells #[.slice none 0 0,.slice none 0 0] 26 (0,0)) zq38 hb);have e0:=zqm (below_step zq143 hb);have a0:=zqm (hbox);have a4k:=zqm ((by rw [hg];exact(below_size zq143):w.heap.size≤a6));have b4:=zqm ((by rw [hg];exact(below_size zq143):w.heap.size≤a6));have c0:=zqm ((by rw [hg];exact Nat.ne_of_lt (blk_lt (g:=b7) (o:= .cells #[.slice A0_0 l0_0.length c0_0,.slice A0_1 l0_1.length c0_1] 26 (0,0)) zq10):b7≠a6));have c5:=zqm ((by rw [hg];exact Nat.ne_of_gt (blk_lt (g:=b7) (o:= .cells #[.slice A0_0 l0_0.length c0_0,.slice A0_1 l0_1.length c0_1] 26 (0,0)) zq10):a6≠b7));have c1:=zqm ((by rw [hg];exact Nat.ne_of_lt (blk_lt (g:=b8) (o:= .cells #[.slice A1_0 l1_0.length c1_0,.slice A1_1 l1_1.length c1_1] 26 (0,0)) zq8):b8≠a6));have c6:=zqm ((by rw [hg];exact Nat.ne_of_gt (blk_lt (g:=b8) (o:= .cells #[.slice A1_0 l1_0.length c1_0,.slice A1_1 l1_1.length c1_1] 26 (0,0)) zq8):a6≠b8));have c2:=zqm ((by rw [hg];exact Nat.ne_of_lt (blk_lt (g:=b9) (o:= .cells #[.slice none 0 0,.slice none 0 0] 26 (0,0)) zq38):b9≠a6));have d1:=zqm ((by rw [hg];exact Nat.ne_of_gt (blk_lt (g:=b9) (o:= .cells #[.slice none 0 0,.slice none 0 0] 26 (0,0)) zq38):a6≠b9));clear a2 a4 a7 HB;have a2:=d8;have a4:=d9;have a7:=e6;have HB:=e0;clear d8 d9 e6 e0 hb hbox hg;have a5b:=c5.out;have a5t:=c0.out;have a5c:=c6.out;have a5u:=c1.out;have a5d:=d1.out;have a5v:=c2.out;have a1f:y9.cell? ⟨a6,0,none⟩=some (.slice none 0 0):=(blk_cell a0.out 0).trans rfl;have a1g:y9.cell? ⟨a6,1,none⟩=some (.slice none 0 0):=(blk_cell a0.out 1).trans rfl;have a2d:=blk_frozen a0.out 0;have a2e:=blk_frozen a0.out 1))
 go_loopg [8] k (fun kq v8 w'=> ∃(a5:Int) (a8:List (List Int)) (a3:List Int) (b0:Value) (a1:Value),v8= .int .i64 a5∧Aside0 (spec_l20Glued.l0 kq (l0_1.length:Int) (l1_1.length:Int) a5 l0_0 l0_1 l1_0 l1_1 a8 a3=some (r1,r2))∧Aside0 (kq≤k)∧Aside0 (Kd.S (Kd.slice 3 (Kd.int .i64)) 24 w' w.heap.size (fun k_=>some k_≠(a1:Value).ownBlock) b0 a8)∧Aside0 (Kd.R (Kd.int .i64) 3 w' w.heap.size (fun _=>True) a1 a3)∧Aside0 (w'.heap[b7]? =some (.cells #[(.slice A0_0 l0_0.length c0_0),(.slice A0_1 l0_1.length c0_1)] 26 (0,0)))∧Aside0 (w'.heap[b8]? =some (.cells #[(.slice A1_0 l1_0.length c1_0),(.slice A1_1 l1_1.length c1_1)] 26 (0,0)))∧Aside0 (w'.heap[b9]? =some (.cells #[(.slice none 0 0),(.slice none 0 0)] 26 (0,0)))∧Aside0 (w'.heap[a6]? =some (.cells #[b0,a1] 26 (0,0)))∧Aside0 (Below w.heap.size w w'))
 case atStart=>exact⟨(0),(([]:List (List Int))),(([]:List Int)),(.slice none 0 0),(.slice none 0 0),(by first|rfl|(simp;done)|(simp [*];done)),H',⟨Nat.le_refl _⟩,⟨zq229⟩,⟨zq133⟩,⟨by(with_reducible repeat(first|refine blk_drewN ?_ _|refine blk_drew ?_|refine blk_alloc ?_ _));refine blk_far ?_ c0.out _;(with_reducible repeat(first|refine blk_drewN ?_ _|refine blk_drew ?_|refine blk_alloc ?_ _));refine blk_far ?_ c0.out _;(with_reducible repeat(first|refine blk_drewN ?_ _|refine blk_drew ?_|refine blk_alloc ?_ _));exact a2.out⟩,⟨zq129⟩,⟨by(with_reducible repeat(first|refine blk_drewN ?_ _|refine blk_drew ?_|refine blk_alloc ?_ _));refine blk_far ?_ c2.out _;(with_reducible repeat(first|refine blk_drewN ?_ _|refine blk_drew ?_|refine blk_alloc ?_ _));refine blk_far ?_ c2.out _;(with_reducible repeat(first|refine blk_drewN ?_ _|refine blk_drew ?_|refine blk_alloc ?_ _));exact a7.out⟩,⟨zq113⟩,⟨zq7⟩⟩
 case round=>
  clear H';obtain⟨a5,a8,a3,b0,a1,rfl,HA,d2,HO_131000,HO_131001,a2,a4,a7,a0,HB⟩:=hrel
  cases gk with
  |zero=>exact absurd HA.out (by simp [spec_l20Glued.l0])
  |succ k1=>
   have H:=HA.out;clear HA;simp only [spec_l20Glued.l0] at H
   by_cases k3:a5<(wrap64 ((wrap64 ((l0_1.length:Int)+(l1_1.length:Int))) - 2))
   ·rw [if_pos k3] at H;have x4:decide (a5<(wrap64 ((wrap64 ((l0_1.length:Int)+(l1_1.length:Int))) - 2)))=true:=decide_eq_true k3;clear k3;obtain⟨t9,f9⟩: ∃y_:List Int,y_=(([]:List Int)):=⟨_,rfl⟩;(replace H:(spec_l20Glued.l1 k1 (l0_1.length:Int) (l1_1.length:Int) a5 t9 0 l0_0 l0_1 l1_0 l1_1 a8 a3)=some (r1,r2):=by first|(rw [f9];with_reducible exact H)|(have c4:=(Option.bind_some _ _).symm.trans H;rw [f9];with_reducible exact c4)|(have c4:=(Option.bind_some _ _).symm.trans H;with_reducible exact c4)|with_reducible exact H|(rw [f9];exact H)|exact H);have p5:=zqm f9;clear f9;have H':=zqm H;clear H
    go_wp2_with (first|((with_reducible refine gate_dst (N:=27) rfl ?_);refine Kd.R_lit (Kd.int .i64) _ 3 ?hg (N:=27) ?hd (xs:=([]:List Int)) (inner:= []) (ok:=fun _=>True) (okp:=fun _=>True) ?hr ?hp (fun _ hk=>hk) trivial (Below.refl _ _) (Nat.le_refl _) (by simp) ?_;(case hd=>rfl);(case hg=>rfl);(case hr=>first|(go_simp;done)|(go_simp;rfl));(case hp=>exact(Reps.none _ _));intro a6r w17 f4 hb hg_ hnew_;clear hg_ hnew_;(first|rw [← p5.out] at f4|(simp only [Int.reduceToNat] at f4;rw [← p5.out] at f4));replace HO_131000:=zqm (Kd.S_elder' zq82 (Kd.R_base f4) hb);have d9:=zqm (Kd.R_elder' zq51 (Kd.R_base f4) hb);have u5:=zqm (Kd.R_lower (Kd.R_new' f4 (Kd.R_lt zq51)) (below_size zq7));replace a2:=zqm (blk_below (g:=b7) (o:= .cells #[.slice A0_0 l0_0.length c0_0,.slice A0_1 l0_1.length c0_1] 26 (0,0)) zq10 hb);replace a4:=zqm (blk_below (g:=b8) (o:= .cells #[.slice A1_0 l1_0.length c1_0,.slice A1_1 l1_1.length c1_1] 26 (0,0)) zq8 hb);replace a7:=zqm (blk_below (g:=b9) (o:= .cells #[.slice none 0 0,.slice none 0 0] 26 (0,0)) zq38 hb);replace a0:=zqm (blk_below (g:=a6) (o:= .cells #[b0,a1] 26 (0,0)) zq2 hb);replace HB:=zqm (below_step zq7 hb);clear HO_131001;have HO_131001:=d9;clear d9 hb f4))
    go_loopg [9,10] k1 (fun kq v9 v10 w'=> ∃(b6:List Int) (a9:Int),v10= .int .i64 a9∧Aside0 (spec_l20Glued.l1 kq (l0_1.length:Int) (l1_1.length:Int) a5 b6 a9 l0_0 l0_1 l1_0 l1_1 a8 a3=some (r1,r2))∧Aside0 (kq≤k1)∧Aside0 (Kd.R (Kd.int .i64) 3 w' w.heap.size (fun k_=>some k_≠(a1:Value).ownBlock) v9 b6)∧Aside0 (Kd.S (Kd.slice 3 (Kd.int .i64)) 24 w' w.heap.size (fun k_=>some k_≠(v9:Value).ownBlock∧some k_≠(a1:Value).ownBlock) b0 a8)∧Aside0 (Kd.R (Kd.int .i64) 3 w' w.heap.size (fun k_=>some k_≠(v9:Value).ownBlock) a1 a3)∧Aside0 (w'.heap[b7]? =some (.cells #[(.slice A0_0 l0_0.length c0_0),(.slice A0_1 l0_1.length c0_1)] 26 (0,0)))∧Aside0 (w'.heap[b8]? =some (.cells #[(.slice A1_0 l1_0.length c1_0),(.slice A1_1 l1_1.length c1_1)] 26 (0,0)))∧Aside0 (w'.heap[b9]? =some (.cells #[(.slice none 0 0),(.slice none 0 0)] 26 (0,0)))∧Aside0 (w'.heap[a6]? =some (.cells #[b0,a1] 26 (0,0)))∧Aside0 (Below w.heap.size w w'))
    case atStart=>exact⟨(t9),(0),(by first|rfl|(simp;done)|(simp [*];done)),H',⟨Nat.le_refl _⟩,⟨by(with_reducible repeat(first|apply Kd.R_alloc|apply Kd.R_drewN|apply Kd.R_drew));exact Kd.R_mono u5.out (fun _ hk=>hk.2)⟩,⟨zq70⟩,⟨zq119⟩,⟨zq10⟩,⟨zq8⟩,⟨zq38⟩,⟨zq2⟩,⟨zq7⟩⟩
    case round=>
     clear H';obtain⟨b6,a9,rfl,HA,d3,HO_9,HO_131000,HO_131001,a2,a4,a7,a0,HB⟩:=hrel
     cases gk with
     |zero=>exact absurd HA.out (by simp [spec_l20Glued.l1])
     |succ k2=>
      have H:=HA.out;clear HA;simp only [spec_l20Glued.l1] at H
      by_cases k4:a9<(wrap64 ((wrap64 ((l0_1.length:Int)+(l1_1.length:Int))) - 2))
      ·rw [if_pos k4] at H;have x5:decide (a9<(wrap64 ((wrap64 ((l0_1.length:Int)+(l1_1.length:Int))) - 2)))=true:=decide_eq_true k4;clear k4;have n2:=zqm H;clear H
       go_upto_region 12 with (fail)
       go_cut [36] (fun v36 wc=> ∃(kq:Nat) (h0:Bool),v36= .bool h0∧Aside0 (spec_l20Glued.j2 kq (l0_1.length:Int) (l1_1.length:Int) a5 b6 a9 0 h0 l0_0 l0_1 l1_0 l1_1 a8 a3=some (r1,r2))∧Aside0 (kq≤k2)∧Aside0 (Kd.R (Kd.int .i64) 3 wc w.heap.size (fun k_=>some k_≠(a1:Value).ownBlock) u9 b6)∧Aside0 (Kd.S (Kd.slice 3 (Kd.int .i64)) 24 wc w.heap.size (fun k_=>some k_≠(u9:Value).ownBlock∧some k_≠(a1:Value).ownBlock) b0 a8)∧Aside0 (Kd.R (Kd.int .i64) 3 wc w.heap.size (fun k_=>some k_≠(u9:Value).ownBlock) a1 a3)∧Aside0 (wc.heap[b7]? =some (.cells #[(.slice A0_0 l0_0.length c0_0),(.slice A0_1 l0_1.length c0_1)] 26 (0,0)))∧Aside0 (wc.heap[b8]? =some (.cells #[(.slice A1_0 l1_0.length c1_0),(.slice A1_1 l1_1.length c1_1)] 26 (0,0)))∧Aside0 (wc.heap[b9]? =some (.cells #[(.slice none 0 0),(.slice none 0 0)] 26 (0,0)))∧Aside0 (wc.heap[a6]? =some (.cells #[b0,a1] 26 (0,0)))∧Aside0 (Below w.heap.size w wc))
       case first=>
        have H:=n2.out;clear n2
        by_cases i6:a5=0
        ·rw [if_pos i6] at H;have f6:(a5==0)=true:=beq_iff_eq.mpr i6;have x6:(a5 !=0)=false:=bne_eq_false_iff_eq.mpr i6;clear i6;(first|rw [f6]|(simp only [i64_w,i32_w];rw [f6])|skip);have H':=zqm H;clear H
         go_wp2
         go_meet
         case rel=>exact⟨_,(true),(by first|rfl|(simp;done)|(simp [*];done)),H',⟨by have:=d2.out;have:=d3.out;first|omega|exact Nat.le_refl _⟩,⟨zq79⟩,⟨zq82⟩,⟨zq51⟩,⟨zq10⟩,⟨zq8⟩,⟨zq38⟩,⟨zq2⟩,⟨zq7⟩⟩
        ·rw [if_neg i6] at H;have f6:(a5==0)=false:=beq_eq_false_iff_ne.mpr i6;have x6:(a5 !=0)=true:=bne_iff_ne.mpr i6;(first|rw [f6]|(simp only [i64_w,i32_w];rw [f6])|skip);have H':=zqm H;clear H
         go_wp2
         go_meet
         case rel=>exact⟨_,((a9==(wrap64 ((wrap64 ((l0_1.length:Int)+(l1_1.length:Int))) - 3)))),(by first|rfl|(simp;done)|(simp [*];done)),H',⟨by have:=d2.out;have:=d3.out;first|omega|exact Nat.le_refl _⟩,⟨zq79⟩,⟨zq82⟩,⟨zq51⟩,⟨zq10⟩,⟨zq8⟩,⟨zq38⟩,⟨zq2⟩,⟨zq7⟩⟩
       case rest=>
        clear n2;obtain⟨kq,h0,rfl,HA,d6,HO_9,HO_131000,HO_131001,a2,a4,a7,a0,HB⟩:=hcut
        cases kq with
        |zero=>exact absurd HA.out (by simp [spec_l20Glued.j2])
        |succ i2=>
         have H:=HA.out;clear HA;simp only [spec_l20Glued.j2] at H
         by_cases p6:h0=true
         ·subst p6;(have H1:(if b6.length<17592186044416 then(spec_l20Glued.l1 i2 (l0_1.length:Int) (l1_1.length:Int) a5 (b6 ++ [1]) (wrap64 (a9+1)) l0_0 l0_1 l1_0 l1_1 a8 a3) else(none))=some (r1,r2):=by rw [if_pos rfl] at H;exact H);clear H;have H:=H1;clear H1
          by_cases p7:b6.length<17592186044416
          ·rw [if_pos p7] at H;have LMc23:=zqm p7;clear p7;obtain⟨u0,g0⟩: ∃y_:List Int,y_=(b6 ++ [1]):=⟨_,rfl⟩;(replace H:(spec_l20Glued.l1 i2 (l0_1.length:Int) (l1_1.length:Int) a5 u0 (wrap64 (a9+1)) l0_0 l0_1 l1_0 l1_1 a8 a3)=some (r1,r2):=by first|(rw [g0];with_reducible exact H)|(have c4:=(Option.bind_some _ _).symm.trans H;rw [g0];with_reducible exact c4)|(have c4:=(Option.bind_some _ _).symm.trans H;with_reducible exact c4)|with_reducible exact H|(rw [g0];exact H)|exact H);have v6:=zqm g0;clear g0;have H':=zqm H;clear H
           go_wp2_with (first|((with_reducible refine gate_builtin (b:= .append) (xs:= #[.tmp 103,.tmp 105]) rfl ?_);at_builtin;refine Kd.R_append (Kd.int .i64) (w0:=w) w.heap.size rfl (.tmp 103) (.tmp 105) 24 3 (.int .i64 0) 8 rfl Try.underlying24 info3 rfl (by decide) (by omega) u9 b6 1 [.int .i64 1] (fun k_=>some k_≠(a1:Value).ownBlock) (fun _=>False) rfl rfl ?aP (fun _ hk=>hk.elim) ?aF ?aO ?aB ?aS ?aL ?_;(case aP=>exact rfl);(case aB=> exact zq41);(case aF=> exact zq74);(case aO=> exact zq139);(case aS=> exact zq34);(case aL=>have:=LMc23.out;omega);intro a6s w24 ho hb hg hat;rw [← v6.out] at ho;replace HO_131000:=zqm (Kd.S_after (ok:=(fun k_=>some k_≠(a1:Value).ownBlock)) zq70 hg hat);replace HO_131001:=zqm (Kd.R_after (ok:=(fun _=>True)) zq130 hg hat);replace a2:=zqm (blk_grown (g:=b7) (o:= .cells #[.slice A0_0 l0_0.length c0_0,.slice A0_1 l0_1.length c0_1] 26 (0,0)) zq10 hg (Kd.R_ne HO_9.out a2.out (by decide)));replace a4:=zqm (blk_grown (g:=b8) (o:= .cells #[.slice A1_0 l1_0.length c1_0,.slice A1_1 l1_1.length c1_1] 26 (0,0)) zq8 hg (Kd.R_ne HO_9.out a4.out (by decide)));replace a7:=zqm (blk_grown (g:=b9) (o:= .cells #[.slice none 0 0,.slice none 0 0] 26 (0,0)) zq38 hg (Kd.R_ne HO_9.out a7.out (by decide)));replace a0:=zqm (blk_grown (g:=a6) (o:= .cells #[b0,a1] 26 (0,0)) zq2 hg (Kd.R_ne HO_9.out a0.out (by decide)));replace HB:=zqm (hb);have u6:=zqm (ho);clear HO_9;clear ho hb hg hat))
           go_roundg i2
           (case measure=>have:=d2.out;have:=d3.out;have:=d6.out;omega);case rel=>exact⟨(u0),(wrap64 (a9+1)),(by first|rfl|(simp;done)|(simp [*];done)),H',⟨by have:=d2.out;have:=d3.out;have:=d6.out;omega⟩,⟨by(with_reducible repeat(first|apply Kd.R_alloc|apply Kd.R_drewN|apply Kd.R_drew));exact u6.out⟩,⟨zq70⟩,⟨zq119⟩,⟨zq10⟩,⟨zq8⟩,⟨zq38⟩,⟨zq2⟩,⟨zq7⟩⟩
          ·rw [if_neg p7] at H;exact absurd H (by simp)
         ·replace p6:=Bool.eq_false_iff.mpr p6;subst p6;(have H1:(if a5<(wrap64 ((l0_1.length:Int) - 1)) then(spec_l20Glued.j3 i2 (l0_1.length:Int) (l1_1.length:Int) a5 b6 a9 0 (decide (a9<(wrap64 ((l0_1.length:Int) - 1)))) l0_0 l0_1 l1_0 l1_1 a8 a3) else(spec_l20Glued.j3 i2 (l0_1.length:Int) (l1_1.length:Int) a5 b6 a9 0 false l0_0 l0_1 l1_0 l1_1 a8 a3))=some (r1,r2):=by rw [if_neg (show¬(false=true) by decide)] at H;exact H);clear H;have H:=H1;clear H1;have n3:=zqm H;clear H
          go_upto_region 14 with (fail)
          go_cut [47] (fun v47 wc=> ∃(kq:Nat) (h1:Bool),v47= .bool h1∧Aside0 (spec_l20Glued.j3 kq (l0_1.length:Int) (l1_1.length:Int) a5 b6 a9 0 h1 l0_0 l0_1 l1_0 l1_1 a8 a3=some (r1,r2))∧Aside0 (kq≤i2)∧Aside0 (Kd.R (Kd.int .i64) 3 wc w.heap.size (fun k_=>some k_≠(a1:Value).ownBlock) u9 b6)∧Aside0 (Kd.S (Kd.slice 3 (Kd.int .i64)) 24 wc w.heap.size (fun k_=>some k_≠(u9:Value).ownBlock∧some k_≠(a1:Value).ownBlock) b0 a8)∧Aside0 (Kd.R (Kd.int .i64) 3 wc w.heap.size (fun k_=>some k_≠(u9:Value).ownBlock) a1 a3)∧Aside0 (wc.heap[b7]? =some (.cells #[(.slice A0_0 l0_0.length c0_0),(.slice A0_1 l0_1.length c0_1)] 26 (0,0)))∧Aside0 (wc.heap[b8]? =some (.cells #[(.slice A1_0 l1_0.length c1_0),(.slice A1_1 l1_1.length c1_1)] 26 (0,0)))∧Aside0 (wc.heap[b9]? =some (.cells #[(.slice none 0 0),(.slice none 0 0)] 26 (0,0)))∧Aside0 (wc.heap[a6]? =some (.cells #[b0,a1] 26 (0,0)))∧Aside0 (Below w.heap.size w wc))
          case first=>
           have H:=n3.out;clear n3
           by_cases k5:a5<(wrap64 ((l0_1.length:Int) - 1))
           ·rw [if_pos k5] at H;have f7:decide (a5<(wrap64 ((l0_1.length:Int) - 1)))=true:=decide_eq_true k5;clear k5;(first|rw [f7]|(simp only [i64_w,i32_w];rw [f7])|skip);have H':=zqm H;clear H
            go_wp2
            go_meet
            case rel=>exact⟨_,(decide (a9<(wrap64 ((l0_1.length:Int) - 1)))),(by first|rfl|(simp;done)|(simp [*];done)),H',⟨zq336⟩,⟨zq79⟩,⟨zq82⟩,⟨zq51⟩,⟨zq10⟩,⟨zq8⟩,⟨zq38⟩,⟨zq2⟩,⟨zq7⟩⟩
           ·rw [if_neg k5] at H;have f7:decide (a5<(wrap64 ((l0_1.length:Int) - 1)))=false:=decide_eq_false k5;clear k5;(first|rw [f7]|(simp only [i64_w,i32_w];rw [f7])|skip);have H':=zqm H;clear H
            go_wp2
            go_meet
            case rel=>exact⟨_,(false),(by first|rfl|(simp;done)|(simp [*];done)),H',⟨zq336⟩,⟨zq79⟩,⟨zq82⟩,⟨zq51⟩,⟨zq10⟩,⟨zq8⟩,⟨zq38⟩,⟨zq2⟩,⟨zq7⟩⟩
          case rest=>
           clear n3;obtain⟨kq,h1,rfl,HA,e1,HO_9,HO_131000,HO_131001,a2,a4,a7,a0,HB⟩:=hcut
           cases kq with
           |zero=>exact absurd HA.out (by simp [spec_l20Glued.j3])
           |succ f5=>
            have H:=HA.out;clear HA;simp only [spec_l20Glued.j3] at H
            by_cases p8:h1=true
            ·subst p8;(have H1:(if 0≤a5 then(if a5<(l0_0.length:Int) then(if 0≤a9 then(if a9<((rd_L2 l0_0 a5).length:Int) then(if b6.length<17592186044416 then(spec_l20Glued.l1 f5 (l0_1.length:Int) (l1_1.length:Int) a5 (b6 ++ [rd (rd_L2 l0_0 a5) a9]) (wrap64 (a9+1)) l0_0 l0_1 l1_0 l1_1 a8 a3) else(none)) else(none)) else(none)) else(none)) else(none))=some (r1,r2):=by rw [if_pos rfl] at H;exact H);clear H;have H:=H1;clear H1
             by_cases p9:0≤a5
             ·rw [if_pos p9] at H;have a4r:decide (0≤a5)=true:=decide_eq_true p9;clear p9
              by_cases q0:a5<(l0_0.length:Int)
              ·rw [if_pos q0] at H;have a4s:decide (a5<(l0_0.length:Int))=true:=decide_eq_true q0;clear q0
               by_cases q1:0≤a9
               ·rw [if_pos q1] at H;have a4t:decide (0≤a9)=true:=decide_eq_true q1;clear q1
                by_cases q2:a9<((rd_L2 l0_0 a5).length:Int)
                ·rw [if_pos q2] at H;have a4u:decide (a9<((rd_L2 l0_0 a5).length:Int))=true:=decide_eq_true q2;clear q2
                 by_cases q3:b6.length<17592186044416
                 ·rw [if_pos q3] at H;have LMc32:=zqm q3;clear q3;obtain⟨u1,g1⟩: ∃y_:List Int,y_=(b6 ++ [rd (rd_L2 l0_0 a5) a9]):=⟨_,rfl⟩;(replace H:(spec_l20Glued.l1 f5 (l0_1.length:Int) (l1_1.length:Int) a5 u1 (wrap64 (a9+1)) l0_0 l0_1 l1_0 l1_1 a8 a3)=some (r1,r2):=by first|(rw [g1];with_reducible exact H)|(have c4:=(Option.bind_some _ _).symm.trans H;rw [g1];with_reducible exact c4)|(have c4:=(Option.bind_some _ _).symm.trans H;with_reducible exact c4)|with_reducible exact H|(rw [g1];exact H)|exact H);have v7:=zqm g1;clear g1;have H':=zqm H;clear H;have a5e:=e7.out;have a5w:=e9.out;have a5f:=e8.out;have a5x:=f1.out;have a5g:=c0.out;have a5y:=c5.out;have a1h:wc.cell? ⟨b7,0,none⟩=some (.slice A0_0 l0_0.length c0_0):=(blk_cell a2.out 0).trans rfl;have a1i:wc.cell? ⟨b7,1,none⟩=some (.slice A0_1 l0_1.length c0_1):=(blk_cell a2.out 1).trans rfl;have a2f:=blk_frozen a2.out 0;have a2g:=blk_frozen a2.out 1;have n7:0≤(a5:Int):=zqo;have o3:a5<(l0_0.length:Int):=zqo;obtain⟨x2,a3a,a3e,z4,h8,l3,k9⟩:=at_L2 v2.out a5 n7 o3
                  cases z4
                  replace h8:=(HB.out.cell (World.block_lt_of_cell? w _ h8)).trans h8;have s8:=zqm k9;have a1b:=zqm l3;clear k9 l3;replace n7:=eq_true n7;replace o3:=eq_true o3;have n8:0≤(a9:Int):=zqo;have o4:a9<((rd_L2 l0_0 a5).length:Int):=zqo;obtain⟨a4p,z5,h9⟩:=Kd.at_int s8.out a9 n8 o4
                  cases z5
                  replace h9:=(HB.out.cell (World.block_lt_of_cell? w _ h9)).trans h9;replace n8:=eq_true n8;replace o4:=eq_true o4
                  go_wp2_with (first|((with_reducible refine gate_builtin (b:= .append) (xs:= #[.tmp 103,.tmp 105]) rfl ?_);at_builtin;refine Kd.R_append (Kd.int .i64) (w0:=w) w.heap.size rfl (.tmp 103) (.tmp 105) 24 3 (.int .i64 0) 8 rfl Try.underlying24 info3 rfl (by decide) (by omega) u9 b6 (rd (rd_L2 l0_0 a5) a9) [.int .i64 (rd (rd_L2 l0_0 a5) a9)] (fun k_=>some k_≠(a1:Value).ownBlock) (fun _=>False) rfl rfl ?aP (fun _ hk=>hk.elim) ?aF ?aO ?aB ?aS ?aL ?_;(case aP=>exact rfl);(case aB=> exact zq41);(case aF=> exact zq74);(case aO=> exact zq139);(case aS=> exact zq34);(case aL=>have:=LMc32.out;omega);intro a6t w37 ho hb hg hat;rw [← v7.out] at ho;replace HO_131000:=zqm (Kd.S_after (ok:=(fun k_=>some k_≠(a1:Value).ownBlock)) zq70 hg hat);replace HO_131001:=zqm (Kd.R_after (ok:=(fun _=>True)) zq130 hg hat);replace a2:=zqm (blk_grown (g:=b7) (o:= .cells #[.slice (some x2) l0_0.length c0_0,.slice A0_1 l0_1.length c0_1] 26 (0,0)) zq10 hg (Kd.R_ne HO_9.out a2.out (by decide)));replace a4:=zqm (blk_grown (g:=b8) (o:= .cells #[.slice A1_0 l1_0.length c1_0,.slice A1_1 l1_1.length c1_1] 26 (0,0)) zq8 hg (Kd.R_ne HO_9.out a4.out (by decide)));replace a7:=zqm (blk_grown (g:=b9) (o:= .cells #[.slice none 0 0,.slice none 0 0] 26 (0,0)) zq38 hg (Kd.R_ne HO_9.out a7.out (by decide)));replace a0:=zqm (blk_grown (g:=a6) (o:= .cells #[b0,a1] 26 (0,0)) zq2 hg (Kd.R_ne HO_9.out a0.out (by decide)));replace HB:=zqm (hb);have u7:=zqm (ho);clear HO_9;clear ho hb hg hat))
                  go_roundg f5
                  (case measure=>have:=d2.out;have:=d3.out;have:=d6.out;have:=e1.out;omega);case rel=>exact⟨(u1),(wrap64 (a9+1)),(by first|rfl|(simp;done)|(simp [*];done)),H',⟨by have:=d2.out;have:=d3.out;have:=d6.out;have:=e1.out;omega⟩,⟨by(with_reducible repeat(first|apply Kd.R_alloc|apply Kd.R_drewN|apply Kd.R_drew));exact u7.out⟩,⟨zq70⟩,⟨zq119⟩,⟨zq10⟩,⟨zq8⟩,⟨zq38⟩,⟨zq2⟩,⟨zq7⟩⟩
                 ·rw [if_neg q3] at H;exact absurd H (by simp)
                ·rw [if_neg q2] at H;exact absurd H (by simp)
               ·rw [if_neg q1] at H;exact absurd H (by simp)
              ·rw [if_neg q0] at H;exact absurd H (by simp)
             ·rw [if_neg p9] at H;exact absurd H (by simp)
            ·replace p8:=Bool.eq_false_iff.mpr p8;subst p8;(have H1:(if a5≥(wrap64 ((l0_1.length:Int) - 1)) then(if a9≥(wrap64 ((l0_1.length:Int) - 1)) then(spec_l20Glued.j4 f5 (l0_1.length:Int) (l1_1.length:Int) a5 b6 a9 0 (decide (a5<(wrap64 ((wrap64 ((l0_1.length:Int)+(l1_1.length:Int))) - 3)))) l0_0 l0_1 l1_0 l1_1 a8 a3) else(spec_l20Glued.j4 f5 (l0_1.length:Int) (l1_1.length:Int) a5 b6 a9 0 false l0_0 l0_1 l1_0 l1_1 a8 a3)) else(spec_l20Glued.j4 f5 (l0_1.length:Int) (l1_1.length:Int) a5 b6 a9 0 false l0_0 l0_1 l1_0 l1_1 a8 a3))=some (r1,r2):=by rw [if_neg (show¬(false=true) by decide)] at H;exact H);clear H;have H:=H1;clear H1;have n4:=zqm H;clear H
             go_upto_region 16 with (fail)
             go_cut [66] (fun v66 wc=> ∃(kq:Nat) (h2:Bool),v66= .bool h2∧Aside0 (spec_l20Glued.j4 kq (l0_1.length:Int) (l1_1.length:Int) a5 b6 a9 0 h2 l0_0 l0_1 l1_0 l1_1 a8 a3=some (r1,r2))∧Aside0 (kq≤f5)∧Aside0 (Kd.R (Kd.int .i64) 3 wc w.heap.size (fun k_=>some k_≠(a1:Value).ownBlock) u9 b6)∧Aside0 (Kd.S (Kd.slice 3 (Kd.int .i64)) 24 wc w.heap.size (fun k_=>some k_≠(u9:Value).ownBlock∧some k_≠(a1:Value).ownBlock) b0 a8)∧Aside0 (Kd.R (Kd.int .i64) 3 wc w.heap.size (fun k_=>some k_≠(u9:Value).ownBlock) a1 a3)∧Aside0 (wc.heap[b7]? =some (.cells #[(.slice A0_0 l0_0.length c0_0),(.slice A0_1 l0_1.length c0_1)] 26 (0,0)))∧Aside0 (wc.heap[b8]? =some (.cells #[(.slice A1_0 l1_0.length c1_0),(.slice A1_1 l1_1.length c1_1)] 26 (0,0)))∧Aside0 (wc.heap[b9]? =some (.cells #[(.slice none 0 0),(.slice none 0 0)] 26 (0,0)))∧Aside0 (wc.heap[a6]? =some (.cells #[b0,a1] 26 (0,0)))∧Aside0 (Below w.heap.size w wc))
             case first=>
              have H:=n4.out;clear n4
              by_cases k6:a5≥(wrap64 ((l0_1.length:Int) - 1))
              ·rw [if_pos k6] at H;have f8:decide ((wrap64 ((l0_1.length:Int) - 1))≤a5)=true:=decide_eq_true k6;clear k6;(first|rw [f8]|(simp only [i64_w,i32_w];rw [f8])|skip)
               by_cases k7:a9≥(wrap64 ((l0_1.length:Int) - 1))
               ·rw [if_pos k7] at H;have x7:decide ((wrap64 ((l0_1.length:Int) - 1))≤a9)=true:=decide_eq_true k7;clear k7;have H':=zqm H;clear H
                go_wp2
                go_meet
                case rel=>exact⟨_,(decide (a5<(wrap64 ((wrap64 ((l0_1.length:Int)+(l1_1.length:Int))) - 3)))),(by first|rfl|(simp;done)|(simp [*];done)),H',⟨zq302⟩,⟨zq79⟩,⟨zq82⟩,⟨zq51⟩,⟨zq10⟩,⟨zq8⟩,⟨zq38⟩,⟨zq2⟩,⟨zq7⟩⟩
               ·rw [if_neg k7] at H;have x7:decide ((wrap64 ((l0_1.length:Int) - 1))≤a9)=false:=decide_eq_false k7;clear k7;have H':=zqm H;clear H
                go_wp2
                go_meet
                case rel=>exact⟨_,(false),(by first|rfl|(simp;done)|(simp [*];done)),H',⟨zq302⟩,⟨zq79⟩,⟨zq82⟩,⟨zq51⟩,⟨zq10⟩,⟨zq8⟩,⟨zq38⟩,⟨zq2⟩,⟨zq7⟩⟩
              ·rw [if_neg k6] at H;have f8:decide ((wrap64 ((l0_1.length:Int) - 1))≤a5)=false:=decide_eq_false k6;clear k6;(first|rw [f8]|(simp only [i64_w,i32_w];rw [f8])|skip);have H':=zqm H;clear H
               go_wp2
               go_meet
               case rel=>exact⟨_,(false),(by first|rfl|(simp;done)|(simp [*];done)),H',⟨zq302⟩,⟨zq79⟩,⟨zq82⟩,⟨zq51⟩,⟨zq10⟩,⟨zq8⟩,⟨zq38⟩,⟨zq2⟩,⟨zq7⟩⟩
             case rest=>
              clear n4;obtain⟨kq,h2,rfl,HA,h5,HO_9,HO_131000,HO_131001,a2,a4,a7,a0,HB⟩:=hcut
              cases kq with
              |zero=>exact absurd HA.out (by simp [spec_l20Glued.j4])
              |succ e2=>
               have H:=HA.out;clear HA;simp only [spec_l20Glued.j4] at H
               by_cases q4:h2=true
               ·subst q4;(have H1:(if 0≤(wrap64 ((wrap64 (a5 - (l0_1.length:Int)))+2)) then(if(wrap64 ((wrap64 (a5 - (l0_1.length:Int)))+2))<(l1_0.length:Int) then(if 0≤(wrap64 ((wrap64 (a9 - (l0_1.length:Int)))+2)) then(if(wrap64 ((wrap64 (a9 - (l0_1.length:Int)))+2))<((rd_L2 l1_0 (wrap64 ((wrap64 (a5 - (l0_1.length:Int)))+2))).length:Int) then(if b6.length<17592186044416 then(spec_l20Glued.l1 e2 (l0_1.length:Int) (l1_1.length:Int) a5 (b6 ++ [rd (rd_L2 l1_0 (wrap64 ((wrap64 (a5 - (l0_1.length:Int)))+2))) (wrap64 ((wrap64 (a9 - (l0_1.length:Int)))+2))]) (wrap64 (a9+1)) l0_0 l0_1 l1_0 l1_1 a8 a3) else(none)) else(none)) else(none)) else(none)) else(none))=some (r1,r2):=by rw [if_pos rfl] at H;exact H);clear H;have H:=H1;clear H1;obtain⟨d0,m6⟩: ∃j_:Int,(wrap64 ((wrap64 (a5 - (l0_1.length:Int)))+2))=j_:=⟨_,rfl⟩;(replace H:(if 0≤(d0) then(if(d0)<(l1_0.length:Int) then(if 0≤(wrap64 ((wrap64 (a9 - (l0_1.length:Int)))+2)) then(if(wrap64 ((wrap64 (a9 - (l0_1.length:Int)))+2))<((rd_L2 l1_0 (d0)).length:Int) then(if b6.length<17592186044416 then(spec_l20Glued.l1 e2 (l0_1.length:Int) (l1_1.length:Int) a5 (b6 ++ [rd (rd_L2 l1_0 (d0)) (wrap64 ((wrap64 (a9 - (l0_1.length:Int)))+2))]) (wrap64 (a9+1)) l0_0 l0_1 l1_0 l1_1 a8 a3) else(none)) else(none)) else(none)) else(none)) else(none))=some (r1,r2):=by first|(rw [m6] at H;exact H)|(simp only [m6] at H ⊢;exact H));have a3k:(IntKind.i64.wrap ((wrap64 (a5 - (l0_1.length:Int)))+2))=d0:=(i64_w _).trans m6
                by_cases q5:0≤(d0)
                ·rw [if_pos q5] at H;have a4v:decide (0≤(d0))=true:=decide_eq_true q5;clear q5
                 by_cases q6:(d0)<(l1_0.length:Int)
                 ·rw [if_pos q6] at H;have a4w:decide ((d0)<(l1_0.length:Int))=true:=decide_eq_true q6;clear q6;obtain⟨d7,m7⟩: ∃j_:Int,(wrap64 ((wrap64 (a9 - (l0_1.length:Int)))+2))=j_:=⟨_,rfl⟩;(replace H:(if 0≤(d7) then(if(d7)<((rd_L2 l1_0 (d0)).length:Int) then(if b6.length<17592186044416 then(spec_l20Glued.l1 e2 (l0_1.length:Int) (l1_1.length:Int) a5 (b6 ++ [rd (rd_L2 l1_0 (d0)) (d7)]) (wrap64 (a9+1)) l0_0 l0_1 l1_0 l1_1 a8 a3) else(none)) else(none)) else(none))=some (r1,r2):=by first|(rw [m7] at H;exact H)|(simp only [m7] at H ⊢;exact H));have a3l:(IntKind.i64.wrap ((wrap64 (a9 - (l0_1.length:Int)))+2))=d7:=(i64_w _).trans m7
                  by_cases q7:0≤(d7)
                  ·rw [if_pos q7] at H;have a4x:decide (0≤(d7))=true:=decide_eq_true q7;clear q7
                   by_cases q8:(d7)<((rd_L2 l1_0 (d0)).length:Int)
                   ·rw [if_pos q8] at H;have a4y:decide ((d7)<((rd_L2 l1_0 (d0)).length:Int))=true:=decide_eq_true q8;clear q8
                    by_cases q9:b6.length<17592186044416
                    ·rw [if_pos q9] at H;have LMc48:=zqm q9;clear q9;obtain⟨u2,g2⟩: ∃y_:List Int,y_=(b6 ++ [rd (rd_L2 l1_0 (d0)) (d7)]):=⟨_,rfl⟩;(replace H:(spec_l20Glued.l1 e2 (l0_1.length:Int) (l1_1.length:Int) a5 u2 (wrap64 (a9+1)) l0_0 l0_1 l1_0 l1_1 a8 a3)=some (r1,r2):=by first|(rw [g2];with_reducible exact H)|(have c4:=(Option.bind_some _ _).symm.trans H;rw [g2];with_reducible exact c4)|(have c4:=(Option.bind_some _ _).symm.trans H;with_reducible exact c4)|with_reducible exact H|(rw [g2];exact H)|exact H);have w2:=zqm g2;clear g2;have H':=zqm H;clear H;have a5h:=e9.out;have a5z:=e7.out;have a5i:=f0.out;have a6a:=f2.out;have a5j:=c1.out;have a6b:=c6.out;have a1j:wc.cell? ⟨b8,0,none⟩=some (.slice A1_0 l1_0.length c1_0):=(blk_cell a4.out 0).trans rfl;have a1k:wc.cell? ⟨b8,1,none⟩=some (.slice A1_1 l1_1.length c1_1):=(blk_cell a4.out 1).trans rfl;have a2h:=blk_frozen a4.out 0;have a2i:=blk_frozen a4.out 1;have n9:0≤((d0):Int):=zqo;have o5:(d0)<(l1_0.length:Int):=zqo;obtain⟨x3,a3b,a3f,z6,i0,l4,l2⟩:=at_L2 v4.out (d0) n9 o5
                     cases z6
                     replace i0:=(HB.out.cell (World.block_lt_of_cell? w _ i0)).trans i0;have s9:=zqm l2;have a1c:=zqm l4;clear l2 l4;replace n9:=eq_true n9;replace o5:=eq_true o5;have o0:0≤((d7):Int):=zqo;have o6:(d7)<((rd_L2 l1_0 (d0)).length:Int):=zqo;obtain⟨a4q,z7,i1⟩:=Kd.at_int s9.out (d7) o0 o6
                     cases z7
                     replace i1:=(HB.out.cell (World.block_lt_of_cell? w _ i1)).trans i1;replace o0:=eq_true o0;replace o6:=eq_true o6
                     go_wp2_with (first|((with_reducible refine gate_builtin (b:= .append) (xs:= #[.tmp 103,.tmp 105]) rfl ?_);at_builtin;refine Kd.R_append (Kd.int .i64) (w0:=w) w.heap.size rfl (.tmp 103) (.tmp 105) 24 3 (.int .i64 0) 8 rfl Try.underlying24 info3 rfl (by decide) (by omega) u9 b6 (rd (rd_L2 l1_0 (d0)) (d7)) [.int .i64 (rd (rd_L2 l1_0 (d0)) (d7))] (fun k_=>some k_≠(a1:Value).ownBlock) (fun _=>False) rfl rfl ?aP (fun _ hk=>hk.elim) ?aF ?aO ?aB ?aS ?aL ?_;(case aP=>exact rfl);(case aB=> exact zq41);(case aF=> exact zq74);(case aO=> exact zq139);(case aS=> exact zq34);(case aL=>have:=LMc48.out;omega);intro a6u w53 ho hb hg hat;rw [← w2.out] at ho;replace HO_131000:=zqm (Kd.S_after (ok:=(fun k_=>some k_≠(a1:Value).ownBlock)) zq70 hg hat);replace HO_131001:=zqm (Kd.R_after (ok:=(fun _=>True)) zq130 hg hat);replace a2:=zqm (blk_grown (g:=b7) (o:= .cells #[.slice A0_0 l0_0.length c0_0,.slice A0_1 l0_1.length c0_1] 26 (0,0)) zq10 hg (Kd.R_ne HO_9.out a2.out (by decide)));replace a4:=zqm (blk_grown (g:=b8) (o:= .cells #[.slice (some x3) l1_0.length c1_0,.slice A1_1 l1_1.length c1_1] 26 (0,0)) zq8 hg (Kd.R_ne HO_9.out a4.out (by decide)));replace a7:=zqm (blk_grown (g:=b9) (o:= .cells #[.slice none 0 0,.slice none 0 0] 26 (0,0)) zq38 hg (Kd.R_ne HO_9.out a7.out (by decide)));replace a0:=zqm (blk_grown (g:=a6) (o:= .cells #[b0,a1] 26 (0,0)) zq2 hg (Kd.R_ne HO_9.out a0.out (by decide)));replace HB:=zqm (hb);have u8:=zqm (ho);clear HO_9;clear ho hb hg hat))
                     go_roundg e2
                     (case measure=> exact zq249);case rel=>exact⟨(u2),(wrap64 (a9+1)),(by first|rfl|(simp;done)|(simp [*];done)),H',⟨zq249⟩,⟨by(with_reducible repeat(first|apply Kd.R_alloc|apply Kd.R_drewN|apply Kd.R_drew));exact u8.out⟩,⟨zq70⟩,⟨zq119⟩,⟨zq10⟩,⟨zq8⟩,⟨zq38⟩,⟨zq2⟩,⟨zq7⟩⟩
                    ·rw [if_neg q9] at H;exact absurd H (by simp)
                   ·rw [if_neg q8] at H;exact absurd H (by simp)
                  ·rw [if_neg q7] at H;exact absurd H (by simp)
                 ·rw [if_neg q6] at H;exact absurd H (by simp)
                ·rw [if_neg q5] at H;exact absurd H (by simp)
               ·replace q4:=Bool.eq_false_iff.mpr q4;subst q4;(have H1:(if a5=a9 then(if b6.length<17592186044416 then(spec_l20Glued.l1 e2 (l0_1.length:Int) (l1_1.length:Int) a5 (b6 ++ [1]) (wrap64 (a9+1)) l0_0 l0_1 l1_0 l1_1 a8 a3) else(none)) else(if b6.length<17592186044416 then(spec_l20Glued.l1 e2 (l0_1.length:Int) (l1_1.length:Int) a5 (b6 ++ [0]) (wrap64 (a9+1)) l0_0 l0_1 l1_0 l1_1 a8 a3) else(none)))=some (r1,r2):=by rw [if_neg (show¬(false=true) by decide)] at H;exact H);clear H;have H:=H1;clear H1
                by_cases i7:a5=a9
                ·rw [if_pos i7] at H;have x8:(a5==a9)=true:=beq_iff_eq.mpr i7;have x9:(a5 !=a9)=false:=bne_eq_false_iff_eq.mpr i7;clear i7
                 by_cases r0:b6.length<17592186044416
                 ·rw [if_pos r0] at H;have LMc55:=zqm r0;clear r0;obtain⟨u3,g3⟩: ∃y_:List Int,y_=(b6 ++ [1]):=⟨_,rfl⟩;(replace H:(spec_l20Glued.l1 e2 (l0_1.length:Int) (l1_1.length:Int) a5 u3 (wrap64 (a9+1)) l0_0 l0_1 l1_0 l1_1 a8 a3)=some (r1,r2):=by first|(rw [g3];with_reducible exact H)|(have c4:=(Option.bind_some _ _).symm.trans H;rw [g3];with_reducible exact c4)|(have c4:=(Option.bind_some _ _).symm.trans H;with_reducible exact c4)|with_reducible exact H|(rw [g3];exact H)|exact H);have w6:=zqm g3;clear g3;have H':=zqm H;clear H
                  go_wp2_with (first|((with_reducible refine gate_builtin (b:= .append) (xs:= #[.tmp 103,.tmp 105]) rfl ?_);at_builtin;refine Kd.R_append (Kd.int .i64) (w0:=w) w.heap.size rfl (.tmp 103) (.tmp 105) 24 3 (.int .i64 0) 8 rfl Try.underlying24 info3 rfl (by decide) (by omega) u9 b6 1 [.int .i64 1] (fun k_=>some k_≠(a1:Value).ownBlock) (fun _=>False) rfl rfl ?aP (fun _ hk=>hk.elim) ?aF ?aO ?aB ?aS ?aL ?_;(case aP=>exact rfl);(case aB=> exact zq41);(case aF=> exact zq74);(case aO=> exact zq139);(case aS=> exact zq34);(case aL=>have:=LMc55.out;omega);intro a6v w56 ho hb hg hat;rw [← w6.out] at ho;replace HO_131000:=zqm (Kd.S_after (ok:=(fun k_=>some k_≠(a1:Value).ownBlock)) zq70 hg hat);replace HO_131001:=zqm (Kd.R_after (ok:=(fun _=>True)) zq130 hg hat);replace a2:=zqm (blk_grown (g:=b7) (o:= .cells #[.slice A0_0 l0_0.length c0_0,.slice A0_1 l0_1.length c0_1] 26 (0,0)) zq10 hg (Kd.R_ne HO_9.out a2.out (by decide)));replace a4:=zqm (blk_grown (g:=b8) (o:= .cells #[.slice A1_0 l1_0.length c1_0,.slice A1_1 l1_1.length c1_1] 26 (0,0)) zq8 hg (Kd.R_ne HO_9.out a4.out (by decide)));replace a7:=zqm (blk_grown (g:=b9) (o:= .cells #[.slice none 0 0,.slice none 0 0] 26 (0,0)) zq38 hg (Kd.R_ne HO_9.out a7.out (by decide)));replace a0:=zqm (blk_grown (g:=a6) (o:= .cells #[b0,a1] 26 (0,0)) zq2 hg (Kd.R_ne HO_9.out a0.out (by decide)));replace HB:=zqm (hb);have v0:=zqm (ho);clear HO_9;clear ho hb hg hat))
                  go_roundg e2
                  (case measure=> exact zq249);case rel=>exact⟨(u3),(wrap64 (a9+1)),(by first|rfl|(simp;done)|(simp [*];done)),H',⟨zq249⟩,⟨by(with_reducible repeat(first|apply Kd.R_alloc|apply Kd.R_drewN|apply Kd.R_drew));exact v0.out⟩,⟨zq70⟩,⟨zq119⟩,⟨zq10⟩,⟨zq8⟩,⟨zq38⟩,⟨zq2⟩,⟨zq7⟩⟩
                 ·rw [if_neg r0] at H;exact absurd H (by simp)
                ·rw [if_neg i7] at H;have x8:(a5==a9)=false:=beq_eq_false_iff_ne.mpr i7;have x9:(a5 !=a9)=true:=bne_iff_ne.mpr i7
                 by_cases r3:b6.length<17592186044416
                 ·rw [if_pos r3] at H;have LMc57:=zqm r3;clear r3;obtain⟨u4,g4⟩: ∃y_:List Int,y_=(b6 ++ [0]):=⟨_,rfl⟩;(replace H:(spec_l20Glued.l1 e2 (l0_1.length:Int) (l1_1.length:Int) a5 u4 (wrap64 (a9+1)) l0_0 l0_1 l1_0 l1_1 a8 a3)=some (r1,r2):=by first|(rw [g4];with_reducible exact H)|(have c4:=(Option.bind_some _ _).symm.trans H;rw [g4];with_reducible exact c4)|(have c4:=(Option.bind_some _ _).symm.trans H;with_reducible exact c4)|with_reducible exact H|(rw [g4];exact H)|exact H);have w7:=zqm g4;clear g4;have H':=zqm H;clear H
                  go_wp2_with (first|((with_reducible refine gate_builtin (b:= .append) (xs:= #[.tmp 103,.tmp 105]) rfl ?_);at_builtin;refine Kd.R_append (Kd.int .i64) (w0:=w) w.heap.size rfl (.tmp 103) (.tmp 105) 24 3 (.int .i64 0) 8 rfl Try.underlying24 info3 rfl (by decide) (by omega) u9 b6 0 [.int .i64 0] (fun k_=>some k_≠(a1:Value).ownBlock) (fun _=>False) rfl rfl ?aP (fun _ hk=>hk.elim) ?aF ?aO ?aB ?aS ?aL ?_;(case aP=>exact rfl);(case aB=> exact zq41);(case aF=> exact zq74);(case aO=> exact zq139);(case aS=> exact zq34);(case aL=>have:=LMc57.out;omega);intro a6w w58 ho hb hg hat;rw [← w7.out] at ho;replace HO_131000:=zqm (Kd.S_after (ok:=(fun k_=>some k_≠(a1:Value).ownBlock)) zq70 hg hat);replace HO_131001:=zqm (Kd.R_after (ok:=(fun _=>True)) zq130 hg hat);replace a2:=zqm (blk_grown (g:=b7) (o:= .cells #[.slice A0_0 l0_0.length c0_0,.slice A0_1 l0_1.length c0_1] 26 (0,0)) zq10 hg (Kd.R_ne HO_9.out a2.out (by decide)));replace a4:=zqm (blk_grown (g:=b8) (o:= .cells #[.slice A1_0 l1_0.length c1_0,.slice A1_1 l1_1.length c1_1] 26 (0,0)) zq8 hg (Kd.R_ne HO_9.out a4.out (by decide)));replace a7:=zqm (blk_grown (g:=b9) (o:= .cells #[.slice none 0 0,.slice none 0 0] 26 (0,0)) zq38 hg (Kd.R_ne HO_9.out a7.out (by decide)));replace a0:=zqm (blk_grown (g:=a6) (o:= .cells #[b0,a1] 26 (0,0)) zq2 hg (Kd.R_ne HO_9.out a0.out (by decide)));replace HB:=zqm (hb);have v1:=zqm (ho);clear HO_9;clear ho hb hg hat))
                  go_roundg e2
                  (case measure=> exact zq249);case rel=>exact⟨(u4),(wrap64 (a9+1)),(by first|rfl|(simp;done)|(simp [*];done)),H',⟨zq249⟩,⟨by(with_reducible repeat(first|apply Kd.R_alloc|apply Kd.R_drewN|apply Kd.R_drew));exact v1.out⟩,⟨zq70⟩,⟨zq119⟩,⟨zq10⟩,⟨zq8⟩,⟨zq38⟩,⟨zq2⟩,⟨zq7⟩⟩
                 ·rw [if_neg r3] at H;exact absurd H (by simp)
      ·rw [if_neg k4] at H;have x5:decide (a9<(wrap64 ((wrap64 ((l0_1.length:Int)+(l1_1.length:Int))) - 2)))=false:=decide_eq_false k4;clear k4
       by_cases r4:a8.length<5864062014805
       ·rw [if_pos r4] at H;have LMc59:=zqm r4;clear r4;obtain⟨b5,g5⟩: ∃y_:List (List Int),y_=(a8 ++ [b6]):=⟨_,rfl⟩;(replace H:(if a5=0 then(if a3.length<17592186044416 then(spec_l20Glued.l0 k2 (l0_1.length:Int) (l1_1.length:Int) (wrap64 (a5+1)) l0_0 l0_1 l1_0 l1_1 b5 (a3 ++ [wrap64 ((wrap64 ((l0_1.length:Int)+(l1_1.length:Int))) - 3)])) else(none)) else(if a5=(wrap64 ((wrap64 ((l0_1.length:Int)+(l1_1.length:Int))) - 3)) then(if a3.length<17592186044416 then(spec_l20Glued.l0 k2 (l0_1.length:Int) (l1_1.length:Int) (wrap64 (a5+1)) l0_0 l0_1 l1_0 l1_1 b5 (a3 ++ [0])) else(none)) else(if a5<(wrap64 ((l0_1.length:Int) - 1)) then(if 0≤a5 then(if a5<(l0_1.length:Int) then(if a3.length<17592186044416 then(spec_l20Glued.l0 k2 (l0_1.length:Int) (l1_1.length:Int) (wrap64 (a5+1)) l0_0 l0_1 l1_0 l1_1 b5 (a3 ++ [rd l0_1 a5])) else(none)) else(none)) else(none)) else(if 0≤(wrap64 ((wrap64 (a5 - (l0_1.length:Int)))+2)) then(if(wrap64 ((wrap64 (a5 - (l0_1.length:Int)))+2))<(l1_1.length:Int) then(if a3.length<17592186044416 then(spec_l20Glued.l0 k2 (l0_1.length:Int) (l1_1.length:Int) (wrap64 (a5+1)) l0_0 l0_1 l1_0 l1_1 b5 (a3 ++ [wrap64 ((wrap64 ((rd l1_1 (wrap64 ((wrap64 (a5 - (l0_1.length:Int)))+2)))+(l0_1.length:Int))) - 2)])) else(none)) else(none)) else(none)))))=some (r1,r2):=by first|(rw [g5];with_reducible exact H)|(have c4:=(Option.bind_some _ _).symm.trans H;rw [g5];with_reducible exact c4)|(have c4:=(Option.bind_some _ _).symm.trans H;with_reducible exact c4)|with_reducible exact H|(rw [g5];exact H)|exact H);have i4:=zqm g5;clear g5
        by_cases i8:a5=0
        ·rw [if_pos i8] at H;have y0:(a5==0)=true:=beq_iff_eq.mpr i8;have y1:(a5 !=0)=false:=bne_eq_false_iff_eq.mpr i8;clear i8
         by_cases r5:a3.length<17592186044416
         ·rw [if_pos r5] at H;have LMc61:=zqm r5;clear r5;obtain⟨j7,g6⟩: ∃y_:List Int,y_=(a3 ++ [wrap64 ((wrap64 ((l0_1.length:Int)+(l1_1.length:Int))) - 3)]):=⟨_,rfl⟩;(replace H:(spec_l20Glued.l0 k2 (l0_1.length:Int) (l1_1.length:Int) (wrap64 (a5+1)) l0_0 l0_1 l1_0 l1_1 b5 j7)=some (r1,r2):=by first|(rw [g6];with_reducible exact H)|(have c4:=(Option.bind_some _ _).symm.trans H;rw [g6];with_reducible exact c4)|(have c4:=(Option.bind_some _ _).symm.trans H;with_reducible exact c4)|with_reducible exact H|(rw [g6];exact H)|exact H);have w8:=zqm g6;clear g6;have H':=zqm H;clear H;have a5k:=c5.out;have a6c:=c0.out;have a5l:=c6.out;have a6d:=c1.out;have a5m:=d1.out;have a6e:=c2.out;have a1l:wr.cell? ⟨a6,0,none⟩=some (b0):=(blk_cell a0.out 0).trans rfl;have a1m:wr.cell? ⟨a6,1,none⟩=some (a1):=(blk_cell a0.out 1).trans rfl;have a2j:=blk_frozen a0.out 0;have a2k:=blk_frozen a0.out 1;obtain⟨t0,t3,a0a⟩:=Kd.R_slice HO_9.out;subst a0a
          go_wp2_with (first|((with_reducible refine gate_builtin (b:= .append) (xs:= #[.tmp 108,.tmp 110]) rfl ?_);at_builtin;refine Kd.S_append (Kd.slice 3 (Kd.int .i64)) (w0:=w) w.heap.size rfl (.tmp 108) (.tmp 110) 23 24 (.slice none 0 0) 24 rfl Try.underlying23 info24 rfl (by decide) (by omega) b0 a8 b6 [.slice t0 b6.length t3] (fun k_=>some k_≠(a1:Value).ownBlock) (fun k_=>some k_=(.slice t0 b6.length t3:Value).ownBlock) rfl rfl ?aP (fun k_ hk_=>((Kd.R_mono (ok':=fun k_=>((fun k_=>some k_≠(a1:Value).ownBlock)) k_∧some k_≠(b0:Value).ownBlock) (Kd.R_apart' (HO_9.out) (Kd.S_typed HO_131000.out) (by decide)) (fun k_ hk=>⟨hk.1,hk.2⟩))).1 k_ hk_.symm) ?aF ?aO ?aB ?aS ?aL ?_;(case aP=> exact zq99);(case aB=> exact zq41);(case aF=> exact zq74);(case aO=> exact zq140);(case aS=> exact zq34);(case aL=>have:=LMc59.out;omega);intro o9 z0 ho hb hg hat;rw [← i4.out] at ho;replace HO_131001:=zqm (Kd.R_over' zq51 (Kd.S_typed zq82) (by decide) hg);replace a2:=zqm (blk_grown (g:=b7) (o:= .cells #[.slice A0_0 l0_0.length c0_0,.slice A0_1 l0_1.length c0_1] 26 (0,0)) zq10 hg (Kd.S_ne HO_131000.out a2.out (by decide)));replace a4:=zqm (blk_grown (g:=b8) (o:= .cells #[.slice A1_0 l1_0.length c1_0,.slice A1_1 l1_1.length c1_1] 26 (0,0)) zq8 hg (Kd.S_ne HO_131000.out a4.out (by decide)));replace a7:=zqm (blk_grown (g:=b9) (o:= .cells #[.slice none 0 0,.slice none 0 0] 26 (0,0)) zq38 hg (Kd.S_ne HO_131000.out a7.out (by decide)));replace a0:=zqm (blk_grown (g:=a6) (o:= .cells #[b0,a1] 26 (0,0)) zq2 hg (Kd.S_ne HO_131000.out a0.out (by decide)));replace HB:=zqm (hb);have c3:=zqm (ho);clear HO_131000 HO_9;clear ho hb hg hat;obtain⟨h3,h6,a0b⟩:=Kd.S_slice c3.out;subst a0b;have a1n:z0.cell? ⟨a6,0,none⟩=some (b0):=(blk_cell a0.out 0).trans rfl;have a1o:z0.cell? ⟨a6,1,none⟩=some (a1):=(blk_cell a0.out 1).trans rfl;have a2l:=blk_frozen a0.out 0;have a2m:=blk_frozen a0.out 1)|((with_reducible refine gate_builtin (b:= .append) (xs:= #[.tmp 133,.tmp 138]) rfl ?_);at_builtin;refine Kd.R_append (Kd.int .i64) (w0:=w) w.heap.size rfl (.tmp 133) (.tmp 138) 24 3 (.int .i64 0) 8 rfl Try.underlying24 info3 rfl (by decide) (by omega) a1 a3 (wrap64 ((wrap64 ((l0_1.length:Int)+(l1_1.length:Int))) - 3)) [.int .i64 (wrap64 ((wrap64 ((l0_1.length:Int)+(l1_1.length:Int))) - 3))] (fun _=>True) (fun _=>False) rfl (by first|(go_simp;done)|(go_simp;rfl)) ?aP (fun _ hk=>hk.elim) ?aF ?aO ?aB ?aS ?aL ?_;(case aP=>exact rfl);(case aB=> exact zq41);(case aF=>exact(fun _ _=>trivial));(case aO=>exact(by(with_reducible repeat(first|apply Kd.R_alloc|apply Kd.R_drewN|apply Kd.R_drew));exact Kd.R_mono (Kd.R_far (p:=⟨a6,0,none⟩) (Kd.R_types HO_131001.out a0.out (by decide)) (fun _ hk=>hk.2) (.slice h3 b5.length h6)) (fun _ hk=>trivial)));(case aS=> exact zq34);(case aL=>have:=LMc61.out;omega);intro a6x z1 ho hb hg hat;rw [← w8.out] at ho;replace a2:=zqm (blk_grown (g:=b7) (o:= .cells #[.slice A0_0 l0_0.length c0_0,.slice A0_1 l0_1.length c0_1] 26 (0,0)) zq61 hg (Kd.R_ne HO_131001.out a2.out (by decide)));replace a4:=zqm (blk_grown (g:=b8) (o:= .cells #[.slice A1_0 l1_0.length c1_0,.slice A1_1 l1_1.length c1_1] 26 (0,0)) zq62 hg (Kd.R_ne HO_131001.out a4.out (by decide)));replace a7:=zqm (blk_grown (g:=b9) (o:= .cells #[.slice none 0 0,.slice none 0 0] 26 (0,0)) zq63 hg (Kd.R_ne HO_131001.out a7.out (by decide)));have e0:=zqm (blk_grown (g:=a6) (o:= .cells #[.slice h3 b5.length h6,a1] 26 (0,0)) zq101 hg (Kd.R_ne HO_131001.out a0.out (by decide)));replace c3:=zqm (Kd.S_after (ok:=(fun _=>True)) (by(with_reducible repeat(first|apply Kd.S_alloc|apply Kd.S_drewN|apply Kd.S_drew));exact Kd.S_mono (Kd.S_far (p:=⟨a6,0,none⟩) (Kd.S_types c3.out a0.out (by decide)) (fun _ hk=>hk.2) (.slice h3 b5.length h6)) (fun _ hk=>⟨trivial,hk.1⟩)) hg hat);replace HB:=zqm (hb);have p1:=zqm (ho);clear a0 HO_131001;have a0:=e0;clear e0 ho hb hg hat;obtain⟨n0,n5,a0c⟩:=Kd.R_slice p1.out;subst a0c;have a1p:z1.cell? ⟨a6,0,none⟩=some (.slice h3 b5.length h6):=(blk_cell a0.out 0).trans rfl;have a1q:z1.cell? ⟨a6,1,none⟩=some (a1):=(blk_cell a0.out 1).trans rfl;have a2n:=blk_frozen a0.out 0;have a2o:=blk_frozen a0.out 1))
          go_roundg k2
          (case measure=>have:=d2.out;have:=d3.out;omega);case rel=>exact⟨(wrap64 (a5+1)),(b5),(j7),(.slice h3 b5.length h6),(.slice n0 j7.length n5),(by first|rfl|(simp;done)|(simp [*];done)),H',⟨by have:=d2.out;have:=d3.out;omega⟩,⟨by(with_reducible repeat(first|apply Kd.S_alloc|apply Kd.S_drewN|apply Kd.S_drew));exact Kd.S_mono (Kd.S_far (p:=⟨a6,1,none⟩) (Kd.S_types c3.out a0.out (by decide)) (fun _ hk=>hk.2) (.slice n0 j7.length n5)) (fun _ hk=>hk.1.2)⟩,⟨by(with_reducible repeat(first|apply Kd.R_alloc|apply Kd.R_drewN|apply Kd.R_drew));exact Kd.R_mono (Kd.R_far (p:=⟨a6,1,none⟩) (Kd.R_types p1.out a0.out (by decide)) (fun _ hk=>hk.2) (.slice n0 j7.length n5)) (fun _ hk=>trivial)⟩,⟨zq61⟩,⟨zq62⟩,⟨zq63⟩,⟨by(with_reducible repeat(first|refine blk_drewN ?_ _|refine blk_drew ?_|refine blk_alloc ?_ _));refine blk_put (cs:= #[.slice h3 b5.length h6,a1]) ?_ 1 _ rfl;(with_reducible repeat(first|refine blk_drewN ?_ _|refine blk_drew ?_|refine blk_alloc ?_ _));exact a0.out⟩,⟨zq7⟩⟩
         ·rw [if_neg r5] at H;exact absurd H (by simp)
        ·rw [if_neg i8] at H;have y0:(a5==0)=false:=beq_eq_false_iff_ne.mpr i8;have y1:(a5 !=0)=true:=bne_iff_ne.mpr i8
         by_cases i9:a5=(wrap64 ((wrap64 ((l0_1.length:Int)+(l1_1.length:Int))) - 3))
         ·rw [if_pos i9] at H;have y2:(a5==(wrap64 ((wrap64 ((l0_1.length:Int)+(l1_1.length:Int))) - 3)))=true:=beq_iff_eq.mpr i9;have y3:(a5 !=(wrap64 ((wrap64 ((l0_1.length:Int)+(l1_1.length:Int))) - 3)))=false:=bne_eq_false_iff_eq.mpr i9;clear i9
          by_cases r6:a3.length<17592186044416
          ·rw [if_pos r6] at H;have LMc74:=zqm r6;clear r6;obtain⟨j8,g7⟩: ∃y_:List Int,y_=(a3 ++ [0]):=⟨_,rfl⟩;(replace H:(spec_l20Glued.l0 k2 (l0_1.length:Int) (l1_1.length:Int) (wrap64 (a5+1)) l0_0 l0_1 l1_0 l1_1 b5 j8)=some (r1,r2):=by first|(rw [g7];with_reducible exact H)|(have c4:=(Option.bind_some _ _).symm.trans H;rw [g7];with_reducible exact c4)|(have c4:=(Option.bind_some _ _).symm.trans H;with_reducible exact c4)|with_reducible exact H|(rw [g7];exact H)|exact H);have w9:=zqm g7;clear g7;have H':=zqm H;clear H;have a5n:=c5.out;have a6f:=c0.out;have a5o:=c6.out;have a6g:=c1.out;have a5p:=d1.out;have a6h:=c2.out;have a1r:wr.cell? ⟨a6,0,none⟩=some (b0):=(blk_cell a0.out 0).trans rfl;have a1s:wr.cell? ⟨a6,1,none⟩=some (a1):=(blk_cell a0.out 1).trans rfl;have a2p:=blk_frozen a0.out 0;have a2q:=blk_frozen a0.out 1;obtain⟨t1,t4,a0d⟩:=Kd.R_slice HO_9.out;subst a0d
           go_wp2_with (first|((with_reducible refine gate_builtin (b:= .append) (xs:= #[.tmp 108,.tmp 110]) rfl ?_);at_builtin;refine Kd.S_append (Kd.slice 3 (Kd.int .i64)) (w0:=w) w.heap.size rfl (.tmp 108) (.tmp 110) 23 24 (.slice none 0 0) 24 rfl Try.underlying23 info24 rfl (by decide) (by omega) b0 a8 b6 [.slice t1 b6.length t4] (fun k_=>some k_≠(a1:Value).ownBlock) (fun k_=>some k_=(.slice t1 b6.length t4:Value).ownBlock) rfl rfl ?aP (fun k_ hk_=>((Kd.R_mono (ok':=fun k_=>((fun k_=>some k_≠(a1:Value).ownBlock)) k_∧some k_≠(b0:Value).ownBlock) (Kd.R_apart' (HO_9.out) (Kd.S_typed HO_131000.out) (by decide)) (fun k_ hk=>⟨hk.1,hk.2⟩))).1 k_ hk_.symm) ?aF ?aO ?aB ?aS ?aL ?_;(case aP=> exact zq99);(case aB=> exact zq41);(case aF=> exact zq74);(case aO=> exact zq140);(case aS=> exact zq34);(case aL=>have:=LMc59.out;omega);intro o9 z2 ho hb hg hat;rw [← i4.out] at ho;replace HO_131001:=zqm (Kd.R_over' zq51 (Kd.S_typed zq82) (by decide) hg);replace a2:=zqm (blk_grown (g:=b7) (o:= .cells #[.slice A0_0 l0_0.length c0_0,.slice A0_1 l0_1.length c0_1] 26 (0,0)) zq10 hg (Kd.S_ne HO_131000.out a2.out (by decide)));replace a4:=zqm (blk_grown (g:=b8) (o:= .cells #[.slice A1_0 l1_0.length c1_0,.slice A1_1 l1_1.length c1_1] 26 (0,0)) zq8 hg (Kd.S_ne HO_131000.out a4.out (by decide)));replace a7:=zqm (blk_grown (g:=b9) (o:= .cells #[.slice none 0 0,.slice none 0 0] 26 (0,0)) zq38 hg (Kd.S_ne HO_131000.out a7.out (by decide)));replace a0:=zqm (blk_grown (g:=a6) (o:= .cells #[b0,a1] 26 (0,0)) zq2 hg (Kd.S_ne HO_131000.out a0.out (by decide)));replace HB:=zqm (hb);have c3:=zqm (ho);clear HO_131000 HO_9;clear ho hb hg hat;obtain⟨h4,h7,a0e⟩:=Kd.S_slice c3.out;subst a0e;have a1t:z2.cell? ⟨a6,0,none⟩=some (b0):=(blk_cell a0.out 0).trans rfl;have a1u:z2.cell? ⟨a6,1,none⟩=some (a1):=(blk_cell a0.out 1).trans rfl;have a2r:=blk_frozen a0.out 0;have a2s:=blk_frozen a0.out 1)|((with_reducible refine gate_builtin (b:= .append) (xs:= #[.tmp 149,.tmp 150]) rfl ?_);at_builtin;refine Kd.R_append (Kd.int .i64) (w0:=w) w.heap.size rfl (.tmp 149) (.tmp 150) 24 3 (.int .i64 0) 8 rfl Try.underlying24 info3 rfl (by decide) (by omega) a1 a3 0 [.int .i64 0] (fun _=>True) (fun _=>False) rfl (by first|(go_simp;done)|(go_simp;rfl)) ?aP (fun _ hk=>hk.elim) ?aF ?aO ?aB ?aS ?aL ?_;(case aP=>exact rfl);(case aB=> exact zq41);(case aF=>exact(fun _ _=>trivial));(case aO=>exact(by(with_reducible repeat(first|apply Kd.R_alloc|apply Kd.R_drewN|apply Kd.R_drew));exact Kd.R_mono (Kd.R_far (p:=⟨a6,0,none⟩) (Kd.R_types HO_131001.out a0.out (by decide)) (fun _ hk=>hk.2) (.slice h4 b5.length h7)) (fun _ hk=>trivial)));(case aS=> exact zq34);(case aL=>have:=LMc74.out;omega);intro a6y z3 ho hb hg hat;rw [← w9.out] at ho;replace a2:=zqm (blk_grown (g:=b7) (o:= .cells #[.slice A0_0 l0_0.length c0_0,.slice A0_1 l0_1.length c0_1] 26 (0,0)) zq61 hg (Kd.R_ne HO_131001.out a2.out (by decide)));replace a4:=zqm (blk_grown (g:=b8) (o:= .cells #[.slice A1_0 l1_0.length c1_0,.slice A1_1 l1_1.length c1_1] 26 (0,0)) zq62 hg (Kd.R_ne HO_131001.out a4.out (by decide)));replace a7:=zqm (blk_grown (g:=b9) (o:= .cells #[.slice none 0 0,.slice none 0 0] 26 (0,0)) zq63 hg (Kd.R_ne HO_131001.out a7.out (by decide)));have e0:=zqm (blk_grown (g:=a6) (o:= .cells #[.slice h4 b5.length h7,a1] 26 (0,0)) zq101 hg (Kd.R_ne HO_131001.out a0.out (by decide)));replace c3:=zqm (Kd.S_after (ok:=(fun _=>True)) (by(with_reducible repeat(first|apply Kd.S_alloc|apply Kd.S_drewN|apply Kd.S_drew));exact Kd.S_mono (Kd.S_far (p:=⟨a6,0,none⟩) (Kd.S_types c3.out a0.out (by decide)) (fun _ hk=>hk.2) (.slice h4 b5.length h7)) (fun _ hk=>⟨trivial,hk.1⟩)) hg hat);replace HB:=zqm (hb);have p2:=zqm (ho);clear a0 HO_131001;have a0:=e0;clear e0 ho hb hg hat;obtain⟨n1,n6,a0f⟩:=Kd.R_slice p2.out;subst a0f;have a1v:z3.cell? ⟨a6,0,none⟩=some (.slice h4 b5.length h7):=(blk_cell a0.out 0).trans rfl;have a1w:z3.cell? ⟨a6,1,none⟩=some (a1):=(blk_cell a0.out 1).trans rfl;have a2t:=blk_frozen a0.out 0;have a2u:=blk_frozen a0.out 1))
           go_roundg k2
           (case measure=>have:=d2.out;have:=d3.out;omega);case rel=>exact⟨(wrap64 (a5+1)),(b5),(j8),(.slice h4 b5.length h7),(.slice n1 j8.length n6),(by first|rfl|(simp;done)|(simp [*];done)),H',⟨by have:=d2.out;have:=d3.out;omega⟩,⟨by(with_reducible repeat(first|apply Kd.S_alloc|apply Kd.S_drewN|apply Kd.S_drew));exact Kd.S_mono (Kd.S_far (p:=⟨a6,1,none⟩) (Kd.S_types c3.out a0.out (by decide)) (fun _ hk=>hk.2) (.slice n1 j8.length n6)) (fun _ hk=>hk.1.2)⟩,⟨by(with_reducible repeat(first|apply Kd.R_alloc|apply Kd.R_drewN|apply Kd.R_drew));exact Kd.R_mono (Kd.R_far (p:=⟨a6,1,none⟩) (Kd.R_types p2.out a0.out (by decide)) (fun _ hk=>hk.2) (.slice n1 j8.length n6)) (fun _ hk=>trivial)⟩,⟨zq61⟩,⟨zq62⟩,⟨zq63⟩,⟨by(with_reducible repeat(first|refine blk_drewN ?_ _|refine blk_drew ?_|refine blk_alloc ?_ _));refine blk_put (cs:= #[.slice h4 b5.length h7,a1]) ?_ 1 _ rfl;(with_reducible repeat(first|refine blk_drewN ?_ _|refine blk_drew ?_|refine blk_alloc ?_ _));exact a0.out⟩,⟨zq7⟩⟩
          ·rw [if_neg r6] at H;exact absurd H (by simp)
         ·rw [if_neg i9] at H;have y2:(a5==(wrap64 ((wrap64 ((l0_1.length:Int)+(l1_1.length:Int))) - 3)))=false:=beq_eq_false_iff_ne.mpr i9;have y3:(a5 !=(wrap64 ((wrap64 ((l0_1.length:Int)+(l1_1.length:Int))) - 3)))=true:=bne_iff_ne.mpr i9
          by_cases k8:a5<(wrap64 ((l0_1.length:Int) - 1))
          ·rw [if_pos k8] at H;have y4:decide (a5<(wrap64 ((l0_1.length:Int) - 1)))=true:=decide_eq_true k8;clear k8
           by_cases r7:0≤a5
           ·rw [if_pos r7] at H;have a4z:decide (0≤a5)=true:=decide_eq_true r7;clear r7
            by_cases r8:a5<(l0_1.length:Int)
            ·rw [if_pos r8] at H;have a5a:decide (a5<(l0_1.length:Int))=true:=decide_eq_true r8;clear r8
             by_cases r9:a3.length<17592186044416
             ·rw [if_pos r9] at H;have LMc89:=zqm r9;clear r9;obtain⟨j9,g8⟩: ∃y_:List Int,y_=(a3 ++ [rd l0_1 a5]):=⟨_,rfl⟩;(replace H:(spec_l20Glued.l0 k2 (l0_1.length:Int) (l1_1.length:Int) (wrap64 (a5+1)) l0_0 l0_1 l1_0 l1_1 b5 j9)=some (r1,r2):=by first|(rw [g8];with_reducible exact H)|(have c4:=(Option.bind_some _ _).symm.trans H;rw [g8];with_reducible exact c4)|(have c4:=(Option.bind_some _ _).symm.trans H;with_reducible exact c4)|with_reducible exact H|(rw [g8];exact H)|exact H);have x0:=zqm g8;clear g8;have H':=zqm H;clear H;have a5q:=c5.out;have a6i:=c0.out;have a5r:=c6.out;have a6j:=c1.out;have a5s:=d1.out;have a6k:=c2.out;have a1x:wr.cell? ⟨a6,0,none⟩=some (b0):=(blk_cell a0.out 0).trans rfl;have a1y:wr.cell? ⟨a6,1,none⟩=some (a1):=(blk_cell a0.out 1).trans rfl;have a2v:=blk_frozen a0.out 0;have a2w:=blk_frozen a0.out 1;obtain⟨t2,t5,a0g⟩:=Kd.R_slice HO_9.out;subst a0g;(try go_wp2_with (first|((with_reducible refine gate_builtin (b:= .append) (xs:= #[.tmp 108,.tmp 110]) rfl ?_);at_builtin;refine Kd.S_append (Kd.slice 3 (Kd.int .i64)) (w0:=w) w.heap.size rfl (.tmp 108) (.tmp 110) 23 24 (.slice none 0 0) 24 rfl Try.underlying23 info24 rfl (by decide) (by omega) b0 a8 b6 [.slice t2 b6.length t5] (fun k_=>some k_≠(a1:Value).ownBlock) (fun k_=>some k_=(.slice t2 b6.length t5:Value).ownBlock) rfl rfl ?aP (fun k_ hk_=>((Kd.R_mono (ok':=fun k_=>((fun k_=>some k_≠(a1:Value).ownBlock)) k_∧some k_≠(b0:Value).ownBlock) (Kd.R_apart' (HO_9.out) (Kd.S_typed HO_131000.out) (by decide)) (fun k_ hk=>⟨hk.1,hk.2⟩))).1 k_ hk_.symm) ?aF ?aO ?aB ?aS ?aL ?_;(case aP=> exact zq99);(case aB=> exact zq41);(case aF=> exact zq74);(case aO=> exact zq140);(case aS=> exact zq34);(case aL=>have:=LMc59.out;omega);intro o9 f3 ho hb hg hat;rw [← i4.out] at ho;replace HO_131001:=zqm (Kd.R_over' zq51 (Kd.S_typed zq82) (by decide) hg);replace a2:=zqm (blk_grown (g:=b7) (o:= .cells #[.slice A0_0 l0_0.length c0_0,.slice A0_1 l0_1.length c0_1] 26 (0,0)) zq10 hg (Kd.S_ne HO_131000.out a2.out (by decide)));replace a4:=zqm (blk_grown (g:=b8) (o:= .cells #[.slice A1_0 l1_0.length c1_0,.slice A1_1 l1_1.length c1_1] 26 (0,0)) zq8 hg (Kd.S_ne HO_131000.out a4.out (by decide)));replace a7:=zqm (blk_grown (g:=b9) (o:= .cells #[.slice none 0 0,.slice none 0 0] 26 (0,0)) zq38 hg (Kd.S_ne HO_131000.out a7.out (by decide)));replace a0:=zqm (blk_grown (g:=a6) (o:= .cells #[b0,a1] 26 (0,0)) zq2 hg (Kd.S_ne HO_131000.out a0.out (by decide)));replace HB:=zqm (hb);have c3:=zqm (ho);clear HO_131000 HO_9;clear ho hb hg hat;obtain⟨d4,d5,a0h⟩:=Kd.S_slice c3.out;subst a0h;have a1z:f3.cell? ⟨a6,0,none⟩=some (b0):=(blk_cell a0.out 0).trans rfl;have a2a:f3.cell? ⟨a6,1,none⟩=some (a1):=(blk_cell a0.out 1).trans rfl;have a2x:=blk_frozen a0.out 0;have a2y:=blk_frozen a0.out 1)));have d8:Aside0 (Kd.R (Kd.int .i64) 3 (f3.setCell ⟨a6,0,none⟩ (.slice d4 b5.length d5)) w.heap.size (fun _=>True) a1 a3):=⟨by(with_reducible repeat(first|apply Kd.R_alloc|apply Kd.R_drewN|apply Kd.R_drew));exact Kd.R_mono (Kd.R_far (p:=⟨a6,0,none⟩) (Kd.R_types HO_131001.out a0.out (by decide)) (fun _ hk=>hk.2) (.slice d4 b5.length d5)) (fun _ hk=>trivial)⟩;have d9:Aside0 (Kd.S (Kd.slice 3 (Kd.int .i64)) 24 (f3.setCell ⟨a6,0,none⟩ (.slice d4 b5.length d5)) w.heap.size (fun k_=>some k_≠(a1:Value).ownBlock) (.slice d4 b5.length d5) b5):=⟨by(with_reducible repeat(first|apply Kd.S_alloc|apply Kd.S_drewN|apply Kd.S_drew));exact Kd.S_mono (Kd.S_far (p:=⟨a6,0,none⟩) (Kd.S_types c3.out a0.out (by decide)) (fun _ hk=>hk.2) (.slice d4 b5.length d5)) (fun _ hk=>hk.1)⟩;have e6:Aside0 ((f3.setCell ⟨a6,0,none⟩ (.slice d4 b5.length d5)).heap[b7]? =some (.cells #[.slice A0_0 l0_0.length c0_0,.slice A0_1 l0_1.length c0_1] 26 (0,0))):=⟨zq61⟩
              have e0:Aside0 ((f3.setCell ⟨a6,0,none⟩ (.slice d4 b5.length d5)).heap[b8]? =some (.cells #[.slice A1_0 l1_0.length c1_0,.slice A1_1 l1_1.length c1_1] 26 (0,0))):=⟨zq62⟩;have j1:Aside0 ((f3.setCell ⟨a6,0,none⟩ (.slice d4 b5.length d5)).heap[b9]? =some (.cells #[.slice none 0 0,.slice none 0 0] 26 (0,0))):=⟨zq63⟩;have j5:Aside0 ((f3.setCell ⟨a6,0,none⟩ (.slice d4 b5.length d5)).heap[a6]? =some (.cells #[.slice d4 b5.length d5,a1] 26 (0,0))):=⟨zq101⟩;have j6:Aside0 (Below w.heap.size w (f3.setCell ⟨a6,0,none⟩ (.slice d4 b5.length d5))):=⟨zq7⟩;generalize (f3.setCell ⟨a6,0,none⟩ (.slice d4 b5.length d5))=w98 at d8 d9 e6 e0 j1 j5 j6 ⊢;have HO_131001:=d8;have c3:=d9;have a2:=e6;have a4:=e0;have a7:=j1;have a0:=j5;have HB:=j6;clear d8 d9 e6 e0 j1 j5 j6;replace HO_131001:=zqm (Kd.R_drew HO_131001.out);replace c3:=zqm (Kd.S_drew c3.out);replace a2:=zqm (blk_drew a2.out);replace a4:=zqm (blk_drew a4.out);replace a7:=zqm (blk_drew a7.out);replace a0:=zqm (blk_drew a0.out);replace HB:=zqm (below_drew1 HB.out);have o1:0≤(a5:Int):=zqo;have o7:a5<(l0_1.length:Int):=zqo;obtain⟨l8,z8,e4⟩:=Kd.at_int v3.out a5 o1 o7;have hw162_0:=e4
              cases z8
              replace e4:=(HB.out.cell (World.block_lt_of_cell? w _ e4)).trans e4;replace o1:=eq_true o1;replace o7:=eq_true o7;refine start_ (n:=11) (S:=fun w'=>w'.cell? ⟨a6,0,none⟩=some (.slice d4 b5.length d5)∧w'.cell? ⟨a6,1,none⟩=some (a1)∧w'.cell? ⟨b7,0,none⟩=some (.slice A0_0 l0_0.length c0_0)∧w'.cell? ⟨b7,1,none⟩=some (.slice (some l8) l0_1.length c0_1)∧w'.cell? (l8.add (a5).toNat)=some (.int .i64 (rd l0_1 a5))) (ds:= [10]) (zqb 11 0) zqk rfl rfl ⟨(blk_cell a0.out 0).trans rfl,(blk_cell a0.out 1).trans rfl,(blk_cell a2.out 0).trans rfl,(blk_cell a2.out 1).trans rfl,((HB.out.cell (World.block_lt_of_cell? w _ hw162_0)).trans hw162_0)⟩ (fun hHeld=>?_);refine with_tabW spec_l20Glued.tab28 spec_l20Glued.bits28 (fun HT_ HW_=>?_);generalize w98.drew=w99 at HO_131001 c3 a2 a4 a7 a0 HB e4 hHeld ⊢;refine pure_ (i:=0) (N:=some 158) (v:=?_) (a':=?_) (zqb 11 1) rfl rfl (any_of HT_.out zqk) (fun _ _ _ h=>h) (Or.inl ⟨by rfl,?_⟩) ?_ ?_;rotate_left
              ·exact zqt
              rotate_left
              ·exact zqs
              refine pure_ (i:=2) (N:=some 160) (v:=?_) (a':=?_) (zqb 11 5) rfl rfl (any_of HT_.out zqk) (fun _ _ _ h=>h) (Or.inl ⟨by rfl,?_⟩) ?_ ?_;rotate_left
              ·exact zqt
              rotate_left
              ·exact zqs
              refine pure_ (i:=4) (N:=some 162) (v:=?_) (a':=?_) (zqb 11 21) rfl rfl (any_of HT_.out zqk) (fun _ _ _ h=>h) (Or.inl ⟨by rfl,?_⟩) ?_ ?_;rotate_left
              ·exact zqt
              rotate_left
              ·exact zqs
              refine take_ (i:=1) (N:=some 159) (v:=?_) (a':=?_) (zqb 11 23) rfl rfl (take_ofW HT_.out HW_.out zqk) (fun _ _ _ h=>h) (Or.inl ⟨by rfl,?_⟩) hHeld ?_ ?_;rotate_left
              ·rintro w' ⟨s0,s1,s2,s3,s4⟩;go_simp;with_reducible rfl
              rotate_left
              ·exact zqs
              refine take_ (i:=3) (N:=some 161) (v:=?_) (a':=?_) (zqb 11 31) rfl rfl (take_ofW HT_.out HW_.out zqk) (fun _ _ _ h=>h) (Or.inl ⟨by rfl,?_⟩) hHeld ?_ ?_;rotate_left
              ·rintro w' ⟨s0,s1,s2,s3,s4⟩;go_simp;with_reducible rfl
              rotate_left
              ·exact zqs
              refine pure_ (i:=5) (N:=some 163) (v:=?_) (a':=?_) (zqb 11 63) rfl rfl (any_of HT_.out zqk) (fun _ _ _ h=>h) (Or.inl ⟨by rfl,?_⟩) ?_ ?_;rotate_left
              ·exact zqt
              rotate_left
              ·exact zqs
              refine take_ (i:=6) (N:=some 164) (v:=?_) (a':=?_) (zqb 11 127) rfl rfl (take_ofW HT_.out HW_.out zqk) (fun _ _ _ h=>h) (Or.inl ⟨by rfl,?_⟩) hHeld ?_ ?_;rotate_left
              ·rintro w' ⟨s0,s1,s2,s3,s4⟩;go_simp;with_reducible rfl
              rotate_left
              ·exact zqs
              refine one_ (i:=7) (N:=some 165) (zqb 11 255) rfl rfl (one_of HT_.out zqk) (by decide) (fun K hK=>?_);refine value_ (w1:=?_) (v:=?_) (by rfl) rfl ?_ ?_;rotate_left 2
              ·go_simp
               constructor
               ·rfl
               ·rfl
              refine hK.out _ _ ⟨(blk_cell (blk_alloc a0.out _) 0).trans rfl,(blk_cell (blk_alloc a0.out _) 1).trans rfl,(blk_cell (blk_alloc a2.out _) 0).trans rfl,(blk_cell (blk_alloc a2.out _) 1).trans rfl,(World.cell?_alloc_lt _ _ _ (World.block_lt_of_cell? _ _ (((HB.out.cell (World.block_lt_of_cell? w _ hw162_0)).trans hw162_0)))).trans (((HB.out.cell (World.block_lt_of_cell? w _ hw162_0)).trans hw162_0))⟩ (fun hHeld=>?_);clear hK K;refine norm_ (a':=?_) ?_ ?_;rotate_left
              ·show Act.put _ (some 165) _=_;exact zqs
              refine one_ (i:=8) (N:=some 166) (zqb 11 511) rfl rfl (one_of HT_.out zqk) (by decide) (fun K hK=>?_);refine Kd.R_append_step (Kd.int .i64) (w0:=w) w.heap.size (by rfl) (.tmp 159) (.tmp 165) 24 3 (.int .i64 0) 8 rfl Try.underlying24 info3 rfl (by decide) (by omega) a1 a3 (rd l0_1 a5) [.int .i64 (rd l0_1 a5)] (fun _=>True) (fun _=>False) rfl rfl ?aP (fun _ hk=>hk.elim) ?aF ?aO ?aB ?aS ?aL ?_;(case aP=>exact rfl);(case aB=> exact zq41);(case aF=>exact(fun _ _=>trivial));(case aO=> exact zq304);(case aS=> exact zq34);(case aL=>have:=LMc89.out;omega);intro a6z a0y ho hb hg hat;rw [← x0.out] at ho;replace a2:=zqm (blk_grown (g:=b7) (o:= .cells #[.slice A0_0 l0_0.length c0_0,.slice (some l8) l0_1.length c0_1] 26 (0,0)) zq10 hg (Kd.R_ne HO_131001.out a2.out (by decide)));replace a4:=zqm (blk_grown (g:=b8) (o:= .cells #[.slice A1_0 l1_0.length c1_0,.slice A1_1 l1_1.length c1_1] 26 (0,0)) zq8 hg (Kd.R_ne HO_131001.out a4.out (by decide)));replace a7:=zqm (blk_grown (g:=b9) (o:= .cells #[.slice none 0 0,.slice none 0 0] 26 (0,0)) zq38 hg (Kd.R_ne HO_131001.out a7.out (by decide)));replace a0:=zqm (blk_grown (g:=a6) (o:= .cells #[.slice d4 b5.length d5,a1] 26 (0,0)) zq2 hg (Kd.R_ne HO_131001.out a0.out (by decide)));replace c3:=zqm (Kd.S_after (ok:=(fun _=>True)) zq300 hg hat);replace HB:=zqm (hb);have p3:=zqm (ho);clear HO_131001;clear ho hb hg hat;obtain⟨l5,m3,s6⟩:=Kd.R_slice p3.out;(first|subst s6|(injection s6 with m8 t6 m9;have t7:=m8.symm;have t8:=m9.symm;clear m8 t6 m9;subst t7;subst t8));refine hK.out _ _ ⟨(blk_cell a0.out 0).trans rfl,(blk_cell a0.out 1).trans rfl,(blk_cell a2.out 0).trans rfl,(blk_cell a2.out 1).trans rfl,((HB.out.cell (World.block_lt_of_cell? w _ hw162_0)).trans hw162_0)⟩ (fun hHeld=>?_);clear hK K;refine norm_ (a':=?_) ?_ ?_;rotate_left
              ·show Act.put _ (some 166) _=_;exact zqs
              refine pure_ (i:=9) (N:=some 167) (v:=?_) (a':=?_) (zqb 11 1023) rfl rfl (any_of HT_.out zqk) (fun _ _ _ h=>h) (Or.inl ⟨by rfl,?_⟩) ?_ ?_;rotate_left
              ·exact zqt
              rotate_left
              ·exact zqs
              refine last_ (i:=10) (N:=none) (zqb 11 2047) rfl rfl (one_of HT_.out zqk) (by decide) (fun K hK=>?_);have hs102:a0y.cell? ⟨a6,1,none⟩=some (a1):=(blk_cell a0.out 1).trans rfl;have hfs102:=blk_frozen a0.out 1;have hns102_0:=c0.out;have hns102_1:=c1.out;have hns102_2:=c2.out;have hms102_0:=c5.out;have hms102_1:=c6.out;have hms102_2:=d1.out;refine skip_ (w1:=?_) (by rfl) rfl ?_ ?_;rotate_left
              ·go_simp;rfl
              refine hK.out _ _ ?_;clear hK K;refine done_ (done_of HT_.out zqk) ?_;try go_wp2
              go_roundg k2
              (case measure=>have:=d2.out;have:=d3.out;omega);case rel=>exact⟨(wrap64 (a5+1)),(b5),(j9),(.slice d4 b5.length d5),(.slice l5 j9.length m3),(by first|rfl|(simp;done)|(simp [*];done)),H',⟨by have:=d2.out;have:=d3.out;omega⟩,⟨by(with_reducible repeat(first|apply Kd.S_alloc|apply Kd.S_drewN|apply Kd.S_drew));exact Kd.S_mono (Kd.S_far (p:=⟨a6,1,none⟩) (Kd.S_types c3.out a0.out (by decide)) (fun _ hk=>hk.2) (.slice l5 j9.length m3)) (fun _ hk=>hk.1.2)⟩,⟨by(with_reducible repeat(first|apply Kd.R_alloc|apply Kd.R_drewN|apply Kd.R_drew));exact Kd.R_mono (Kd.R_far (p:=⟨a6,1,none⟩) (Kd.R_types p3.out a0.out (by decide)) (fun _ hk=>hk.2) (.slice l5 j9.length m3)) (fun _ hk=>trivial)⟩,⟨zq61⟩,⟨zq62⟩,⟨zq63⟩,⟨by(with_reducible repeat(first|refine blk_drewN ?_ _|refine blk_drew ?_|refine blk_alloc ?_ _));refine blk_put (cs:= #[.slice d4 b5.length d5,a1]) ?_ 1 _ rfl;(with_reducible repeat(first|refine blk_drewN ?_ _|refine blk_drew ?_|refine blk_alloc ?_ _));exact a0.out⟩,⟨zq7⟩⟩
             ·rw [if_neg r9] at H;exact absurd H (by simp)
            ·rw [if_neg r8] at H;exact absurd H (by simp)
           ·rw [if_neg r7] at H;exact absurd H (by simp)
          ·rw [if_neg k8] at H;have y4:decide (a5<(wrap64 ((l0_1.length:Int) - 1)))=false:=decide_eq_false k8;clear k8;obtain⟨c9,j0⟩: ∃j_:Int,(wrap64 ((wrap64 (a5 - (l0_1.length:Int)))+2))=j_:=⟨_,rfl⟩;(replace H:(if 0≤(c9) then(if(c9)<(l1_1.length:Int) then(if a3.length<17592186044416 then(spec_l20Glued.l0 k2 (l0_1.length:Int) (l1_1.length:Int) (wrap64 (a5+1)) l0_0 l0_1 l1_0 l1_1 b5 (a3 ++ [wrap64 ((wrap64 ((rd l1_1 (c9))+(l0_1.length:Int))) - 2)])) else(none)) else(none)) else(none))=some (r1,r2):=by first|(rw [j0] at H;exact H)|(simp only [j0] at H ⊢;exact H));have a2z:(IntKind.i64.wrap ((wrap64 (a5 - (l0_1.length:Int)))+2))=c9:=(i64_w _).trans j0
           by_cases m0:0≤(c9)
           ·rw [if_pos m0] at H;have a3c:decide (0≤(c9))=true:=decide_eq_true m0;clear m0
            by_cases m1:(c9)<(l1_1.length:Int)
            ·rw [if_pos m1] at H;have a3d:decide ((c9)<(l1_1.length:Int))=true:=decide_eq_true m1;clear m1
             by_cases m2:a3.length<17592186044416
             ·rw [if_pos m2] at H;have LMc106:=zqm m2;clear m2;obtain⟨k0,g9⟩: ∃y_:List Int,y_=(a3 ++ [wrap64 ((wrap64 ((rd l1_1 (c9))+(l0_1.length:Int))) - 2)]):=⟨_,rfl⟩;(replace H:(spec_l20Glued.l0 k2 (l0_1.length:Int) (l1_1.length:Int) (wrap64 (a5+1)) l0_0 l0_1 l1_0 l1_1 b5 k0)=some (r1,r2):=by first|(rw [g9];with_reducible exact H)|(have c4:=(Option.bind_some _ _).symm.trans H;rw [g9];with_reducible exact c4)|(have c4:=(Option.bind_some _ _).symm.trans H;with_reducible exact c4)|with_reducible exact H|(rw [g9];exact H)|exact H);have x1:=zqm g9;clear g9;have H':=zqm H;clear H;have a3m:=c5.out;have a3u:=c0.out;have a3n:=c6.out;have a3v:=c1.out;have a3o:=d1.out;have a3w:=c2.out;have a0i:wr.cell? ⟨a6,0,none⟩=some (b0):=(blk_cell a0.out 0).trans rfl;have a0j:wr.cell? ⟨a6,1,none⟩=some (a1):=(blk_cell a0.out 1).trans rfl;have a0q:=blk_frozen a0.out 0;have a0r:=blk_frozen a0.out 1;obtain⟨p0,s5,y5⟩:=Kd.R_slice HO_9.out;subst y5;(try go_wp2_with (first|((with_reducible refine gate_builtin (b:= .append) (xs:= #[.tmp 108,.tmp 110]) rfl ?_);at_builtin;refine Kd.S_append (Kd.slice 3 (Kd.int .i64)) (w0:=w) w.heap.size rfl (.tmp 108) (.tmp 110) 23 24 (.slice none 0 0) 24 rfl Try.underlying23 info24 rfl (by decide) (by omega) b0 a8 b6 [.slice p0 b6.length s5] (fun k_=>some k_≠(a1:Value).ownBlock) (fun k_=>some k_=(.slice p0 b6.length s5:Value).ownBlock) rfl rfl ?aP (fun k_ hk_=>((Kd.R_mono (ok':=fun k_=>((fun k_=>some k_≠(a1:Value).ownBlock)) k_∧some k_≠(b0:Value).ownBlock) (Kd.R_apart' (HO_9.out) (Kd.S_typed HO_131000.out) (by decide)) (fun k_ hk=>⟨hk.1,hk.2⟩))).1 k_ hk_.symm) ?aF ?aO ?aB ?aS ?aL ?_;(case aP=> exact zq99);(case aB=> exact zq41);(case aF=> exact zq74);(case aO=> exact zq140);(case aS=> exact zq34);(case aL=>have:=LMc59.out;omega);intro o9 e3 ho hb hg hat;rw [← i4.out] at ho;replace HO_131001:=zqm (Kd.R_over' zq51 (Kd.S_typed zq82) (by decide) hg);replace a2:=zqm (blk_grown (g:=b7) (o:= .cells #[.slice A0_0 l0_0.length c0_0,.slice A0_1 l0_1.length c0_1] 26 (0,0)) zq10 hg (Kd.S_ne HO_131000.out a2.out (by decide)));replace a4:=zqm (blk_grown (g:=b8) (o:= .cells #[.slice A1_0 l1_0.length c1_0,.slice A1_1 l1_1.length c1_1] 26 (0,0)) zq8 hg (Kd.S_ne HO_131000.out a4.out (by decide)));replace a7:=zqm (blk_grown (g:=b9) (o:= .cells #[.slice none 0 0,.slice none 0 0] 26 (0,0)) zq38 hg (Kd.S_ne HO_131000.out a7.out (by decide)));replace a0:=zqm (blk_grown (g:=a6) (o:= .cells #[b0,a1] 26 (0,0)) zq2 hg (Kd.S_ne HO_131000.out a0.out (by decide)));replace HB:=zqm (hb);have c3:=zqm (ho);clear HO_131000 HO_9;clear ho hb hg hat;obtain⟨c7,c8,y6⟩:=Kd.S_slice c3.out;subst y6;have a0k:e3.cell? ⟨a6,0,none⟩=some (b0):=(blk_cell a0.out 0).trans rfl;have a0l:e3.cell? ⟨a6,1,none⟩=some (a1):=(blk_cell a0.out 1).trans rfl;have a0s:=blk_frozen a0.out 0;have a0t:=blk_frozen a0.out 1)));have d8:Aside0 (Kd.R (Kd.int .i64) 3 (e3.setCell ⟨a6,0,none⟩ (.slice c7 b5.length c8)) w.heap.size (fun _=>True) a1 a3):=⟨by(with_reducible repeat(first|apply Kd.R_alloc|apply Kd.R_drewN|apply Kd.R_drew));exact Kd.R_mono (Kd.R_far (p:=⟨a6,0,none⟩) (Kd.R_types HO_131001.out a0.out (by decide)) (fun _ hk=>hk.2) (.slice c7 b5.length c8)) (fun _ hk=>trivial)⟩;have d9:Aside0 (Kd.S (Kd.slice 3 (Kd.int .i64)) 24 (e3.setCell ⟨a6,0,none⟩ (.slice c7 b5.length c8)) w.heap.size (fun k_=>some k_≠(a1:Value).ownBlock) (.slice c7 b5.length c8) b5):=⟨by(with_reducible repeat(first|apply Kd.S_alloc|apply Kd.S_drewN|apply Kd.S_drew));exact Kd.S_mono (Kd.S_far (p:=⟨a6,0,none⟩) (Kd.S_types c3.out a0.out (by decide)) (fun _ hk=>hk.2) (.slice c7 b5.length c8)) (fun _ hk=>hk.1)⟩;have e6:Aside0 ((e3.setCell ⟨a6,0,none⟩ (.slice c7 b5.length c8)).heap[b7]? =some (.cells #[.slice A0_0 l0_0.length c0_0,.slice A0_1 l0_1.length c0_1] 26 (0,0))):=⟨zq61⟩
              have e0:Aside0 ((e3.setCell ⟨a6,0,none⟩ (.slice c7 b5.length c8)).heap[b8]? =some (.cells #[.slice A1_0 l1_0.length c1_0,.slice A1_1 l1_1.length c1_1] 26 (0,0))):=⟨zq62⟩;have j1:Aside0 ((e3.setCell ⟨a6,0,none⟩ (.slice c7 b5.length c8)).heap[b9]? =some (.cells #[.slice none 0 0,.slice none 0 0] 26 (0,0))):=⟨zq63⟩;have j5:Aside0 ((e3.setCell ⟨a6,0,none⟩ (.slice c7 b5.length c8)).heap[a6]? =some (.cells #[.slice c7 b5.length c8,a1] 26 (0,0))):=⟨zq101⟩;have j6:Aside0 (Below w.heap.size w (e3.setCell ⟨a6,0,none⟩ (.slice c7 b5.length c8))):=⟨zq7⟩;generalize (e3.setCell ⟨a6,0,none⟩ (.slice c7 b5.length c8))=a0z at d8 d9 e6 e0 j1 j5 j6 ⊢;have HO_131001:=d8;have c3:=d9;have a2:=e6;have a4:=e0;have a7:=j1;have a0:=j5;have HB:=j6;clear d8 d9 e6 e0 j1 j5 j6;replace HO_131001:=zqm (Kd.R_drew HO_131001.out);replace c3:=zqm (Kd.S_drew c3.out);replace a2:=zqm (blk_drew a2.out);replace a4:=zqm (blk_drew a4.out);replace a7:=zqm (blk_drew a7.out);replace a0:=zqm (blk_drew a0.out);replace HB:=zqm (below_drew1 HB.out);have o2:0≤((c9):Int):=zqo;have o8:(c9)<(l1_1.length:Int):=zqo;obtain⟨l9,z9,e5⟩:=Kd.at_int v5.out (c9) o2 o8;have hw166_0:=e5
              cases z9
              replace e5:=(HB.out.cell (World.block_lt_of_cell? w _ e5)).trans e5;replace o2:=eq_true o2;replace o8:=eq_true o8;refine start_ (n:=17) (S:=fun w'=>w'.cell? ⟨a6,0,none⟩=some (.slice c7 b5.length c8)∧w'.cell? ⟨a6,1,none⟩=some (a1)∧w'.cell? ⟨b8,0,none⟩=some (.slice A1_0 l1_0.length c1_0)∧w'.cell? ⟨b8,1,none⟩=some (.slice (some l9) l1_1.length c1_1)∧w'.cell? (l9.add ((c9)).toNat)=some (.int .i64 (rd l1_1 (c9)))) (ds:= [16]) (zqb 17 0) zqk rfl rfl ⟨(blk_cell a0.out 0).trans rfl,(blk_cell a0.out 1).trans rfl,(blk_cell a4.out 0).trans rfl,(blk_cell a4.out 1).trans rfl,((HB.out.cell (World.block_lt_of_cell? w _ hw166_0)).trans hw166_0)⟩ (fun hHeld=>?_);refine with_tabW spec_l20Glued.tab22 spec_l20Glued.bits22 (fun HT_ HW_=>?_);generalize a0z.drew=a7b at HO_131001 c3 a2 a4 a7 a0 HB e5 hHeld ⊢;refine pure_ (i:=0) (N:=some 113) (v:=?_) (a':=?_) (zqb 17 1) rfl rfl (any_of HT_.out zqk) (fun _ _ _ h=>h) (Or.inl ⟨by rfl,?_⟩) ?_ ?_;rotate_left
              ·exact zqt
              rotate_left
              ·exact zqs
              refine pure_ (i:=2) (N:=some 115) (v:=?_) (a':=?_) (zqb 17 5) rfl rfl (any_of HT_.out zqk) (fun _ _ _ h=>h) (Or.inl ⟨by rfl,?_⟩) ?_ ?_;rotate_left
              ·exact zqt
              rotate_left
              ·exact zqs
              refine pure_ (i:=4) (N:=some 117) (v:=?_) (a':=?_) (zqb 17 21) rfl rfl (any_of HT_.out zqk) (fun _ _ _ h=>h) (Or.inl ⟨by rfl,?_⟩) ?_ ?_;rotate_left
              ·exact zqt
              rotate_left
              ·exact zqs
              refine pure_ (i:=5) (N:=some 118) (v:=?_) (a':=?_) (zqb 17 53) rfl rfl (any_of HT_.out zqk) (fun _ _ _ h=>h) (Or.inl ⟨by rfl,?_⟩) ?_ ?_;rotate_left
              ·exact zqt
              rotate_left
              ·exact zqs
              refine pure_ (i:=6) (N:=some 119) (v:=?_) (a':=?_) (zqb 17 117) rfl rfl (any_of HT_.out zqk) (fun _ _ _ h=>h) (Or.inl ⟨by rfl,?_⟩) ?_ ?_;rotate_left
              ·exact zqt
              rotate_left
              ·exact zqs
              refine pure_ (i:=7) (N:=some 120) (v:=?_) (a':=?_) (zqb 17 245) rfl rfl (any_of HT_.out zqk) (fun _ _ _ h=>h) (Or.inl ⟨by rfl,?_⟩) ?_ ?_;rotate_left
              ·exact zqt
              rotate_left
              ·exact zqs
              refine pure_ (i:=10) (N:=some 123) (v:=?_) (a':=?_) (zqb 17 1269) rfl rfl (any_of HT_.out zqk) (fun _ _ _ h=>h) (Or.inl ⟨by rfl,?_⟩) ?_ ?_;rotate_left
              ·exact zqt
              rotate_left
              ·exact zqs
              refine take_ (i:=1) (N:=some 114) (v:=?_) (a':=?_) (zqb 17 1271) rfl rfl (take_ofW HT_.out HW_.out zqk) (fun _ _ _ h=>h) (Or.inl ⟨by rfl,?_⟩) hHeld ?_ ?_;rotate_left
              ·rintro w' ⟨s0,s1,s2,s3,s4⟩;go_simp;with_reducible rfl
              rotate_left
              ·exact zqs
              refine take_ (i:=3) (N:=some 116) (v:=?_) (a':=?_) (zqb 17 1279) rfl rfl (take_ofW HT_.out HW_.out zqk) (fun _ _ _ h=>h) (Or.inl ⟨by rfl,?_⟩) hHeld ?_ ?_;rotate_left
              ·rintro w' ⟨s0,s1,s2,s3,s4⟩;go_simp;with_reducible rfl
              rotate_left
              ·exact zqs
              refine pure_ (i:=8) (N:=some 121) (v:=?_) (a':=?_) (zqb 17 1535) rfl rfl (any_of HT_.out zqk) (fun _ _ _ h=>h) (Or.inl ⟨by rfl,?_⟩) ?_ ?_;rotate_left
              ·exact zqt
              rotate_left
              ·exact zqs
              refine take_ (i:=9) (N:=some 122) (v:=?_) (a':=?_) (zqb 17 2047) rfl rfl (take_ofW HT_.out HW_.out zqk) (fun _ _ _ h=>h) (Or.inl ⟨by rfl,?_⟩) hHeld ?_ ?_;rotate_left
              ·rintro w' ⟨s0,s1,s2,s3,s4⟩;go_simp;with_reducible rfl
              rotate_left
              ·exact zqs
              refine pure_ (i:=11) (N:=some 124) (v:=?_) (a':=?_) (zqb 17 4095) rfl rfl (any_of HT_.out zqk) (fun _ _ _ h=>h) (Or.inl ⟨by rfl,?_⟩) ?_ ?_;rotate_left
              ·exact zqt
              rotate_left
              ·exact zqs
              refine pure_ (i:=12) (N:=some 125) (v:=?_) (a':=?_) (zqb 17 8191) rfl rfl (any_of HT_.out zqk) (fun _ _ _ h=>h) (Or.inl ⟨by rfl,?_⟩) ?_ ?_;rotate_left
              ·exact zqt
              rotate_left
              ·exact zqs
              refine one_ (i:=13) (N:=some 126) (zqb 17 16383) rfl rfl (one_of HT_.out zqk) (by decide) (fun K hK=>?_);refine value_ (w1:=?_) (v:=?_) (by rfl) rfl ?_ ?_;rotate_left 2
              ·go_simp
               constructor
               ·rfl
               ·rfl
              refine hK.out _ _ ⟨(blk_cell (blk_alloc a0.out _) 0).trans rfl,(blk_cell (blk_alloc a0.out _) 1).trans rfl,(blk_cell (blk_alloc a4.out _) 0).trans rfl,(blk_cell (blk_alloc a4.out _) 1).trans rfl,(World.cell?_alloc_lt _ _ _ (World.block_lt_of_cell? _ _ (((HB.out.cell (World.block_lt_of_cell? w _ hw166_0)).trans hw166_0)))).trans (((HB.out.cell (World.block_lt_of_cell? w _ hw166_0)).trans hw166_0))⟩ (fun hHeld=>?_);clear hK K;refine norm_ (a':=?_) ?_ ?_;rotate_left
              ·show Act.put _ (some 126) _=_;exact zqs
              refine one_ (i:=14) (N:=some 127) (zqb 17 32767) rfl rfl (one_of HT_.out zqk) (by decide) (fun K hK=>?_);refine Kd.R_append_step (Kd.int .i64) (w0:=w) w.heap.size (by rfl) (.tmp 114) (.tmp 126) 24 3 (.int .i64 0) 8 rfl Try.underlying24 info3 rfl (by decide) (by omega) a1 a3 (wrap64 ((wrap64 ((rd l1_1 (c9))+(l0_1.length:Int))) - 2)) [.int .i64 (wrap64 ((wrap64 ((rd l1_1 (c9))+(l0_1.length:Int))) - 2))] (fun _=>True) (fun _=>False) rfl rfl ?aP (fun _ hk=>hk.elim) ?aF ?aO ?aB ?aS ?aL ?_;(case aP=>exact rfl);(case aB=> exact zq41);(case aF=>exact(fun _ _=>trivial));(case aO=> exact zq304);(case aS=> exact zq34);(case aL=>have:=LMc106.out;omega);intro a7a a1a ho hb hg hat;rw [← x1.out] at ho;replace a2:=zqm (blk_grown (g:=b7) (o:= .cells #[.slice A0_0 l0_0.length c0_0,.slice A0_1 l0_1.length c0_1] 26 (0,0)) zq10 hg (Kd.R_ne HO_131001.out a2.out (by decide)));replace a4:=zqm (blk_grown (g:=b8) (o:= .cells #[.slice A1_0 l1_0.length c1_0,.slice (some l9) l1_1.length c1_1] 26 (0,0)) zq8 hg (Kd.R_ne HO_131001.out a4.out (by decide)));replace a7:=zqm (blk_grown (g:=b9) (o:= .cells #[.slice none 0 0,.slice none 0 0] 26 (0,0)) zq38 hg (Kd.R_ne HO_131001.out a7.out (by decide)));replace a0:=zqm (blk_grown (g:=a6) (o:= .cells #[.slice c7 b5.length c8,a1] 26 (0,0)) zq2 hg (Kd.R_ne HO_131001.out a0.out (by decide)));replace c3:=zqm (Kd.S_after (ok:=(fun _=>True)) zq300 hg hat);replace HB:=zqm (hb);have p4:=zqm (ho);clear HO_131001;clear ho hb hg hat;obtain⟨l6,m4,s7⟩:=Kd.R_slice p4.out;(first|subst s7|(injection s7 with m8 t6 m9;have t7:=m8.symm;have t8:=m9.symm;clear m8 t6 m9;subst t7;subst t8));refine hK.out _ _ ⟨(blk_cell a0.out 0).trans rfl,(blk_cell a0.out 1).trans rfl,(blk_cell a4.out 0).trans rfl,(blk_cell a4.out 1).trans rfl,((HB.out.cell (World.block_lt_of_cell? w _ hw166_0)).trans hw166_0)⟩ (fun hHeld=>?_);clear hK K;refine norm_ (a':=?_) ?_ ?_;rotate_left
              ·show Act.put _ (some 127) _=_;exact zqs
              refine pure_ (i:=15) (N:=some 128) (v:=?_) (a':=?_) (zqb 17 65535) rfl rfl (any_of HT_.out zqk) (fun _ _ _ h=>h) (Or.inl ⟨by rfl,?_⟩) ?_ ?_;rotate_left
              ·exact zqt
              rotate_left
              ·exact zqs
              refine last_ (i:=16) (N:=none) (zqb 17 131071) rfl rfl (one_of HT_.out zqk) (by decide) (fun K hK=>?_);have hs119:a1a.cell? ⟨a6,1,none⟩=some (a1):=(blk_cell a0.out 1).trans rfl;have hfs119:=blk_frozen a0.out 1;have hns119_0:=c0.out;have hns119_1:=c1.out;have hns119_2:=c2.out;have hms119_0:=c5.out;have hms119_1:=c6.out;have hms119_2:=d1.out;refine skip_ (w1:=?_) (by rfl) rfl ?_ ?_;rotate_left
              ·go_simp;rfl
              refine hK.out _ _ ?_;clear hK K;refine done_ (done_of HT_.out zqk) ?_;try go_wp2
              go_roundg k2
              (case measure=>have:=d2.out;have:=d3.out;omega);case rel=>exact⟨(wrap64 (a5+1)),(b5),(k0),(.slice c7 b5.length c8),(.slice l6 k0.length m4),(by first|rfl|(simp;done)|(simp [*];done)),H',⟨by have:=d2.out;have:=d3.out;omega⟩,⟨by(with_reducible repeat(first|apply Kd.S_alloc|apply Kd.S_drewN|apply Kd.S_drew));exact Kd.S_mono (Kd.S_far (p:=⟨a6,1,none⟩) (Kd.S_types c3.out a0.out (by decide)) (fun _ hk=>hk.2) (.slice l6 k0.length m4)) (fun _ hk=>hk.1.2)⟩,⟨by(with_reducible repeat(first|apply Kd.R_alloc|apply Kd.R_drewN|apply Kd.R_drew));exact Kd.R_mono (Kd.R_far (p:=⟨a6,1,none⟩) (Kd.R_types p4.out a0.out (by decide)) (fun _ hk=>hk.2) (.slice l6 k0.length m4)) (fun _ hk=>trivial)⟩,⟨zq61⟩,⟨zq62⟩,⟨zq63⟩,⟨by(with_reducible repeat(first|refine blk_drewN ?_ _|refine blk_drew ?_|refine blk_alloc ?_ _));refine blk_put (cs:= #[.slice c7 b5.length c8,a1]) ?_ 1 _ rfl;(with_reducible repeat(first|refine blk_drewN ?_ _|refine blk_drew ?_|refine blk_alloc ?_ _));exact a0.out⟩,⟨zq7⟩⟩
             ·rw [if_neg m2] at H;exact absurd H (by simp)
            ·rw [if_neg m1] at H;exact absurd H (by simp)
           ·rw [if_neg m0] at H;exact absurd H (by simp)
       ·rw [if_neg r4] at H;exact absurd H (by simp)
   ·rw [if_neg k3] at H;have x4:decide (a5<(wrap64 ((wrap64 ((l0_1.length:Int)+(l1_1.length:Int))) - 2)))=false:=decide_eq_false k3;clear k3;simp only [Option.some.injEq,Prod.mk.injEq] at H;obtain⟨rfl,rfl⟩:=H;have a3p:=c5.out;have a3x:=c0.out;have a3q:=c6.out;have a3y:=c1.out;have a3r:=d1.out;have a3z:=c2.out;have a0m:wr.cell? ⟨a6,0,none⟩=some (b0):=(blk_cell a0.out 0).trans rfl;have a0n:wr.cell? ⟨a6,1,none⟩=some (a1):=(blk_cell a0.out 1).trans rfl;have a0u:=blk_frozen a0.out 0;have a0v:=blk_frozen a0.out 1;obtain⟨i3,i5,y7⟩:=Kd.S_slice HO_131000.out;subst y7;have a3s:=f1.out;have a4a:=e8.out;have a3t:=f2.out;have a4b:=f0.out;have a0o:wr.cell? ⟨b9,0,none⟩=some (.slice none 0 0):=(blk_cell a7.out 0).trans rfl;have a0p:wr.cell? ⟨b9,1,none⟩=some (.slice none 0 0):=(blk_cell a7.out 1).trans rfl;have a0w:=blk_frozen a7.out 0;have a0x:=blk_frozen a7.out 1;obtain⟨l7,m5,y8⟩:=Kd.R_slice HO_131001.out;subst y8
    go_wp2
    refine bodyPost_ret (results_cell_row rfl _ _ b9 26 #[.slice i3 a8.length i5,.slice l7 a3.length m5] (0,0) _ rfl (by(with_reducible repeat(first|refine blk_drewN ?_ _|refine blk_drew ?_|refine blk_alloc ?_ _));refine blk_put (cs:= #[.slice i3 a8.length i5,.slice none 0 0]) ?_ 1 _ rfl;(with_reducible repeat(first|refine blk_drewN ?_ _|refine blk_drew ?_|refine blk_alloc ?_ _));refine blk_put (cs:= #[.slice none 0 0,.slice none 0 0]) ?_ 0 _ rfl;(with_reducible repeat(first|refine blk_drewN ?_ _|refine blk_drew ?_|refine blk_alloc ?_ _));exact a7.out) Try.underlying26 rfl zqk) rfl ?_;exact⟨_,_,zq11,by(with_reducible repeat(first|apply Kd.S_alloc|apply Kd.S_drewN|apply Kd.S_drew));exact Kd.S_mono (Kd.S_far (p:=⟨b9,1,none⟩) (Kd.S_far (p:=⟨b9,0,none⟩) (Kd.S_types HO_131000.out a7.out (by decide)) (fun _ hk=>hk.2) (.slice i3 a8.length i5)) (fun _ hk=>hk.2) (.slice l7 a3.length m5)) (fun _ hk=>hk.1),by(with_reducible repeat(first|apply Kd.R_alloc|apply Kd.R_drewN|apply Kd.R_drew));exact Kd.R_mono (Kd.R_far (p:=⟨b9,1,none⟩) (Kd.R_far (p:=⟨b9,0,none⟩) (Kd.R_types HO_131001.out a7.out (by decide)) (fun _ hk=>hk.2) (.slice i3 a8.length i5)) (fun _ hk=>hk.2) (.slice l7 a3.length m5)) (fun _ hk=>trivial),zq7⟩
end Go.Proofs.Ytcbjpdaogicibaa.Print
end
section
namespace Go.Proofs.Ytcbjpdaogicibaa.Print
open Go.RowKit Go.Proofs.YtcbjpdaogicibaaW.PrintWords Go.Proofs.YtcbjpdaogicibaaW.PrintLast Go.Proofs.YtcbjpdaogicibaaW.PrintMore
attribute [local go_sem] max2_int min2_int max_two min_two max_three min_three max_four min_four   -- for this text's walks alone
def spec_l1In.f (a0 : Int) (a1 : Int) (a2 : Int) : Option (Bool) := if a0 ≥ a1 then (some (decide (a0 ≤ a2))) else (some false)
set_option maxHeartbeats 8000000 in
set_option maxRecDepth 100000 in
theorem spec_l1In.calls (a0 : Int) (a1 : Int) (a2 : Int) (r : Bool) (w : World) (h : spec_l1In.f a0 a1 a2 = some r) :
  Calls Try.prog 78 #[.int .i64 a0, .int .i64 a1, .int .i64 a2] w fun e w' => e = .returned (.bool r) ∧ Drawn0 w w' := by
 have H : (if a0 ≥ a1 then (some (decide (a0 ≤ a2))) else (some false)) = some r := h
 clear h
 by_cases c4 : a0 ≥ a1
 ·rw [if_pos c4] at H
  have c4b0 : decide (a1 ≤ a0) = true := decide_eq_true c4
  clear c4
  obtain rfl := Option.some.inj H
  go_enter Try.func78, Try.ntmps78
  go_wp2
  go_ret
  exact ⟨zq318, by repeat (first | exact Drawn0.refl _ | apply Drawn0.step)⟩
 ·rw [if_neg c4] at H
  have c4b0 : decide (a1 ≤ a0) = false := decide_eq_false c4
  clear c4
  obtain rfl := Option.some.inj H
  go_enter Try.func78, Try.ntmps78
  go_wp2
  go_ret
  exact ⟨zq318, by repeat (first | exact Drawn0.refl _ | apply Drawn0.step)⟩
end Go.Proofs.Ytcbjpdaogicibaa.Print
end
section
namespace Go.Proofs.Ytcbjpdaogicibaa.Print
open Go.RowKit Go.Proofs.YtcbjpdaogicibaaW.PrintWords Go.Proofs.YtcbjpdaogicibaaW.PrintLast Go.Proofs.YtcbjpdaogicibaaW.PrintMore
attribute [local go_sem] max2_int min2_int max_two min_two max_three min_three max_four min_four   -- for this text's walks alone
mutual
def spec_l20Pasted.l0 : Nat → Int → List (List Int) → Option ((List (List Int)) × List Int)
 | 0, _, _ => none
 | k + 1, x2, x172000 => if x2 < 12 then (spec_l20Pasted.l1 k x2 (([] : List Int)) 0 x172000) else (some (x172000, (([11, 6, 7, 8, 9, 10, 1, 2, 3, 4, 5, 0] : List Int))))
def spec_l20Pasted.l1 : Nat → Int → List Int → Int → List (List Int) → Option ((List (List Int)) × List Int)
 | 0, _, _, _, _ => none
 | k + 1, x2, x3, x4, x172000 => if x4 < 12 then (if x2 = x4 then (spec_l20Pasted.j2 k x2 x3 x4 0 true x172000) else (if x2 = 0 then (spec_l20Pasted.j2 k x2 x3 x4 0 true x172000) else (spec_l20Pasted.j2 k x2 x3 x4 0 (x4 == 11) x172000))) else (if x172000.length < 5864062014805 then (spec_l20Pasted.l0 k (wrap64 (x2 + 1)) (x172000 ++ [x3])) else (none))
def spec_l20Pasted.j2 : Nat → Int → List Int → Int → Int → Bool → List (List Int) → Option ((List (List Int)) × List Int)
 | 0, _, _, _, _, _, _ => none
 | k + 1, x2, x3, x4, x5, x17, x172000 => if x17 = true then (if x3.length < 17592186044416 then (spec_l20Pasted.l1 k x2 (x3 ++ [1]) (wrap64 (x4 + 1)) x172000) else (none)) else ((spec_l1In.f x2 1 5).bind fun t184 => (if t184 = true then ((spec_l1In.f x4 6 10).bind fun t185 => (if t185 = true then (spec_l20Pasted.j3 k x2 x3 x4 x5 (x2 != (wrap64 (x4 - 5))) x172000) else (spec_l20Pasted.j3 k x2 x3 x4 x5 false x172000))) else (spec_l20Pasted.j3 k x2 x3 x4 x5 false x172000)))
def spec_l20Pasted.j3 : Nat → Int → List Int → Int → Int → Bool → List (List Int) → Option ((List (List Int)) × List Int)
 | 0, _, _, _, _, _, _ => none
 | k + 1, x2, x3, x4, x5, x29, x172000 => if x29 = true then (if x2 ≤ 3 then (if (wrap64 (x4 - 5)) ≤ 3 then (if x3.length < 17592186044416 then (spec_l20Pasted.l1 k x2 (x3 ++ [1]) (wrap64 (x4 + 1)) x172000) else (none)) else (if x2 ≥ 3 then (if (wrap64 (x4 - 5)) ≥ 3 then (if x3.length < 17592186044416 then (spec_l20Pasted.l1 k x2 (x3 ++ [1]) (wrap64 (x4 + 1)) x172000) else (none)) else (if x3.length < 17592186044416 then (spec_l20Pasted.l1 k x2 (x3 ++ [x5]) (wrap64 (x4 + 1)) x172000) else (none))) else (if x3.length < 17592186044416 then (spec_l20Pasted.l1 k x2 (x3 ++ [x5]) (wrap64 (x4 + 1)) x172000) else (none)))) else (if x2 ≥ 3 then (if (wrap64 (x4 - 5)) ≥ 3 then (if x3.length < 17592186044416 then (spec_l20Pasted.l1 k x2 (x3 ++ [1]) (wrap64 (x4 + 1)) x172000) else (none)) else (if x3.length < 17592186044416 then (spec_l20Pasted.l1 k x2 (x3 ++ [x5]) (wrap64 (x4 + 1)) x172000) else (none))) else (if x3.length < 17592186044416 then (spec_l20Pasted.l1 k x2 (x3 ++ [x5]) (wrap64 (x4 + 1)) x172000) else (none)))) else (if x3.length < 17592186044416 then (spec_l20Pasted.l1 k x2 (x3 ++ [x5]) (wrap64 (x4 + 1)) x172000) else (none))
end
def spec_l20Pasted.f (k : Nat)  : Option ((List (List Int)) × List Int) := spec_l20Pasted.l0 k 0 ([] : List (List Int))
theorem spec_l20Pasted.mono_l : ∀ k, (∀ y0 y1, LeO (spec_l20Pasted.l0 k y0 y1) (spec_l20Pasted.l0 (k + 1) y0 y1)) ∧ (∀ y0 y1 y2 y3, LeO (spec_l20Pasted.l1 k y0 y1 y2 y3) (spec_l20Pasted.l1 (k + 1) y0 y1 y2 y3)) ∧ (∀ y0 y1 y2 y3 y4 y5, LeO (spec_l20Pasted.j2 k y0 y1 y2 y3 y4 y5) (spec_l20Pasted.j2 (k + 1) y0 y1 y2 y3 y4 y5)) ∧ (∀ y0 y1 y2 y3 y4 y5, LeO (spec_l20Pasted.j3 k y0 y1 y2 y3 y4 y5) (spec_l20Pasted.j3 (k + 1) y0 y1 y2 y3 y4 y5))
 | 0 => ⟨fun _ _ r h => by simp [spec_l20Pasted.l0] at h, fun _ _ _ _ r h => by simp [spec_l20Pasted.l1] at h, fun _ _ _ _ _ _ r h => by simp [spec_l20Pasted.j2] at h, fun _ _ _ _ _ _ r h => by simp [spec_l20Pasted.j3] at h⟩
 | k + 1 => by
  obtain ⟨ih0, ih1, ih2, ih3⟩ := spec_l20Pasted.mono_l k
  refine ⟨?_, ?_, ?_, ?_⟩
  ·intro y0 y1
   unfold spec_l20Pasted.l0
   repeat' first
   | (with_reducible exact ih0 _ _)
   | (with_reducible exact ih1 _ _ _ _)
   | (with_reducible exact ih2 _ _ _ _ _ _)
   | (with_reducible exact ih3 _ _ _ _ _ _)
   | (with_reducible exact LeO.refl _)
   | (with_reducible exact LeO.none _)
   | (with_reducible refine LeO.ite ?_ ?_)
   | (with_reducible refine LeO.bind ?_ (fun _ => ?_))
   | exact ih0 _ _
   | exact ih1 _ _ _ _
   | exact ih2 _ _ _ _ _ _
   | exact ih3 _ _ _ _ _ _
   | exact LeO.none _
   | refine LeO.ite ?_ ?_
   | refine LeO.bind ?_ (fun _ => ?_)
  ·intro y0 y1 y2 y3
   unfold spec_l20Pasted.l1
   repeat' first
   | (with_reducible exact ih0 _ _)
   | (with_reducible exact ih1 _ _ _ _)
   | (with_reducible exact ih2 _ _ _ _ _ _)
   | (with_reducible exact ih3 _ _ _ _ _ _)
   | (with_reducible exact LeO.refl _)
   | (with_reducible exact LeO.none _)
   | (with_reducible refine LeO.ite ?_ ?_)
   | (with_reducible refine LeO.bind ?_ (fun _ => ?_))
   | exact ih0 _ _
   | exact ih1 _ _ _ _
   | exact ih2 _ _ _ _ _ _
   | exact ih3 _ _ _ _ _ _
   | exact LeO.none _
   | refine LeO.ite ?_ ?_
   | refine LeO.bind ?_ (fun _ => ?_)
  ·intro y0 y1 y2 y3 y4 y5
   unfold spec_l20Pasted.j2
   repeat' first
   | (with_reducible exact ih0 _ _)
   | (with_reducible exact ih1 _ _ _ _)
   | (with_reducible exact ih2 _ _ _ _ _ _)
   | (with_reducible exact ih3 _ _ _ _ _ _)
   | (with_reducible exact LeO.refl _)
   | (with_reducible exact LeO.none _)
   | (with_reducible refine LeO.ite ?_ ?_)
   | (with_reducible refine LeO.bind ?_ (fun _ => ?_))
   | exact ih0 _ _
   | exact ih1 _ _ _ _
   | exact ih2 _ _ _ _ _ _
   | exact ih3 _ _ _ _ _ _
   | exact LeO.none _
   | refine LeO.ite ?_ ?_
   | refine LeO.bind ?_ (fun _ => ?_)
  ·intro y0 y1 y2 y3 y4 y5
   unfold spec_l20Pasted.j3
   repeat' first
   | (with_reducible exact ih0 _ _)
   | (with_reducible exact ih1 _ _ _ _)
   | (with_reducible exact ih2 _ _ _ _ _ _)
   | (with_reducible exact ih3 _ _ _ _ _ _)
   | (with_reducible exact LeO.refl _)
   | (with_reducible exact LeO.none _)
   | (with_reducible refine LeO.ite ?_ ?_)
   | (with_reducible refine LeO.bind ?_ (fun _ => ?_))
   | exact ih0 _ _
   | exact ih1 _ _ _ _
   | exact ih2 _ _ _ _ _ _
   | exact ih3 _ _ _ _ _ _
   | exact LeO.none _
   | refine LeO.ite ?_ ?_
   | refine LeO.bind ?_ (fun _ => ?_)
theorem spec_l20Pasted.mono : ∀ k, LeO (spec_l20Pasted.f k ) (spec_l20Pasted.f (k + 1) ) := by
 intro  k
 obtain ⟨ih0, ih1, ih2, ih3⟩ := spec_l20Pasted.mono_l k
 unfold spec_l20Pasted.f
 repeat' first
   | (with_reducible exact ih0 _ _)
   | (with_reducible exact ih1 _ _ _ _)
   | (with_reducible exact ih2 _ _ _ _ _ _)
   | (with_reducible exact ih3 _ _ _ _ _ _)
   | (with_reducible exact LeO.refl _)
   | (with_reducible exact LeO.none _)
   | (with_reducible refine LeO.ite ?_ ?_)
   | (with_reducible refine LeO.bind ?_ (fun _ => ?_))
   | exact ih0 _ _
   | exact ih1 _ _ _ _
   | exact ih2 _ _ _ _ _ _
   | exact ih3 _ _ _ _ _ _
   | exact LeO.none _
   | refine LeO.ite ?_ ?_
   | refine LeO.bind ?_ (fun _ => ?_)
set_option maxHeartbeats 8000000 in
set_option maxRecDepth 100000 in
theorem spec_l20Pasted.calls (k : Nat)  (r1 : List (List Int)) (r2 : List Int) (w : World) (h : spec_l20Pasted.f k  = some (r1, r2)) :
  Calls Try.prog 129 #[] w fun e w' => ∃ v0_ v1_ : Value, e = .returned (.agg #[v0_, v1_]) ∧ Kd.S (Kd.slice 3 (Kd.int .i64)) 24 w' w.heap.size (fun k_ => some k_ ≠ (v1_ : Value).ownBlock) v0_ r1 ∧ Kd.R (Kd.int .i64) 3 w' w.heap.size (fun _ => True) v1_ r2 ∧ Below w.heap.size w w' := by
 have hu26:=Try.underlying26;have HB:=zqm (Below.refl w.heap.size w);have H:(spec_l20Pasted.l0 k 0 ([]:List (List Int)))=some (r1,r2):=h;clear h;have H':=zqm H;clear H
 go_enter Try.func129,Try.ntmps129
 go_wp2_with (first|((with_reducible refine gate_dst (N:=0) rfl ?_);refine box_event ?hg (N:=0) ?hd (cs:= #[.slice none 0 0,.slice none 0 0]) (t:=26) ?hr ?_;(case hd=>rfl);(case hg=>rfl);(case hr=>first|(go_simp;done)|(go_simp;rfl));intro b0 hg w1 hbox hb;have f5:=zqm (below_step zq0 hb);have a2:=zqm (hbox);have q0:=zqm ((by rw [hg];exact(below_size zq0):w.heap.size≤b0));have a6:=zqm ((by rw [hg];exact(below_size zq0):w.heap.size≤b0));clear HB;have HB:=f5;clear f5 hb hbox hg)|((with_reducible refine gate_dst (N:=1) rfl ?_);refine box_event ?hg (N:=1) ?hd (cs:= #[.slice none 0 0,.slice none 0 0]) (t:=26) ?hr ?_;(case hd=>rfl);(case hg=>rfl);(case hr=>first|(go_simp;done)|(go_simp;rfl));intro a9 hg w2 hbox hb;have f5:=zqm (blk_below (g:=b0) (o:= .cells #[.slice none 0 0,.slice none 0 0] 26 (0,0)) zq10 hb);have n0:=zqm (below_step zq3 hb);have a1:=zqm (hbox);have q1:=zqm ((by rw [hg];exact(below_size zq3):w.heap.size≤a9));have a7:=zqm ((by rw [hg];exact(below_size zq3):w.heap.size≤a9));have b5:=zqm ((by rw [hg];exact Nat.ne_of_lt (blk_lt (g:=b0) (o:= .cells #[.slice none 0 0,.slice none 0 0] 26 (0,0)) zq10):b0≠a9));have b9:=zqm ((by rw [hg];exact Nat.ne_of_gt (blk_lt (g:=b0) (o:= .cells #[.slice none 0 0,.slice none 0 0] 26 (0,0)) zq10):a9≠b0));clear a2 HB;have a2:=f5;have HB:=n0;clear f5 n0 hb hbox hg;have q6:=b9.out;have q7:=b5.out;have p4:w2.cell? ⟨a9,0,none⟩=some (.slice none 0 0):=(blk_cell a1.out 0).trans rfl;have p5:w2.cell? ⟨a9,1,none⟩=some (.slice none 0 0):=(blk_cell a1.out 1).trans rfl;have p6:=blk_frozen a1.out 0;have p7:=blk_frozen a1.out 1))
 go_loopg [2] k (fun kq v2 w'=> ∃(a3:Int) (a0:List (List Int)) (a8:Value),v2= .int .i64 a3∧Aside0 (spec_l20Pasted.l0 kq a3 a0=some (r1,r2))∧Aside0 (kq≤k)∧Aside0 (Kd.S (Kd.slice 3 (Kd.int .i64)) 24 w' w.heap.size (fun _=>True) a8 a0)∧Aside0 (w'.heap[b0]? =some (.cells #[(.slice none 0 0),(.slice none 0 0)] 26 (0,0)))∧Aside0 (w'.heap[a9]? =some (.cells #[a8,(.slice none 0 0)] 26 (0,0)))∧Aside0 (Below w.heap.size w w'))
 case atStart=>exact⟨(0),(([]:List (List Int))),(.slice none 0 0),(by first|rfl|(simp;done)|(simp [*];done)),H',⟨Nat.le_refl _⟩,⟨zq229⟩,⟨by(with_reducible repeat(first|refine blk_drewN ?_ _|refine blk_drew ?_|refine blk_alloc ?_ _));refine blk_far ?_ b5.out _;(with_reducible repeat(first|refine blk_drewN ?_ _|refine blk_drew ?_|refine blk_alloc ?_ _));refine blk_far ?_ b5.out _;(with_reducible repeat(first|refine blk_drewN ?_ _|refine blk_drew ?_|refine blk_alloc ?_ _));exact a2.out⟩,⟨zq114⟩,⟨zq14⟩⟩
 case round=>
  clear H';obtain⟨a3,a0,a8,rfl,HA,b3,HO_172000,a2,a1,HB⟩:=hrel
  cases gk with
  |zero=>exact absurd HA.out (by simp [spec_l20Pasted.l0])
  |succ k1=>
   have H:=HA.out;clear HA;simp only [spec_l20Pasted.l0] at H
   by_cases c5:a3<12
   ·rw [if_pos c5] at H;have n2:decide (a3<12)=true:=decide_eq_true c5;clear c5;obtain⟨i4,c3⟩: ∃y_:List Int,y_=(([]:List Int)):=⟨_,rfl⟩;(replace H:(spec_l20Pasted.l1 k1 a3 i4 0 a0)=some (r1,r2):=by first|(rw [c3];with_reducible exact H)|(have b1:=(Option.bind_some _ _).symm.trans H;rw [c3];with_reducible exact b1)|(have b1:=(Option.bind_some _ _).symm.trans H;with_reducible exact b1)|with_reducible exact H|(rw [c3];exact H)|exact H);have g0:=zqm c3;clear c3;have H':=zqm H;clear H
    go_wp2_with (first|((with_reducible refine gate_dst (N:=12) rfl ?_);refine Kd.R_lit (Kd.int .i64) _ 3 ?hg (N:=12) ?hd (xs:=([]:List Int)) (inner:= []) (ok:=fun _=>True) (okp:=fun _=>True) ?hr ?hp (fun _ hk=>hk) trivial (Below.refl _ _) (Nat.le_refl _) (by simp) ?_;(case hd=>rfl);(case hg=>rfl);(case hr=>first|(go_simp;done)|(go_simp;rfl));(case hp=>exact(Reps.none _ _));intro q9 w6 f0 hb hg_ hnew_;clear hg_ hnew_;(first|rw [← g0.out] at f0|(simp only [Int.reduceToNat] at f0;rw [← g0.out] at f0));replace HO_172000:=zqm (Kd.S_elder' zq118 (Kd.R_base f0) hb);have j6:=zqm (Kd.R_lower f0 (below_size zq14));replace a2:=zqm (blk_below (g:=b0) (o:= .cells #[.slice none 0 0,.slice none 0 0] 26 (0,0)) zq10 hb);replace a1:=zqm (blk_below (g:=a9) (o:= .cells #[a8,.slice none 0 0] 26 (0,0)) zq12 hb);replace HB:=zqm (below_step zq14 hb);clear hb f0))
    go_loopg [3,4] k1 (fun kq v3 v4 w'=> ∃(a5:List Int) (a4:Int),v4= .int .i64 a4∧Aside0 (spec_l20Pasted.l1 kq a3 a5 a4 a0=some (r1,r2))∧Aside0 (kq≤k1)∧Aside0 (Kd.R (Kd.int .i64) 3 w' w.heap.size (fun _=>True) v3 a5)∧Aside0 (Kd.S (Kd.slice 3 (Kd.int .i64)) 24 w' w.heap.size (fun k_=>some k_≠(v3:Value).ownBlock) a8 a0)∧Aside0 (w'.heap[b0]? =some (.cells #[(.slice none 0 0),(.slice none 0 0)] 26 (0,0)))∧Aside0 (w'.heap[a9]? =some (.cells #[a8,(.slice none 0 0)] 26 (0,0)))∧Aside0 (Below w.heap.size w w'))
    case atStart=>exact⟨(i4),(0),(by first|rfl|(simp;done)|(simp [*];done)),H',⟨Nat.le_refl _⟩,⟨by(with_reducible repeat(first|apply Kd.R_alloc|apply Kd.R_drewN|apply Kd.R_drew));exact j6.out⟩,⟨zq78⟩,⟨zq10⟩,⟨zq12⟩,⟨zq14⟩⟩
    case round=>
     clear H';obtain⟨a5,a4,rfl,HA,b4,HO_3,HO_172000,a2,a1,HB⟩:=hrel
     cases gk with
     |zero=>exact absurd HA.out (by simp [spec_l20Pasted.l1])
     |succ k2=>
      have H:=HA.out;clear HA;simp only [spec_l20Pasted.l1] at H
      by_cases c8:a4<12
      ·rw [if_pos c8] at H;have n3:decide (a4<12)=true:=decide_eq_true c8;clear c8;have i1:=zqm H;clear H
       go_upto_region 10 with (fail)
       go_cut [17] (fun p8 wc=> ∃(kq:Nat) (d9:Bool),p8= .bool d9∧Aside0 (spec_l20Pasted.j2 kq a3 a5 a4 0 d9 a0=some (r1,r2))∧Aside0 (kq≤k2)∧Aside0 (Kd.R (Kd.int .i64) 3 wc w.heap.size (fun _=>True) u3 a5)∧Aside0 (Kd.S (Kd.slice 3 (Kd.int .i64)) 24 wc w.heap.size (fun k_=>some k_≠(u3:Value).ownBlock) a8 a0)∧Aside0 (wc.heap[b0]? =some (.cells #[(.slice none 0 0),(.slice none 0 0)] 26 (0,0)))∧Aside0 (wc.heap[a9]? =some (.cells #[a8,(.slice none 0 0)] 26 (0,0)))∧Aside0 (Below w.heap.size w wc))
       case first=>
        have H:=i1.out;clear i1
        by_cases e1:a3=a4
        ·rw [if_pos e1] at H;have c1:(a3==a4)=true:=beq_iff_eq.mpr e1;have m0:(a3 !=a4)=false:=bne_eq_false_iff_eq.mpr e1;clear e1;(first|rw [c1]|(simp only [i64_w,i32_w];rw [c1])|skip);have H':=zqm H;clear H
         go_wp2
         go_meet
         case rel=>exact⟨_,(true),(by first|rfl|(simp;done)|(simp [*];done)),H',⟨zq326⟩,⟨zq50⟩,⟨zq118⟩,⟨zq10⟩,⟨zq12⟩,⟨zq14⟩⟩
        ·rw [if_neg e1] at H;have c1:(a3==a4)=false:=beq_eq_false_iff_ne.mpr e1;have m0:(a3 !=a4)=true:=bne_iff_ne.mpr e1;(first|rw [c1]|(simp only [i64_w,i32_w];rw [c1])|skip)
         by_cases e2:a3=0
         ·rw [if_pos e2] at H;have m1:(a3==0)=true:=beq_iff_eq.mpr e2;have m2:(a3 !=0)=false:=bne_eq_false_iff_eq.mpr e2;clear e2;have H':=zqm H;clear H
          go_wp2
          go_meet
          case rel=>exact⟨_,(true),(by first|rfl|(simp;done)|(simp [*];done)),H',⟨zq326⟩,⟨zq50⟩,⟨zq118⟩,⟨zq10⟩,⟨zq12⟩,⟨zq14⟩⟩
         ·rw [if_neg e2] at H;have m1:(a3==0)=false:=beq_eq_false_iff_ne.mpr e2;have m2:(a3 !=0)=true:=bne_iff_ne.mpr e2;have H':=zqm H;clear H
          go_wp2
          go_meet
          case rel=>exact⟨_,((a4==11)),(by first|rfl|(simp;done)|(simp [*];done)),H',⟨zq326⟩,⟨zq50⟩,⟨zq118⟩,⟨zq10⟩,⟨zq12⟩,⟨zq14⟩⟩
       case rest=>
        clear i1;obtain⟨kq,d9,rfl,HA,b7,HO_3,HO_172000,a2,a1,HB⟩:=hcut
        cases kq with
        |zero=>exact absurd HA.out (by simp [spec_l20Pasted.j2])
        |succ b8=>
         have H:=HA.out;clear HA;simp only [spec_l20Pasted.j2] at H
         by_cases g1:d9=true
         ·subst g1;(have H1:(if a5.length<17592186044416 then(spec_l20Pasted.l1 b8 a3 (a5 ++ [1]) (wrap64 (a4+1)) a0) else(none))=some (r1,r2):=by rw [if_pos rfl] at H;exact H);clear H;have H:=H1;clear H1
          by_cases g2:a5.length<17592186044416
          ·rw [if_pos g2] at H;have LMc13:=zqm g2;clear g2;obtain⟨i5,c6⟩: ∃y_:List Int,y_=(a5 ++ [1]):=⟨_,rfl⟩;(replace H:(spec_l20Pasted.l1 b8 a3 i5 (wrap64 (a4+1)) a0)=some (r1,r2):=by first|(rw [c6];with_reducible exact H)|(have b1:=(Option.bind_some _ _).symm.trans H;rw [c6];with_reducible exact b1)|(have b1:=(Option.bind_some _ _).symm.trans H;with_reducible exact b1)|with_reducible exact H|(rw [c6];exact H)|exact H);have k9:=zqm c6;clear c6;have H':=zqm H;clear H
           go_wp2_with (first|((with_reducible refine gate_builtin (b:= .append) (xs:= #[.tmp 59,.tmp 61]) rfl ?_);at_builtin;refine Kd.R_append (Kd.int .i64) (w0:=w) w.heap.size rfl (.tmp 59) (.tmp 61) 24 3 (.int .i64 0) 8 rfl Try.underlying24 info3 rfl (by decide) (by omega) u3 a5 1 [.int .i64 1] (fun _=>True) (fun _=>False) rfl rfl ?aP (fun _ hk=>hk.elim) ?aF ?aO ?aB ?aS ?aL ?_;(case aP=>exact rfl);(case aB=> exact zq60);(case aF=>exact(fun _ _=>trivial));(case aO=> exact zq95);(case aS=> exact zq56);(case aL=>have:=LMc13.out;omega);intro r3 s2 ho hb hg hat;rw [← k9.out] at ho;replace HO_172000:=zqm (Kd.S_after (ok:=(fun _=>True)) zq80 hg hat);replace a2:=zqm (blk_grown (g:=b0) (o:= .cells #[.slice none 0 0,.slice none 0 0] 26 (0,0)) zq10 hg (Kd.R_ne HO_3.out a2.out (by decide)));replace a1:=zqm (blk_grown (g:=a9) (o:= .cells #[a8,.slice none 0 0] 26 (0,0)) zq12 hg (Kd.R_ne HO_3.out a1.out (by decide)));replace HB:=zqm (hb);have j7:=zqm (ho);clear HO_3;clear ho hb hg hat))
           go_roundg b8
           (case measure=>have:=b3.out;have:=b4.out;have:=b7.out;omega);case rel=>exact⟨(i5),(wrap64 (a4+1)),(by first|rfl|(simp;done)|(simp [*];done)),H',⟨by have:=b3.out;have:=b4.out;have:=b7.out;omega⟩,⟨by(with_reducible repeat(first|apply Kd.R_alloc|apply Kd.R_drewN|apply Kd.R_drew));exact j7.out⟩,⟨zq78⟩,⟨zq10⟩,⟨zq12⟩,⟨zq14⟩⟩
          ·rw [if_neg g2] at H;exact absurd H (by simp)
         ·replace g1:=Bool.eq_false_iff.mpr g1;subst g1;(have H1:((spec_l1In.f a3 1 5).bind fun f3=>(if f3=true then((spec_l1In.f a4 6 10).bind fun c0=>(if c0=true then(spec_l20Pasted.j3 b8 a3 a5 a4 0 (a3 !=(wrap64 (a4 - 5))) a0) else(spec_l20Pasted.j3 b8 a3 a5 a4 0 false a0))) else(spec_l20Pasted.j3 b8 a3 a5 a4 0 false a0)))=some (r1,r2):=by rw [if_neg (show¬(false=true) by decide)] at H;exact H);clear H;have H:=H1;clear H1;have f6:=zqm H;clear H
          go_upto_region 12 with (fail)
          go_cut [29] (fun p9 wc=> ∃(kq:Nat) (d6:Bool),p9= .bool d6∧Aside0 (spec_l20Pasted.j3 kq a3 a5 a4 0 d6 a0=some (r1,r2))∧Aside0 (kq≤b8)∧Aside0 (Kd.R (Kd.int .i64) 3 wc w.heap.size (fun _=>True) u3 a5)∧Aside0 (Kd.S (Kd.slice 3 (Kd.int .i64)) 24 wc w.heap.size (fun k_=>some k_≠(u3:Value).ownBlock) a8 a0)∧Aside0 (wc.heap[b0]? =some (.cells #[(.slice none 0 0),(.slice none 0 0)] 26 (0,0)))∧Aside0 (wc.heap[a9]? =some (.cells #[a8,(.slice none 0 0)] 26 (0,0)))∧Aside0 (Below w.heap.size w wc))
          case first=>
           have H:=f6.out;clear f6;replace H:=Option.bind_eq_some_iff.mp H;obtain⟨f3,h7,H⟩:=H;replace H:(if f3=true then((spec_l1In.f a4 6 10).bind fun c0=>(if c0=true then(spec_l20Pasted.j3 b8 a3 a5 a4 0 (a3 !=(wrap64 (a4 - 5))) a0) else(spec_l20Pasted.j3 b8 a3 a5 a4 0 false a0))) else(spec_l20Pasted.j3 b8 a3 a5 a4 0 false a0))=some (r1,r2):=H;have h6:=zqm h7;clear h7
           by_cases g3:f3=true
           ·subst g3;(have H1:((spec_l1In.f a4 6 10).bind fun c0=>(if c0=true then(spec_l20Pasted.j3 b8 a3 a5 a4 0 (a3 !=(wrap64 (a4 - 5))) a0) else(spec_l20Pasted.j3 b8 a3 a5 a4 0 false a0)))=some (r1,r2):=by rw [if_pos rfl] at H;exact H);clear H;have H:=H1;clear H1;replace H:=Option.bind_eq_some_iff.mp H;obtain⟨c0,h8,H⟩:=H;replace H:(if c0=true then(spec_l20Pasted.j3 b8 a3 a5 a4 0 (a3 !=(wrap64 (a4 - 5))) a0) else(spec_l20Pasted.j3 b8 a3 a5 a4 0 false a0))=some (r1,r2):=H;have m9:=zqm h8;clear h8
            by_cases g4:c0=true
            ·subst g4;(have H1:(spec_l20Pasted.j3 b8 a3 a5 a4 0 (a3 !=(wrap64 (a4 - 5))) a0)=some (r1,r2):=by rw [if_pos rfl] at H;exact H);clear H;have H:=H1;clear H1;have H':=zqm H;clear H
             go_wp2_with (first|((with_reducible refine gate_callee (f:=78) rfl ?_);refine goesL_ (some 31) rfl rfl Try.func78 zqk rfl #[.int .i64 a3,.int .i64 1,.int .i64 5] rfl zq1 ?_;(with_reducible refine(spec_l1In.calls a3 1 5 true _ h6.out).mono ?_);rintro e w' ⟨rfl,⟨nd,rfl⟩⟩;refine⟨_,rfl,?_⟩)|(go_at_call 78;(with_reducible refine(spec_l1In.calls a4 6 10 true _ m9.out).mono ?_);rintro e w' ⟨rfl,⟨nd,rfl⟩⟩))
             go_meet
             case rel=>exact⟨_,((a3 !=(wrap64 (a4 - 5)))),(by first|rfl|(simp;done)|(simp [*];done)),H',⟨zq305⟩,⟨zq50⟩,⟨zq118⟩,⟨zq10⟩,⟨zq12⟩,⟨zq14⟩⟩
            ·replace g4:=Bool.eq_false_iff.mpr g4;subst g4;(have H1:(spec_l20Pasted.j3 b8 a3 a5 a4 0 false a0)=some (r1,r2):=by rw [if_neg (show¬(false=true) by decide)] at H;exact H);clear H;have H:=H1;clear H1;have H':=zqm H;clear H
             go_wp2_with (first|((with_reducible refine gate_callee (f:=78) rfl ?_);refine goesL_ (some 31) rfl rfl Try.func78 zqk rfl #[.int .i64 a3,.int .i64 1,.int .i64 5] rfl zq1 ?_;(with_reducible refine(spec_l1In.calls a3 1 5 true _ h6.out).mono ?_);rintro e w' ⟨rfl,⟨nd,rfl⟩⟩;refine⟨_,rfl,?_⟩)|(go_at_call 78;(with_reducible refine(spec_l1In.calls a4 6 10 false _ m9.out).mono ?_);rintro e w' ⟨rfl,⟨nd,rfl⟩⟩))
             go_meet
             case rel=>exact⟨_,(false),(by first|rfl|(simp;done)|(simp [*];done)),H',⟨zq305⟩,⟨zq50⟩,⟨zq118⟩,⟨zq10⟩,⟨zq12⟩,⟨zq14⟩⟩
           ·replace g3:=Bool.eq_false_iff.mpr g3;subst g3;(have H1:(spec_l20Pasted.j3 b8 a3 a5 a4 0 false a0)=some (r1,r2):=by rw [if_neg (show¬(false=true) by decide)] at H;exact H);clear H;have H:=H1;clear H1;have H':=zqm H;clear H
            go_wp2_with (first|((with_reducible refine gate_callee (f:=78) rfl ?_);refine goesL_ (some 31) rfl rfl Try.func78 zqk rfl #[.int .i64 a3,.int .i64 1,.int .i64 5] rfl zq1 ?_;(with_reducible refine(spec_l1In.calls a3 1 5 false _ h6.out).mono ?_);rintro e w' ⟨rfl,⟨nd,rfl⟩⟩;refine⟨_,rfl,?_⟩))
            go_meet
            case rel=>exact⟨_,(false),(by first|rfl|(simp;done)|(simp [*];done)),H',⟨zq305⟩,⟨zq50⟩,⟨zq118⟩,⟨zq10⟩,⟨zq12⟩,⟨zq14⟩⟩
          case rest=>
           clear f6;obtain⟨kq,d6,rfl,HA,b6,HO_3,HO_172000,a2,a1,HB⟩:=hcut
           cases kq with
           |zero=>exact absurd HA.out (by simp [spec_l20Pasted.j3])
           |succ b2=>
            have H:=HA.out;clear HA;simp only [spec_l20Pasted.j3] at H
            by_cases g5:d6=true
            ·subst g5;(have H1:(if a3≤3 then(if(wrap64 (a4 - 5))≤3 then(if a5.length<17592186044416 then(spec_l20Pasted.l1 b2 a3 (a5 ++ [1]) (wrap64 (a4+1)) a0) else(none)) else(if a3≥3 then(if(wrap64 (a4 - 5))≥3 then(if a5.length<17592186044416 then(spec_l20Pasted.l1 b2 a3 (a5 ++ [1]) (wrap64 (a4+1)) a0) else(none)) else(if a5.length<17592186044416 then(spec_l20Pasted.l1 b2 a3 (a5 ++ [0]) (wrap64 (a4+1)) a0) else(none))) else(if a5.length<17592186044416 then(spec_l20Pasted.l1 b2 a3 (a5 ++ [0]) (wrap64 (a4+1)) a0) else(none)))) else(if a3≥3 then(if(wrap64 (a4 - 5))≥3 then(if a5.length<17592186044416 then(spec_l20Pasted.l1 b2 a3 (a5 ++ [1]) (wrap64 (a4+1)) a0) else(none)) else(if a5.length<17592186044416 then(spec_l20Pasted.l1 b2 a3 (a5 ++ [0]) (wrap64 (a4+1)) a0) else(none))) else(if a5.length<17592186044416 then(spec_l20Pasted.l1 b2 a3 (a5 ++ [0]) (wrap64 (a4+1)) a0) else(none))))=some (r1,r2):=by rw [if_pos rfl] at H;exact H);clear H;have H:=H1;clear H1
             by_cases e4:a3≤3
             ·rw [if_pos e4] at H;have m3:decide (a3≤3)=true:=decide_eq_true e4;clear e4
              by_cases e5:(wrap64 (a4 - 5))≤3
              ·rw [if_pos e5] at H;have m4:decide ((wrap64 (a4 - 5))≤3)=true:=decide_eq_true e5;clear e5
               by_cases g6:a5.length<17592186044416
               ·rw [if_pos g6] at H;have LMc23:=zqm g6;clear g6;obtain⟨i6,c7⟩: ∃y_:List Int,y_=(a5 ++ [1]):=⟨_,rfl⟩;(replace H:(spec_l20Pasted.l1 b2 a3 i6 (wrap64 (a4+1)) a0)=some (r1,r2):=by first|(rw [c7];with_reducible exact H)|(have b1:=(Option.bind_some _ _).symm.trans H;rw [c7];with_reducible exact b1)|(have b1:=(Option.bind_some _ _).symm.trans H;with_reducible exact b1)|with_reducible exact H|(rw [c7];exact H)|exact H);have l2:=zqm c7;clear c7;have H':=zqm H;clear H
                go_wp2_with (first|((with_reducible refine gate_builtin (b:= .append) (xs:= #[.tmp 59,.tmp 61]) rfl ?_);at_builtin;refine Kd.R_append (Kd.int .i64) (w0:=w) w.heap.size rfl (.tmp 59) (.tmp 61) 24 3 (.int .i64 0) 8 rfl Try.underlying24 info3 rfl (by decide) (by omega) u3 a5 1 [.int .i64 1] (fun _=>True) (fun _=>False) rfl rfl ?aP (fun _ hk=>hk.elim) ?aF ?aO ?aB ?aS ?aL ?_;(case aP=>exact rfl);(case aB=> exact zq60);(case aF=>exact(fun _ _=>trivial));(case aO=> exact zq95);(case aS=> exact zq56);(case aL=>have:=LMc23.out;omega);intro r4 s3 ho hb hg hat;rw [← l2.out] at ho;replace HO_172000:=zqm (Kd.S_after (ok:=(fun _=>True)) zq80 hg hat);replace a2:=zqm (blk_grown (g:=b0) (o:= .cells #[.slice none 0 0,.slice none 0 0] 26 (0,0)) zq10 hg (Kd.R_ne HO_3.out a2.out (by decide)));replace a1:=zqm (blk_grown (g:=a9) (o:= .cells #[a8,.slice none 0 0] 26 (0,0)) zq12 hg (Kd.R_ne HO_3.out a1.out (by decide)));replace HB:=zqm (hb);have j8:=zqm (ho);clear HO_3;clear ho hb hg hat))
                go_roundg b2
                (case measure=> exact zq109);case rel=>exact⟨(i6),(wrap64 (a4+1)),(by first|rfl|(simp;done)|(simp [*];done)),H',⟨zq109⟩,⟨by(with_reducible repeat(first|apply Kd.R_alloc|apply Kd.R_drewN|apply Kd.R_drew));exact j8.out⟩,⟨zq78⟩,⟨zq10⟩,⟨zq12⟩,⟨zq14⟩⟩
               ·rw [if_neg g6] at H;exact absurd H (by simp)
              ·rw [if_neg e5] at H;have m4:decide ((wrap64 (a4 - 5))≤3)=false:=decide_eq_false e5;clear e5
               by_cases e6:a3≥3
               ·rw [if_pos e6] at H;have m5:decide (3≤a3)=true:=decide_eq_true e6;clear e6
                by_cases e7:(wrap64 (a4 - 5))≥3
                ·rw [if_pos e7] at H;have m6:decide (3≤(wrap64 (a4 - 5)))=true:=decide_eq_true e7;clear e7
                 by_cases g7:a5.length<17592186044416
                 ·rw [if_pos g7] at H;have LMc27:=zqm g7;clear g7;obtain⟨i7,c9⟩: ∃y_:List Int,y_=(a5 ++ [1]):=⟨_,rfl⟩;(replace H:(spec_l20Pasted.l1 b2 a3 i7 (wrap64 (a4+1)) a0)=some (r1,r2):=by first|(rw [c9];with_reducible exact H)|(have b1:=(Option.bind_some _ _).symm.trans H;rw [c9];with_reducible exact b1)|(have b1:=(Option.bind_some _ _).symm.trans H;with_reducible exact b1)|with_reducible exact H|(rw [c9];exact H)|exact H);have l3:=zqm c9;clear c9;have H':=zqm H;clear H
                  go_wp2_with (first|((with_reducible refine gate_builtin (b:= .append) (xs:= #[.tmp 59,.tmp 61]) rfl ?_);at_builtin;refine Kd.R_append (Kd.int .i64) (w0:=w) w.heap.size rfl (.tmp 59) (.tmp 61) 24 3 (.int .i64 0) 8 rfl Try.underlying24 info3 rfl (by decide) (by omega) u3 a5 1 [.int .i64 1] (fun _=>True) (fun _=>False) rfl rfl ?aP (fun _ hk=>hk.elim) ?aF ?aO ?aB ?aS ?aL ?_;(case aP=>exact rfl);(case aB=> exact zq60);(case aF=>exact(fun _ _=>trivial));(case aO=> exact zq95);(case aS=> exact zq56);(case aL=>have:=LMc27.out;omega);intro r5 s4 ho hb hg hat;rw [← l3.out] at ho;replace HO_172000:=zqm (Kd.S_after (ok:=(fun _=>True)) zq80 hg hat);replace a2:=zqm (blk_grown (g:=b0) (o:= .cells #[.slice none 0 0,.slice none 0 0] 26 (0,0)) zq10 hg (Kd.R_ne HO_3.out a2.out (by decide)));replace a1:=zqm (blk_grown (g:=a9) (o:= .cells #[a8,.slice none 0 0] 26 (0,0)) zq12 hg (Kd.R_ne HO_3.out a1.out (by decide)));replace HB:=zqm (hb);have j9:=zqm (ho);clear HO_3;clear ho hb hg hat))
                  go_roundg b2
                  (case measure=> exact zq109);case rel=>exact⟨(i7),(wrap64 (a4+1)),(by first|rfl|(simp;done)|(simp [*];done)),H',⟨zq109⟩,⟨by(with_reducible repeat(first|apply Kd.R_alloc|apply Kd.R_drewN|apply Kd.R_drew));exact j9.out⟩,⟨zq78⟩,⟨zq10⟩,⟨zq12⟩,⟨zq14⟩⟩
                 ·rw [if_neg g7] at H;exact absurd H (by simp)
                ·rw [if_neg e7] at H;have m6:decide (3≤(wrap64 (a4 - 5)))=false:=decide_eq_false e7;clear e7
                 by_cases g8:a5.length<17592186044416
                 ·rw [if_pos g8] at H;have LMc29:=zqm g8;clear g8;obtain⟨i8,d0⟩: ∃y_:List Int,y_=(a5 ++ [0]):=⟨_,rfl⟩;(replace H:(spec_l20Pasted.l1 b2 a3 i8 (wrap64 (a4+1)) a0)=some (r1,r2):=by first|(rw [d0];with_reducible exact H)|(have b1:=(Option.bind_some _ _).symm.trans H;rw [d0];with_reducible exact b1)|(have b1:=(Option.bind_some _ _).symm.trans H;with_reducible exact b1)|with_reducible exact H|(rw [d0];exact H)|exact H);have l4:=zqm d0;clear d0;have H':=zqm H;clear H
                  go_wp2_with (first|((with_reducible refine gate_builtin (b:= .append) (xs:= #[.tmp 59,.tmp 61]) rfl ?_);at_builtin;refine Kd.R_append (Kd.int .i64) (w0:=w) w.heap.size rfl (.tmp 59) (.tmp 61) 24 3 (.int .i64 0) 8 rfl Try.underlying24 info3 rfl (by decide) (by omega) u3 a5 0 [.int .i64 0] (fun _=>True) (fun _=>False) rfl rfl ?aP (fun _ hk=>hk.elim) ?aF ?aO ?aB ?aS ?aL ?_;(case aP=>exact rfl);(case aB=> exact zq60);(case aF=>exact(fun _ _=>trivial));(case aO=> exact zq95);(case aS=> exact zq56);(case aL=>have:=LMc29.out;omega);intro r6 s5 ho hb hg hat;rw [← l4.out] at ho;replace HO_172000:=zqm (Kd.S_after (ok:=(fun _=>True)) zq80 hg hat);replace a2:=zqm (blk_grown (g:=b0) (o:= .cells #[.slice none 0 0,.slice none 0 0] 26 (0,0)) zq10 hg (Kd.R_ne HO_3.out a2.out (by decide)));replace a1:=zqm (blk_grown (g:=a9) (o:= .cells #[a8,.slice none 0 0] 26 (0,0)) zq12 hg (Kd.R_ne HO_3.out a1.out (by decide)));replace HB:=zqm (hb);have k0:=zqm (ho);clear HO_3;clear ho hb hg hat))
                  go_roundg b2
                  (case measure=> exact zq109);case rel=>exact⟨(i8),(wrap64 (a4+1)),(by first|rfl|(simp;done)|(simp [*];done)),H',⟨zq109⟩,⟨by(with_reducible repeat(first|apply Kd.R_alloc|apply Kd.R_drewN|apply Kd.R_drew));exact k0.out⟩,⟨zq78⟩,⟨zq10⟩,⟨zq12⟩,⟨zq14⟩⟩
                 ·rw [if_neg g8] at H;exact absurd H (by simp)
               ·rw [if_neg e6] at H;have m5:decide (3≤a3)=false:=decide_eq_false e6;clear e6
                by_cases g9:a5.length<17592186044416
                ·rw [if_pos g9] at H;have LMc31:=zqm g9;clear g9;obtain⟨i9,d1⟩: ∃y_:List Int,y_=(a5 ++ [0]):=⟨_,rfl⟩;(replace H:(spec_l20Pasted.l1 b2 a3 i9 (wrap64 (a4+1)) a0)=some (r1,r2):=by first|(rw [d1];with_reducible exact H)|(have b1:=(Option.bind_some _ _).symm.trans H;rw [d1];with_reducible exact b1)|(have b1:=(Option.bind_some _ _).symm.trans H;with_reducible exact b1)|with_reducible exact H|(rw [d1];exact H)|exact H);have l5:=zqm d1;clear d1;have H':=zqm H;clear H
                 go_wp2_with (first|((with_reducible refine gate_builtin (b:= .append) (xs:= #[.tmp 59,.tmp 61]) rfl ?_);at_builtin;refine Kd.R_append (Kd.int .i64) (w0:=w) w.heap.size rfl (.tmp 59) (.tmp 61) 24 3 (.int .i64 0) 8 rfl Try.underlying24 info3 rfl (by decide) (by omega) u3 a5 0 [.int .i64 0] (fun _=>True) (fun _=>False) rfl rfl ?aP (fun _ hk=>hk.elim) ?aF ?aO ?aB ?aS ?aL ?_;(case aP=>exact rfl);(case aB=> exact zq60);(case aF=>exact(fun _ _=>trivial));(case aO=> exact zq95);(case aS=> exact zq56);(case aL=>have:=LMc31.out;omega);intro r7 s6 ho hb hg hat;rw [← l5.out] at ho;replace HO_172000:=zqm (Kd.S_after (ok:=(fun _=>True)) zq80 hg hat);replace a2:=zqm (blk_grown (g:=b0) (o:= .cells #[.slice none 0 0,.slice none 0 0] 26 (0,0)) zq10 hg (Kd.R_ne HO_3.out a2.out (by decide)));replace a1:=zqm (blk_grown (g:=a9) (o:= .cells #[a8,.slice none 0 0] 26 (0,0)) zq12 hg (Kd.R_ne HO_3.out a1.out (by decide)));replace HB:=zqm (hb);have k3:=zqm (ho);clear HO_3;clear ho hb hg hat))
                 go_roundg b2
                 (case measure=> exact zq109);case rel=>exact⟨(i9),(wrap64 (a4+1)),(by first|rfl|(simp;done)|(simp [*];done)),H',⟨zq109⟩,⟨by(with_reducible repeat(first|apply Kd.R_alloc|apply Kd.R_drewN|apply Kd.R_drew));exact k3.out⟩,⟨zq78⟩,⟨zq10⟩,⟨zq12⟩,⟨zq14⟩⟩
                ·rw [if_neg g9] at H;exact absurd H (by simp)
             ·rw [if_neg e4] at H;have m3:decide (a3≤3)=false:=decide_eq_false e4;clear e4
              by_cases e8:a3≥3
              ·rw [if_pos e8] at H;have m7:decide (3≤a3)=true:=decide_eq_true e8;clear e8
               by_cases e9:(wrap64 (a4 - 5))≥3
               ·rw [if_pos e9] at H;have m8:decide (3≤(wrap64 (a4 - 5)))=true:=decide_eq_true e9;clear e9
                by_cases h0:a5.length<17592186044416
                ·rw [if_pos h0] at H;have LMc35:=zqm h0;clear h0;obtain⟨j0,d2⟩: ∃y_:List Int,y_=(a5 ++ [1]):=⟨_,rfl⟩;(replace H:(spec_l20Pasted.l1 b2 a3 j0 (wrap64 (a4+1)) a0)=some (r1,r2):=by first|(rw [d2];with_reducible exact H)|(have b1:=(Option.bind_some _ _).symm.trans H;rw [d2];with_reducible exact b1)|(have b1:=(Option.bind_some _ _).symm.trans H;with_reducible exact b1)|with_reducible exact H|(rw [d2];exact H)|exact H);have l6:=zqm d2;clear d2;have H':=zqm H;clear H
                 go_wp2_with (first|((with_reducible refine gate_builtin (b:= .append) (xs:= #[.tmp 59,.tmp 61]) rfl ?_);at_builtin;refine Kd.R_append (Kd.int .i64) (w0:=w) w.heap.size rfl (.tmp 59) (.tmp 61) 24 3 (.int .i64 0) 8 rfl Try.underlying24 info3 rfl (by decide) (by omega) u3 a5 1 [.int .i64 1] (fun _=>True) (fun _=>False) rfl rfl ?aP (fun _ hk=>hk.elim) ?aF ?aO ?aB ?aS ?aL ?_;(case aP=>exact rfl);(case aB=> exact zq60);(case aF=>exact(fun _ _=>trivial));(case aO=> exact zq95);(case aS=> exact zq56);(case aL=>have:=LMc35.out;omega);intro r8 s7 ho hb hg hat;rw [← l6.out] at ho;replace HO_172000:=zqm (Kd.S_after (ok:=(fun _=>True)) zq80 hg hat);replace a2:=zqm (blk_grown (g:=b0) (o:= .cells #[.slice none 0 0,.slice none 0 0] 26 (0,0)) zq10 hg (Kd.R_ne HO_3.out a2.out (by decide)));replace a1:=zqm (blk_grown (g:=a9) (o:= .cells #[a8,.slice none 0 0] 26 (0,0)) zq12 hg (Kd.R_ne HO_3.out a1.out (by decide)));replace HB:=zqm (hb);have k4:=zqm (ho);clear HO_3;clear ho hb hg hat))
                 go_roundg b2
                 (case measure=> exact zq109);case rel=>exact⟨(j0),(wrap64 (a4+1)),(by first|rfl|(simp;done)|(simp [*];done)),H',⟨zq109⟩,⟨by(with_reducible repeat(first|apply Kd.R_alloc|apply Kd.R_drewN|apply Kd.R_drew));exact k4.out⟩,⟨zq78⟩,⟨zq10⟩,⟨zq12⟩,⟨zq14⟩⟩
                ·rw [if_neg h0] at H;exact absurd H (by simp)
               ·rw [if_neg e9] at H;have m8:decide (3≤(wrap64 (a4 - 5)))=false:=decide_eq_false e9;clear e9
                by_cases h1:a5.length<17592186044416
                ·rw [if_pos h1] at H;have LMc37:=zqm h1;clear h1;obtain⟨j1,d3⟩: ∃y_:List Int,y_=(a5 ++ [0]):=⟨_,rfl⟩;(replace H:(spec_l20Pasted.l1 b2 a3 j1 (wrap64 (a4+1)) a0)=some (r1,r2):=by first|(rw [d3];with_reducible exact H)|(have b1:=(Option.bind_some _ _).symm.trans H;rw [d3];with_reducible exact b1)|(have b1:=(Option.bind_some _ _).symm.trans H;with_reducible exact b1)|with_reducible exact H|(rw [d3];exact H)|exact H);have l7:=zqm d3;clear d3;have H':=zqm H;clear H
                 go_wp2_with (first|((with_reducible refine gate_builtin (b:= .append) (xs:= #[.tmp 59,.tmp 61]) rfl ?_);at_builtin;refine Kd.R_append (Kd.int .i64) (w0:=w) w.heap.size rfl (.tmp 59) (.tmp 61) 24 3 (.int .i64 0) 8 rfl Try.underlying24 info3 rfl (by decide) (by omega) u3 a5 0 [.int .i64 0] (fun _=>True) (fun _=>False) rfl rfl ?aP (fun _ hk=>hk.elim) ?aF ?aO ?aB ?aS ?aL ?_;(case aP=>exact rfl);(case aB=> exact zq60);(case aF=>exact(fun _ _=>trivial));(case aO=> exact zq95);(case aS=> exact zq56);(case aL=>have:=LMc37.out;omega);intro r9 s8 ho hb hg hat;rw [← l7.out] at ho;replace HO_172000:=zqm (Kd.S_after (ok:=(fun _=>True)) zq80 hg hat);replace a2:=zqm (blk_grown (g:=b0) (o:= .cells #[.slice none 0 0,.slice none 0 0] 26 (0,0)) zq10 hg (Kd.R_ne HO_3.out a2.out (by decide)));replace a1:=zqm (blk_grown (g:=a9) (o:= .cells #[a8,.slice none 0 0] 26 (0,0)) zq12 hg (Kd.R_ne HO_3.out a1.out (by decide)));replace HB:=zqm (hb);have k5:=zqm (ho);clear HO_3;clear ho hb hg hat))
                 go_roundg b2
                 (case measure=> exact zq109);case rel=>exact⟨(j1),(wrap64 (a4+1)),(by first|rfl|(simp;done)|(simp [*];done)),H',⟨zq109⟩,⟨by(with_reducible repeat(first|apply Kd.R_alloc|apply Kd.R_drewN|apply Kd.R_drew));exact k5.out⟩,⟨zq78⟩,⟨zq10⟩,⟨zq12⟩,⟨zq14⟩⟩
                ·rw [if_neg h1] at H;exact absurd H (by simp)
              ·rw [if_neg e8] at H;have m7:decide (3≤a3)=false:=decide_eq_false e8;clear e8
               by_cases h2:a5.length<17592186044416
               ·rw [if_pos h2] at H;have LMc39:=zqm h2;clear h2;obtain⟨j4,d4⟩: ∃y_:List Int,y_=(a5 ++ [0]):=⟨_,rfl⟩;(replace H:(spec_l20Pasted.l1 b2 a3 j4 (wrap64 (a4+1)) a0)=some (r1,r2):=by first|(rw [d4];with_reducible exact H)|(have b1:=(Option.bind_some _ _).symm.trans H;rw [d4];with_reducible exact b1)|(have b1:=(Option.bind_some _ _).symm.trans H;with_reducible exact b1)|with_reducible exact H|(rw [d4];exact H)|exact H);have l8:=zqm d4;clear d4;have H':=zqm H;clear H
                go_wp2_with (first|((with_reducible refine gate_builtin (b:= .append) (xs:= #[.tmp 59,.tmp 61]) rfl ?_);at_builtin;refine Kd.R_append (Kd.int .i64) (w0:=w) w.heap.size rfl (.tmp 59) (.tmp 61) 24 3 (.int .i64 0) 8 rfl Try.underlying24 info3 rfl (by decide) (by omega) u3 a5 0 [.int .i64 0] (fun _=>True) (fun _=>False) rfl rfl ?aP (fun _ hk=>hk.elim) ?aF ?aO ?aB ?aS ?aL ?_;(case aP=>exact rfl);(case aB=> exact zq60);(case aF=>exact(fun _ _=>trivial));(case aO=> exact zq95);(case aS=> exact zq56);(case aL=>have:=LMc39.out;omega);intro s0 s9 ho hb hg hat;rw [← l8.out] at ho;replace HO_172000:=zqm (Kd.S_after (ok:=(fun _=>True)) zq80 hg hat);replace a2:=zqm (blk_grown (g:=b0) (o:= .cells #[.slice none 0 0,.slice none 0 0] 26 (0,0)) zq10 hg (Kd.R_ne HO_3.out a2.out (by decide)));replace a1:=zqm (blk_grown (g:=a9) (o:= .cells #[a8,.slice none 0 0] 26 (0,0)) zq12 hg (Kd.R_ne HO_3.out a1.out (by decide)));replace HB:=zqm (hb);have k6:=zqm (ho);clear HO_3;clear ho hb hg hat))
                go_roundg b2
                (case measure=> exact zq109);case rel=>exact⟨(j4),(wrap64 (a4+1)),(by first|rfl|(simp;done)|(simp [*];done)),H',⟨zq109⟩,⟨by(with_reducible repeat(first|apply Kd.R_alloc|apply Kd.R_drewN|apply Kd.R_drew));exact k6.out⟩,⟨zq78⟩,⟨zq10⟩,⟨zq12⟩,⟨zq14⟩⟩
               ·rw [if_neg h2] at H;exact absurd H (by simp)
            ·replace g5:=Bool.eq_false_iff.mpr g5;subst g5;(have H1:(if a5.length<17592186044416 then(spec_l20Pasted.l1 b2 a3 (a5 ++ [0]) (wrap64 (a4+1)) a0) else(none))=some (r1,r2):=by rw [if_neg (show¬(false=true) by decide)] at H;exact H);clear H;have H:=H1;clear H1
             by_cases h3:a5.length<17592186044416
             ·rw [if_pos h3] at H;have LMc41:=zqm h3;clear h3;obtain⟨j5,d5⟩: ∃y_:List Int,y_=(a5 ++ [0]):=⟨_,rfl⟩;(replace H:(spec_l20Pasted.l1 b2 a3 j5 (wrap64 (a4+1)) a0)=some (r1,r2):=by first|(rw [d5];with_reducible exact H)|(have b1:=(Option.bind_some _ _).symm.trans H;rw [d5];with_reducible exact b1)|(have b1:=(Option.bind_some _ _).symm.trans H;with_reducible exact b1)|with_reducible exact H|(rw [d5];exact H)|exact H);have l9:=zqm d5;clear d5;have H':=zqm H;clear H
              go_wp2_with (first|((with_reducible refine gate_builtin (b:= .append) (xs:= #[.tmp 59,.tmp 61]) rfl ?_);at_builtin;refine Kd.R_append (Kd.int .i64) (w0:=w) w.heap.size rfl (.tmp 59) (.tmp 61) 24 3 (.int .i64 0) 8 rfl Try.underlying24 info3 rfl (by decide) (by omega) u3 a5 0 [.int .i64 0] (fun _=>True) (fun _=>False) rfl rfl ?aP (fun _ hk=>hk.elim) ?aF ?aO ?aB ?aS ?aL ?_;(case aP=>exact rfl);(case aB=> exact zq60);(case aF=>exact(fun _ _=>trivial));(case aO=> exact zq95);(case aS=> exact zq56);(case aL=>have:=LMc41.out;omega);intro s1 t0 ho hb hg hat;rw [← l9.out] at ho;replace HO_172000:=zqm (Kd.S_after (ok:=(fun _=>True)) zq80 hg hat);replace a2:=zqm (blk_grown (g:=b0) (o:= .cells #[.slice none 0 0,.slice none 0 0] 26 (0,0)) zq10 hg (Kd.R_ne HO_3.out a2.out (by decide)));replace a1:=zqm (blk_grown (g:=a9) (o:= .cells #[a8,.slice none 0 0] 26 (0,0)) zq12 hg (Kd.R_ne HO_3.out a1.out (by decide)));replace HB:=zqm (hb);have k7:=zqm (ho);clear HO_3;clear ho hb hg hat))
              go_roundg b2
              (case measure=> exact zq109);case rel=>exact⟨(j5),(wrap64 (a4+1)),(by first|rfl|(simp;done)|(simp [*];done)),H',⟨zq109⟩,⟨by(with_reducible repeat(first|apply Kd.R_alloc|apply Kd.R_drewN|apply Kd.R_drew));exact k7.out⟩,⟨zq78⟩,⟨zq10⟩,⟨zq12⟩,⟨zq14⟩⟩
             ·rw [if_neg h3] at H;exact absurd H (by simp)
      ·rw [if_neg c8] at H;have n3:decide (a4<12)=false:=decide_eq_false c8;clear c8
       by_cases h4:a0.length<5864062014805
       ·rw [if_pos h4] at H;have LMc43:=zqm h4;clear h4;obtain⟨f4,c4⟩: ∃y_:List (List Int),y_=(a0 ++ [a5]):=⟨_,rfl⟩;(replace H:(spec_l20Pasted.l0 k2 (wrap64 (a3+1)) f4)=some (r1,r2):=by first|(rw [c4];with_reducible exact H)|(have b1:=(Option.bind_some _ _).symm.trans H;rw [c4];with_reducible exact b1)|(have b1:=(Option.bind_some _ _).symm.trans H;with_reducible exact b1)|with_reducible exact H|(rw [c4];exact H)|exact H);have k8:=zqm c4;clear c4;have H':=zqm H;clear H;have q2:=b9.out;have q4:=b5.out;have n8:wr.cell? ⟨a9,0,none⟩=some (a8):=(blk_cell a1.out 0).trans rfl;have n9:wr.cell? ⟨a9,1,none⟩=some (.slice none 0 0):=(blk_cell a1.out 1).trans rfl;have o6:=blk_frozen a1.out 0;have o7:=blk_frozen a1.out 1;obtain⟨h9,i2,n4⟩:=Kd.R_slice HO_3.out;subst n4
        go_wp2_with (first|((with_reducible refine gate_builtin (b:= .append) (xs:= #[.tmp 64,.tmp 66]) rfl ?_);at_builtin;refine Kd.S_append (Kd.slice 3 (Kd.int .i64)) (w0:=w) w.heap.size rfl (.tmp 64) (.tmp 66) 23 24 (.slice none 0 0) 24 rfl Try.underlying23 info24 rfl (by decide) (by omega) a8 a0 a5 [.slice h9 a5.length i2] (fun _=>True) (fun k_=>some k_=(.slice h9 a5.length i2:Value).ownBlock) rfl rfl ?aP (fun k_ hk_=>((Kd.R_mono (ok':=fun k_=>((fun _=>True)) k_∧some k_≠(a8:Value).ownBlock) (Kd.R_apart' (HO_3.out) (Kd.S_typed HO_172000.out) (by decide)) (fun k_ hk=>⟨trivial,hk.2⟩))).1 k_ hk_.symm) ?aF ?aO ?aB ?aS ?aL ?_;(case aP=>exact Kd.M_row (Kd.R_mono (Kd.R_tight rfl (Kd.R_mono (ok':=fun k_=>((fun _=>True)) k_∧some k_≠(a8:Value).ownBlock) (Kd.R_apart' (HO_3.out) (Kd.S_typed HO_172000.out) (by decide)) (fun k_ hk=>⟨trivial,hk.2⟩))) (fun _ h_=>h_)));(case aB=> exact zq60);(case aF=>exact(fun _ _=>trivial));(case aO=>exact(by(with_reducible repeat(first|apply Kd.S_alloc|apply Kd.S_drewN|apply Kd.S_drew));exact Kd.S_mono HO_172000.out (fun k_ hk=>⟨trivial,fun e_=>hk e_⟩)));(case aS=> exact zq56);(case aL=>have:=LMc43.out;omega);intro r0 n1 ho hb hg hat;rw [← k8.out] at ho;replace a2:=zqm (blk_grown (g:=b0) (o:= .cells #[.slice none 0 0,.slice none 0 0] 26 (0,0)) zq10 hg (Kd.S_ne HO_172000.out a2.out (by decide)));replace a1:=zqm (blk_grown (g:=a9) (o:= .cells #[a8,.slice none 0 0] 26 (0,0)) zq12 hg (Kd.S_ne HO_172000.out a1.out (by decide)));replace HB:=zqm (hb);have f8:=zqm (ho);clear HO_172000 HO_3;clear ho hb hg hat;obtain⟨i0,i3,n5⟩:=Kd.S_slice f8.out;subst n5;have o0:n1.cell? ⟨a9,0,none⟩=some (a8):=(blk_cell a1.out 0).trans rfl;have o1:n1.cell? ⟨a9,1,none⟩=some (.slice none 0 0):=(blk_cell a1.out 1).trans rfl;have o8:=blk_frozen a1.out 0;have o9:=blk_frozen a1.out 1))
        go_roundg k2
        (case measure=>have:=b3.out;have:=b4.out;omega);case rel=>exact⟨(wrap64 (a3+1)),(f4),(.slice i0 f4.length i3),(by first|rfl|(simp;done)|(simp [*];done)),H',⟨by have:=b3.out;have:=b4.out;omega⟩,⟨by(with_reducible repeat(first|apply Kd.S_alloc|apply Kd.S_drewN|apply Kd.S_drew));exact Kd.S_mono (Kd.S_far (p:=⟨a9,0,none⟩) (Kd.S_types f8.out a1.out (by decide)) (fun _ hk=>hk.2) (.slice i0 f4.length i3)) (fun _ hk=>trivial)⟩,⟨by(with_reducible repeat(first|refine blk_drewN ?_ _|refine blk_drew ?_|refine blk_alloc ?_ _));refine blk_far ?_ b5.out _;(with_reducible repeat(first|refine blk_drewN ?_ _|refine blk_drew ?_|refine blk_alloc ?_ _));exact a2.out⟩,⟨by(with_reducible repeat(first|refine blk_drewN ?_ _|refine blk_drew ?_|refine blk_alloc ?_ _));refine blk_put (cs:= #[a8,.slice none 0 0]) ?_ 0 _ rfl;(with_reducible repeat(first|refine blk_drewN ?_ _|refine blk_drew ?_|refine blk_alloc ?_ _));exact a1.out⟩,⟨zq14⟩⟩
       ·rw [if_neg h4] at H;exact absurd H (by simp)
   ·rw [if_neg c5] at H;have n2:decide (a3<12)=false:=decide_eq_false c5;clear c5;obtain⟨d8,c2⟩: ∃y_:List Int,y_=(([11,6,7,8,9,10,1,2,3,4,5,0]:List Int)):=⟨_,rfl⟩;(replace H:(some (a0,d8))=some (r1,r2):=by first|(rw [c2];with_reducible exact H)|(have b1:=(Option.bind_some _ _).symm.trans H;rw [c2];with_reducible exact b1)|(have b1:=(Option.bind_some _ _).symm.trans H;with_reducible exact b1)|with_reducible exact H|(rw [c2];exact H)|exact H);have f9:=zqm c2;clear c2;simp only [Option.some.injEq,Prod.mk.injEq] at H;obtain⟨rfl,rfl⟩:=H
    go_wp2_with (first|((with_reducible refine gate_dst (N:=69) rfl ?_);refine Kd.R_lit (Kd.int .i64) _ 3 ?hg (N:=69) ?hd (xs:=([11,6,7,8,9,10,1,2,3,4,5,0]:List Int)) (inner:= [.int .i64 11,.int .i64 6,.int .i64 7,.int .i64 8,.int .i64 9,.int .i64 10,.int .i64 1,.int .i64 2,.int .i64 3,.int .i64 4,.int .i64 5,.int .i64 0]) (ok:=fun _=>True) (okp:=fun _=>True) ?hr ?hp (fun _ hk=>hk) trivial (Below.refl _ _) (Nat.le_refl _) (by simp) ?_;(case hd=>rfl);(case hg=>rfl);(case hr=>first|(go_simp;done)|(go_simp;rfl));(case hp=>exact(Reps.one (show Kd.M (Kd.int .i64) _ _ _ 11 [.int .i64 11] from rfl) (Reps.one (show Kd.M (Kd.int .i64) _ _ _ 6 [.int .i64 6] from rfl) (Reps.one (show Kd.M (Kd.int .i64) _ _ _ 7 [.int .i64 7] from rfl) (Reps.one (show Kd.M (Kd.int .i64) _ _ _ 8 [.int .i64 8] from rfl) (Reps.one (show Kd.M (Kd.int .i64) _ _ _ 9 [.int .i64 9] from rfl) (Reps.one (show Kd.M (Kd.int .i64) _ _ _ 10 [.int .i64 10] from rfl) (Reps.one (show Kd.M (Kd.int .i64) _ _ _ 1 [.int .i64 1] from rfl) (Reps.one (show Kd.M (Kd.int .i64) _ _ _ 2 [.int .i64 2] from rfl) (Reps.one (show Kd.M (Kd.int .i64) _ _ _ 3 [.int .i64 3] from rfl) (Reps.one (show Kd.M (Kd.int .i64) _ _ _ 4 [.int .i64 4] from rfl) (Reps.one (show Kd.M (Kd.int .i64) _ _ _ 5 [.int .i64 5] from rfl) (Reps.one (show Kd.M (Kd.int .i64) _ _ _ 0 [.int .i64 0] from rfl) (Reps.none _ _))))))))))))));intro q8 h5 d7 hb hg_ hnew_;clear hg_ hnew_;(first|rw [← f9.out] at d7|(simp only [Int.reduceToNat] at d7;rw [← f9.out] at d7));replace HO_172000:=zqm (Kd.S_elder' zq118 (Kd.R_base d7) hb);have f7:=zqm (Kd.R_lower d7 (below_size zq14));replace a2:=zqm (blk_below (g:=b0) (o:= .cells #[.slice none 0 0,.slice none 0 0] 26 (0,0)) zq10 hb);replace a1:=zqm (blk_below (g:=a9) (o:= .cells #[a8,.slice none 0 0] 26 (0,0)) zq12 hb);replace HB:=zqm (below_step zq14 hb);clear hb d7;obtain⟨e0,e3,n6⟩:=Kd.R_slice f7.out;subst n6;have q3:=b9.out;have q5:=b5.out;have o2:h5.cell? ⟨a9,0,none⟩=some (a8):=(blk_cell a1.out 0).trans rfl;have o3:h5.cell? ⟨a9,1,none⟩=some (.slice none 0 0):=(blk_cell a1.out 1).trans rfl;have p0:=blk_frozen a1.out 0;have p1:=blk_frozen a1.out 1;obtain⟨f1,f2,n7⟩:=Kd.S_slice HO_172000.out;subst n7;have o4:h5.cell? ⟨b0,0,none⟩=some (.slice none 0 0):=(blk_cell a2.out 0).trans rfl;have o5:h5.cell? ⟨b0,1,none⟩=some (.slice none 0 0):=(blk_cell a2.out 1).trans rfl;have p2:=blk_frozen a2.out 0;have p3:=blk_frozen a2.out 1))
    refine bodyPost_ret (results_cell_row rfl _ _ b0 26 #[.slice f1 a0.length f2,.slice e0 d8.length e3] (0,0) _ rfl (by(with_reducible repeat(first|refine blk_drewN ?_ _|refine blk_drew ?_|refine blk_alloc ?_ _));refine blk_put (cs:= #[.slice f1 a0.length f2,.slice none 0 0]) ?_ 1 _ rfl;(with_reducible repeat(first|refine blk_drewN ?_ _|refine blk_drew ?_|refine blk_alloc ?_ _));refine blk_put (cs:= #[.slice none 0 0,.slice none 0 0]) ?_ 0 _ rfl;(with_reducible repeat(first|refine blk_drewN ?_ _|refine blk_drew ?_|refine blk_alloc ?_ _));refine blk_far ?_ b5.out _;(with_reducible repeat(first|refine blk_drewN ?_ _|refine blk_drew ?_|refine blk_alloc ?_ _));exact a2.out) Try.underlying26 rfl zqk) rfl ?_;exact⟨_,_,zq11,by(with_reducible repeat(first|apply Kd.S_alloc|apply Kd.S_drewN|apply Kd.S_drew));exact Kd.S_mono (Kd.S_far (p:=⟨b0,1,none⟩) (Kd.S_far (p:=⟨b0,0,none⟩) (Kd.S_far (p:=⟨a9,1,none⟩) (Kd.S_types (Kd.S_types HO_172000.out a1.out (by decide)) a2.out (by decide)) (fun _ hk=>hk.1.2) (.slice e0 d8.length e3)) (fun _ hk=>hk.2) (.slice f1 a0.length f2)) (fun _ hk=>hk.2) (.slice e0 d8.length e3)) (fun _ hk=>hk.1.1.2),by(with_reducible repeat(first|apply Kd.R_alloc|apply Kd.R_drewN|apply Kd.R_drew));exact Kd.R_mono (Kd.R_far (p:=⟨b0,1,none⟩) (Kd.R_far (p:=⟨b0,0,none⟩) (Kd.R_far (p:=⟨a9,1,none⟩) (Kd.R_types (Kd.R_types f7.out a1.out (by decide)) a2.out (by decide)) (fun _ hk=>hk.1.2) (.slice e0 d8.length e3)) (fun _ hk=>hk.2) (.slice f1 a0.length f2)) (fun _ hk=>hk.2) (.slice e0 d8.length e3)) (fun _ hk=>trivial),zq14⟩
end Go.Proofs.Ytcbjpdaogicibaa.Print
end
