/- Part 3 of what is common to several claims of this seat: AddsUpOkL, PentagonOfL, ProjectOfL, HookOfL, BehindOfL, HighOfL, ToldByL, StateOkL, ClearOfL. -/
import Derived.Test.YtdoomkcgdcfmlaaLB2
import Derived.Below
import Derived.Deep.Draws
import Derived.Deep.AppendLies
import Derived.Maps.AppendAt
import Derived.OwnWalk
import Derived.Laws.BytesArg
import Derived.Laws.MakeOwn
import Derived.Laws.OwnMore
import Derived.Deep.OwnRows
import Derived.Tactics
import Derived.Lib.ConvBytes
import Derived.Laws.Slices
import Derived.WalkKit
import Derived.KernelRfl
import Derived.RowKit3
import Derived.Deep.LoopGhost
import Derived.Deep.QuietTactic
import Derived.BigQuiet
import Derived.WideLaws
import Derived.Deep.DeepCutAuto
import Derived.Deep.CutBlock
import Derived.Deep.RegionHeld3
import Derived.Laws.Rows
import Derived.Lib.AppendStr
import Derived.ArgAppend
import Derived.Laws.IdiomCopy
import Derived.RowKit
import Derived.OrdersHeld
import Derived.Laws.BitsLemmas
import Derived.Test.YtdoomkcgdcfmlaaProg
set_option linter.all false
section
namespace Go.Proofs.Ytdoomkcgdcfmlaa
variable {p : Prop}
open Go.RowKit Go.Proofs.YtdoomkcgdcfmlaaW.PrintWords Go.Proofs.YtdoomkcgdcfmlaaW.PrintLast
theorem zqm {p : Prop} (h : p) : Aside0 p := Aside0.mk h
def zqb (n k : Nat) : Array Bool := ((List.range n).map fun i => Nat.testBit k i).toArray
theorem zqk (h:p:=by kernel_rfl):p:=h
theorem zqo [Decidable p] (h:decide p=true:=by first|(with_reducible assumption)|assumption):p:=of_decide_eq_true h
theorem zqs {p : Prop} (h : p := by simp only [Act.put, List.setIfInBounds_toArray, List.set_cons_zero, List.set_cons_succ, i64_w, i32_w]; rfl) : p := h
theorem zqt {p : Prop} (h : p := by intro w'; go_simp; with_reducible rfl) : p := h
theorem zq0 (h:p:=by repeat(first|(with_reducible first|exact HB.out|apply below_alloc|apply pw_below_drewN|apply below_drew1)|exact HB.out)):p:=h
theorem zq1 (h:p:=by (try simp only [List.map_toArray,List.map_cons,List.map_nil]);first|done|rfl|(simp only [List.length_drop,List.length_take];rfl)):p:=h
theorem zq2 (h:p:=by (with_reducible repeat(first|refine blk_drewN ?_ _|refine blk_drew ?_|refine blk_alloc ?_ _));exact a0.out):p:=h
theorem zq3 (h:p:=by repeat(first|(with_reducible first|exact HB.out|apply below_alloc|apply pw_below_drewN|apply below_drew1|refine below_set ?_ b1.out)|exact HB.out)):p:=h
theorem zq4 (h:p:=by repeat(first|(with_reducible first|exact HK.out|apply KeepBut.set_|apply keep_drewN|apply keep_drew|apply keep_alloc|refine keep_far ?_ a9.out _|refine keep_far ?_ b0.out _)|exact HK.out)):p:=h
theorem zq7 (h:p:=by repeat(first|(with_reducible first|exact HB.out|apply below_alloc|apply pw_below_drewN|apply below_drew1|refine below_set ?_ (IsS87.ge a2.out)|refine below_set ?_ b4.out|refine below_set ?_ b5.out)|exact HB.out)):p:=h
theorem zq8 (h:p:=by repeat(first|(with_reducible first|exact HB.out|apply below_alloc|apply pw_below_drewN|apply below_drew1|refine below_set ?_ a4.out)|exact HB.out)):p:=h
theorem zq10 (h:p:=by repeat(first|(with_reducible first|exact a2.out|apply IsS87.alloc|apply IsS87.drewN|apply IsS87.drew|apply IsS87.set_1|refine IsS87.far ?_ a7.out _|refine IsS87.far ?_ a6.out _)|exact a2.out)):p:=h
theorem zq11 (h:p:=by first|rfl|(simp [errW_none,errW_some] <;> rfl)|(simp [*,errW_none,errW_some] <;> rfl)):p:=h
theorem zq12 (h:p:=by repeat(first|(with_reducible first|exact HB.out|apply below_alloc|apply pw_below_drewN|apply below_drew1|refine below_set ?_ b1.out|refine below_set ?_ b2.out|refine below_set ?_ b3.out|refine below_set ?_ b4.out)|exact HB.out)):p:=h
theorem zq13 (h:p:=by (with_reducible repeat(first|refine blk_drewN ?_ _|refine blk_drew ?_|refine blk_alloc ?_ _));exact a4.out):p:=h
theorem zq15 (h:p:=by (with_reducible repeat(first|refine blk_drewN ?_ _|refine blk_drew ?_|refine blk_alloc ?_ _));exact a2.out):p:=h
theorem zq16 (h:p:=by (with_reducible repeat(first|refine blk_drewN ?_ _|refine blk_drew ?_|refine blk_alloc ?_ _));exact a1.out):p:=h
theorem zq18 (h:p:=by repeat(first|(with_reducible first|exact HB.out|apply below_alloc|apply pw_below_drewN|apply below_drew1|refine below_set ?_ a5.out)|exact HB.out)):p:=h
theorem zq19 (h:p:=by repeat(first|(with_reducible first|exact HB.out|apply below_alloc|apply pw_below_drewN|apply below_drew1|refine below_set ?_ a6.out|refine below_set ?_ a7.out)|exact HB.out)):p:=h
theorem zq21 (h:p:=by repeat(first|(with_reducible first|exact HB.out|apply below_alloc|apply pw_below_drewN|apply below_drew1|refine below_set ?_ a3.out)|exact HB.out)):p:=h
theorem zq22 (h:p:=by repeat(first|exact Drawn0.refl _|apply Drawn0.step)):p:=h
theorem zq24 (h:p:=by repeat(first|exact(Kd.C_below a6.out HB.out)|(with_reducible refine Kd.C_alloc ?_ _)|(with_reducible refine Kd.C_drewN ?_ _)|(with_reducible refine Kd.C_drew ?_))):p:=h
theorem zq25 (h:p:=by repeat(first|(with_reducible first|exact HB.out|apply below_alloc|apply pw_below_drewN|apply below_drew1|refine below_set ?_ a6.out)|exact HB.out)):p:=h
theorem zq31 (h:p:=by exact(below_size (by repeat(first|(with_reducible first|exact HB.out|apply below_alloc|apply pw_below_drewN|apply below_drew1|refine below_set ?_ b1.out|refine below_set ?_ b2.out|refine below_set ?_ b3.out|refine below_set ?_ b4.out)|exact HB.out)))):p:=h
theorem zq32 (h:p:=by (with_reducible repeat(first|apply Kd.R_alloc|apply Kd.R_drewN|apply Kd.R_drew));exact HO_5.out):p:=h
theorem zq33 (h:p:=by (with_reducible repeat(first|refine blk_drewN ?_ _|refine blk_drew ?_|refine blk_alloc ?_ _));exact a7.out):p:=h
theorem zq36 (h:p:=by (with_reducible repeat(first|refine blk_drewN ?_ _|refine blk_drew ?_|refine blk_alloc ?_ _));refine blk_far ?_ b3.out _;(with_reducible repeat(first|refine blk_drewN ?_ _|refine blk_drew ?_|refine blk_alloc ?_ _));refine blk_far ?_ b3.out _;(with_reducible repeat(first|refine blk_drewN ?_ _|refine blk_drew ?_|refine blk_alloc ?_ _));exact a4.out):p:=h
theorem zq37 (h:p:=by exact(by repeat(first|(with_reducible first|exact HB.out|apply below_alloc|apply pw_below_drewN|apply below_drew1|refine below_set ?_ b1.out|refine below_set ?_ b2.out|refine below_set ?_ b3.out|refine below_set ?_ b4.out)|exact HB.out))):p:=h
theorem zq38 (h:p:=by repeat(first|exact(Kd.C_below a5.out HB.out)|(with_reducible refine Kd.C_alloc ?_ _)|(with_reducible refine Kd.C_drewN ?_ _)|(with_reducible refine Kd.C_drew ?_))):p:=h
theorem zq40 (h:p:=by repeat(first|(with_reducible first|exact HB.out|apply below_alloc|apply pw_below_drewN|apply below_drew1|refine below_set ?_ b1.out|refine below_set ?_ b4.out|refine below_set ?_ b9.out)|exact HB.out)):p:=h
theorem zq47 (h:p:=by (with_reducible repeat(first|apply Kd.R_alloc|apply Kd.R_drewN|apply Kd.R_drew));exact HO_217001.out):p:=h
theorem zq48 (h:p:=by repeat(first|(with_reducible first|exact HB.out|apply below_alloc|apply pw_below_drewN|apply below_drew1|refine below_set ?_ GE.out)|exact HB.out)):p:=h
theorem zq50 (h:p:=by repeat(first|(with_reducible first|exact HK.out|apply KeepBut.set_|apply keep_drewN|apply keep_drew|apply keep_alloc)|exact HK.out)):p:=h
theorem zq55 (h:p:=by (with_reducible repeat(first|apply Kd.Q_alloc|apply Kd.Q_drewN|apply Kd.Q_drew));exact HO_325001.out):p:=h
theorem zq56 (h:p:=by exact(below_size (by repeat(first|(with_reducible first|exact HB.out|apply below_alloc|apply pw_below_drewN|apply below_drew1|refine below_set ?_ a6.out|refine below_set ?_ a7.out)|exact HB.out)))):p:=h
theorem zq58 (h:p:=by (with_reducible repeat(first|apply Kd.R_alloc|apply Kd.R_drewN|apply Kd.R_drew));exact HO_3.out):p:=h
theorem zq63 (h:p:=by exact(by repeat(first|(with_reducible first|exact HB.out|apply below_alloc|apply pw_below_drewN|apply below_drew1|refine below_set ?_ a6.out|refine below_set ?_ a7.out)|exact HB.out))):p:=h
theorem zq64 (h:p:=by (with_reducible repeat(first|refine blk_drewN ?_ _|refine blk_drew ?_|refine blk_alloc ?_ _));refine blk_far ?_ c0.out _;(with_reducible repeat(first|refine blk_drewN ?_ _|refine blk_drew ?_|refine blk_alloc ?_ _));exact a2.out):p:=h
theorem zq65 (h:p:=by (with_reducible repeat(first|refine blk_drewN ?_ _|refine blk_drew ?_|refine blk_alloc ?_ _));refine blk_far ?_ c2.out _;(with_reducible repeat(first|refine blk_drewN ?_ _|refine blk_drew ?_|refine blk_alloc ?_ _));exact a7.out):p:=h
theorem zq66 (h:p:=by (with_reducible repeat(first|refine blk_drewN ?_ _|refine blk_drew ?_|refine blk_alloc ?_ _));refine blk_far ?_ c1.out _;(with_reducible repeat(first|refine blk_drewN ?_ _|refine blk_drew ?_|refine blk_alloc ?_ _));exact a4.out):p:=h
theorem zq74 (h:p:=by (with_reducible repeat(first|apply Kd.S_alloc|apply Kd.S_drewN|apply Kd.S_drew));exact HO_325000.out):p:=h
theorem zq81 (h:p:=by (with_reducible repeat(first|apply Kd.S_alloc|apply Kd.S_drewN|apply Kd.S_drew));exact Kd.S_mono HO_217000.out (fun _ hk=>⟨hk.2,hk.1⟩)):p:=h
theorem zq84 (h:p:=by repeat(first|exact a5.out|(with_reducible refine Kd.C_alloc ?_ _)|(with_reducible refine Kd.C_drewN ?_ _)|(with_reducible refine Kd.C_drew ?_))):p:=h
theorem zq87 (h:p:=by exact(fun k_ hk=>Kd.fresh' (Kd.R_lt (by(with_reducible repeat(first|apply Kd.R_alloc|apply Kd.R_drewN|apply Kd.R_drew));exact HO_217001.out)) k_ hk)):p:=h
theorem zq101 (h:p:=by (with_reducible repeat(first|apply Kd.S_alloc|apply Kd.S_drewN|apply Kd.S_drew));exact Kd.S_mono HO_258000.out (fun _ hk=>hk.2)):p:=h
theorem zq103 (h:p:=by (with_reducible repeat(first|apply Kd.R_alloc|apply Kd.R_drewN|apply Kd.R_drew));exact HO_9.out):p:=h
theorem zq104 (h:p:=by (with_reducible repeat(first|apply Kd.R_alloc|apply Kd.R_drewN|apply Kd.R_drew));exact HO_6.out):p:=h
theorem zq105 (h:p:=by (with_reducible repeat(first|apply Kd.S_alloc|apply Kd.S_drewN|apply Kd.S_drew));exact Kd.S_mono HO_258000.out (fun _ hk=>⟨trivial,hk⟩)):p:=h
theorem zq109 (h:p:=by repeat(first|(with_reducible first|exact HB.out|apply below_alloc|apply pw_below_drewN|apply below_drew1|refine below_set ?_ b1.out|refine below_set ?_ b4.out)|exact HB.out)):p:=h
theorem zq112 (h:p:=by (with_reducible repeat(first|apply Kd.S_alloc|apply Kd.S_drewN|apply Kd.S_drew));exact HO_217000.out):p:=h
theorem zq116 (h:p:=by repeat(first|exact HB2.out|apply below_alloc|apply pw_below_drewN|apply below_drew1)):p:=h
theorem zq120 (h:p:=by (with_reducible repeat(first|apply Kd.R_alloc|apply Kd.R_drewN|apply Kd.R_drew));exact d2.out):p:=h
theorem zq122 (h:p:=by exact(by(with_reducible repeat(first|apply Kd.R_alloc|apply Kd.R_drewN|apply Kd.R_drew));exact HO_3.out)):p:=h
theorem zq126 (h:p:=by exact Kd.M_row (Kd.R_mono (Kd.R_tight rfl (Kd.R_mono (ok':=fun k_=>((fun k_=>some k_≠(a1:Value).ownBlock)) k_∧some k_≠(b0:Value).ownBlock) (Kd.R_apart' (HO_9.out) (Kd.S_typed HO_217000.out) (by decide)) (fun k_ hk=>⟨hk.1,hk.2⟩))) (fun _ h_=>h_))):p:=h
theorem zq130 (h:p:=by (with_reducible repeat(first|refine blk_drewN ?_ _|refine blk_drew ?_|refine blk_alloc ?_ _));refine blk_put (cs:= #[b0,a1]) ?_ 0 _ rfl;(with_reducible repeat(first|refine blk_drewN ?_ _|refine blk_drew ?_|refine blk_alloc ?_ _));exact a0.out):p:=h
theorem zq134 (h:p:=by repeat(first|(with_reducible first|exact HB.out|apply below_alloc|apply pw_below_drewN|apply below_drew1|refine below_set ?_ (IsS87.ge a0.out))|exact HB.out)):p:=h
theorem zq137 (h:p:=by (with_reducible repeat(first|apply Kd.S_alloc|apply Kd.S_drewN|apply Kd.S_drew));exact Kd.S_mono HO_325000.out (fun _ hk=>⟨hk.2,hk.1⟩)):p:=h
theorem zq139 (h:p:=by (with_reducible repeat(first|apply Kd.R_alloc|apply Kd.R_drewN|apply Kd.R_drew));exact d9.out):p:=h
theorem zq141 (h:p:=by have:=b3.out;have:=b4.out;have:=b7.out;have:=b6.out;omega):p:=h
theorem zq142 (h:p:=by (with_reducible repeat(first|apply Kd.R_alloc|apply Kd.R_drewN|apply Kd.R_drew));exact HO_304001.out):p:=h
theorem zq148 (h:p:=by repeat(first|(with_reducible first|exact HB.out|apply below_alloc|apply pw_below_drewN|apply below_drew1|refine below_set ?_ b1.out|refine below_set ?_ b5.out)|exact HB.out)):p:=h
theorem zq150 (h:p:=by (with_reducible repeat(first|refine blk_drewN ?_ _|refine blk_drew ?_|refine blk_alloc ?_ _));refine blk_put (cs:= #[.slice none 0 0,.slice none 0 0]) ?_ 1 _ rfl;(with_reducible repeat(first|refine blk_drewN ?_ _|refine blk_drew ?_|refine blk_alloc ?_ _));refine blk_put (cs:= #[.slice none 0 0,.slice none 0 0]) ?_ 0 _ rfl;(with_reducible repeat(first|refine blk_drewN ?_ _|refine blk_drew ?_|refine blk_alloc ?_ _));exact a1.out):p:=h
theorem zq151 (h:p:=by (with_reducible repeat(first|refine blk_drewN ?_ _|refine blk_drew ?_|refine blk_alloc ?_ _));refine blk_put (cs:= #[.slice none 0 0,.slice none 0 0]) ?_ 1 _ rfl;(with_reducible repeat(first|refine blk_drewN ?_ _|refine blk_drew ?_|refine blk_alloc ?_ _));refine blk_put (cs:= #[.slice none 0 0,.slice none 0 0]) ?_ 0 _ rfl;(with_reducible repeat(first|refine blk_drewN ?_ _|refine blk_drew ?_|refine blk_alloc ?_ _));exact a0.out):p:=h
theorem zq157 (h:p:=by (with_reducible repeat(first|apply Kd.S_alloc|apply Kd.S_drewN|apply Kd.S_drew));exact HO_258000.out):p:=h
theorem zq159 (h:p:=by repeat(first|(with_reducible first|exact a0.out|apply IsS87.alloc|apply IsS87.drewN|apply IsS87.drew|apply IsS87.set_1)|exact a0.out)):p:=h
theorem zq160 (h:p:=by (with_reducible repeat(first|apply Kd.R_alloc|apply Kd.R_drewN|apply Kd.R_drew));exact Kd.R_mono HO_217001.out (fun _ hk=>hk.2)):p:=h
theorem zq161 (h:p:=by (with_reducible repeat(first|apply Kd.S_alloc|apply Kd.S_drewN|apply Kd.S_drew));exact HO_3.out):p:=h
theorem zq164 (h:p:=by (with_reducible repeat(first|apply Kd.S_alloc|apply Kd.S_drewN|apply Kd.S_drew));exact d7.out):p:=h
theorem zq166 (h:p:=by (repeat(first|exact HB7.out|exact HBr.out|apply below_alloc))):p:=h
theorem zq169 (h:p:=by (with_reducible repeat(first|apply Kd.R_alloc|apply Kd.R_drewN|apply Kd.R_drew));exact Kd.R_mono HO_217001.out (fun _ hk=>⟨trivial,hk⟩)):p:=h
theorem zq170 (h:p:=by exact(below_size (by repeat(first|(with_reducible first|exact HB.out|apply below_alloc|apply pw_below_drewN|apply below_drew1|refine below_set ?_ b1.out|refine below_set ?_ b4.out|refine below_set ?_ b9.out)|exact HB.out)))):p:=h
theorem zq171 (h:p:=by (with_reducible repeat(first|apply Kd.S_alloc|apply Kd.S_drewN|apply Kd.S_drew));exact b3.out):p:=h
theorem zq174 (h:p:=by first|exact Kd.R_nil _ _ _ _ _|exact Kd.N_nil _ _ _ _ _|exact Kd.V_nil _ _ _ _ _|exact Kd.Q_nil _ _ _ _ _|exact Kd.S_nil _ _ _ _ _):p:=h
theorem zq178 (h:p:=by exact(by repeat(first|(with_reducible first|exact HB.out|apply below_alloc|apply pw_below_drewN|apply below_drew1|refine below_set ?_ b1.out|refine below_set ?_ b4.out|refine below_set ?_ b9.out)|exact HB.out))):p:=h
theorem zq179 (h:p:=by exact(by(with_reducible repeat(first|apply Kd.R_alloc|apply Kd.R_drewN|apply Kd.R_drew));exact HO_9.out)):p:=h
theorem zq180 (h:p:=by exact(by(with_reducible repeat(first|apply Kd.S_alloc|apply Kd.S_drewN|apply Kd.S_drew));exact Kd.S_mono HO_217000.out (fun k_ hk=>⟨hk.2,fun e_=>hk.1 e_⟩))):p:=h
theorem zq184 (h:p:=by repeat(first|(with_reducible first|exact HB.out|apply below_alloc|apply pw_below_drewN|apply below_drew1|refine below_set ?_ b1.out|refine below_set ?_ b2.out|refine below_set ?_ b3.out)|exact HB.out)):p:=h
theorem zq271 (h:p:=by exact(below_size (by repeat(first|(with_reducible first|exact HB.out|apply below_alloc|apply pw_below_drewN|apply below_drew1)|exact HB.out)))):p:=h
theorem zq273 (h:p:=by have:=b1.out;have:=b2.out;have:=e8.out;have:=b3.out;have:=h2.out;omega):p:=h
theorem zq274 (h:p:=by have:=b5.out;have:=b3.out;have:=d8.out;have:=g3.out;have:=j7.out;omega):p:=h
theorem zq276 (h:p:=by (with_reducible repeat(first|apply Kd.R_alloc|apply Kd.R_drewN|apply Kd.R_drew));exact f7.out):p:=h
theorem zq277 (h:p:=by (with_reducible repeat(first|apply Kd.R_alloc|apply Kd.R_drewN|apply Kd.R_drew));exact f9.out):p:=h
theorem zq279 (h:p:=by (with_reducible repeat(first|apply Kd.R_alloc|apply Kd.R_drewN|apply Kd.R_drew));exact f8.out):p:=h
theorem zq280 (h:p:=by (with_reducible repeat(first|apply Kd.S_alloc|apply Kd.S_drewN|apply Kd.S_drew));exact e9.out):p:=h
theorem zq282 (h:p:=by (with_reducible repeat(first|apply Kd.R_alloc|apply Kd.R_drewN|apply Kd.R_drew));exact f6.out):p:=h
theorem zq283 (h:p:=by exact(fun k_ hk=>⟨Kd.fresh' (Kd.R_lt (by(with_reducible repeat(first|apply Kd.R_alloc|apply Kd.R_drewN|apply Kd.R_drew));exact HO_5.out)) k_ hk,Kd.fresh' (Kd.R_lt (by(with_reducible repeat(first|apply Kd.R_alloc|apply Kd.R_drewN|apply Kd.R_drew));exact HO_304001.out)) k_ hk⟩)):p:=h
theorem zq285 (h:p:=by first|exact Kd.S_nil _ _ _ _ _|exact Kd.N_nil _ _ _ _ _|exact Kd.V_nil _ _ _ _ _|exact Kd.Q_nil _ _ _ _ _|exact Kd.R_nil _ _ _ _ _):p:=h
theorem zq286 (h:p:=by repeat(first|(with_reducible first|exact HB.out|apply below_alloc|apply pw_below_drewN|apply below_drew1|refine below_set ?_ b1.out|refine below_set ?_ b2.out)|exact HB.out)):p:=h
theorem zq287 (h:p:=by exact(by repeat(first|(with_reducible first|exact HB.out|apply below_alloc|apply pw_below_drewN|apply below_drew1)|exact HB.out))):p:=h
theorem zq288 (h:p:=by (with_reducible repeat(first|apply Kd.Q_alloc|apply Kd.Q_drewN|apply Kd.Q_drew));exact Kd.Q_mono HO_325001.out (fun _ hk=>hk.2)):p:=h
theorem zq294 (h:p:=by repeat(first|(with_reducible first|exact HBW.out|apply below_alloc|apply pw_below_drewN|apply below_drew1)|exact HBW.out)):p:=h
theorem zq298 (h:p:=by repeat(first|(with_reducible first|exact HK.out|apply KeepBut.set_|apply keep_drewN|apply keep_drew|apply keep_alloc|refine keep_far ?_ a9.out _)|exact HK.out)):p:=h
theorem zq299 (h:p:=by repeat(first|(with_reducible first|exact HB.out|apply below_alloc|apply pw_below_drewN|apply below_drew1|refine below_set ?_ (IsS87.ge HI0.out))|exact HB.out)):p:=h
theorem zq304 (h:p:=by (with_reducible repeat(first|refine blk_drewN ?_ _|refine blk_drew ?_|refine blk_alloc ?_ _));refine blk_far ?_ b7.out _;(with_reducible repeat(first|refine blk_drewN ?_ _|refine blk_drew ?_|refine blk_alloc ?_ _));exact a2.out):p:=h
theorem zq305 (h:p:=by (with_reducible repeat(first|refine blk_drewN ?_ _|refine blk_drew ?_|refine blk_alloc ?_ _));refine blk_far ?_ b8.out _;(with_reducible repeat(first|refine blk_drewN ?_ _|refine blk_drew ?_|refine blk_alloc ?_ _));exact a4.out):p:=h
theorem zq306 (h:p:=by have:=b0.out;have:=b7.out;have:=b8.out;omega):p:=h
theorem zq312 (h:p:=by have:=b1.out;have:=b2.out;have:=e7.out;have:=b3.out;have:=g4.out;omega):p:=h
theorem zq313 (h:p:=by have:=d0.out;have:=d1.out;have:=f1.out;have:=e8.out;have:=g4.out;omega):p:=h
theorem zq315 (h:p:=by have:=d2.out;have:=d3.out;have:=d6.out;have:=e1.out;have:=h6.out;omega):p:=h
theorem zq316 (h:p:=by exact(by(with_reducible repeat(first|apply Kd.R_alloc|apply Kd.R_drewN|apply Kd.R_drew));exact HO_5.out)):p:=h
theorem zq317 (h:p:=by repeat(first|(with_reducible first|exact HI0.out|apply IsS87.alloc|apply IsS87.drewN|apply IsS87.drew|apply IsS87.set_1)|exact HI0.out)):p:=h
theorem zq318 (h:p:=by (with_reducible repeat(first|apply Kd.Q_alloc|apply Kd.Q_drewN|apply Kd.Q_drew));exact Kd.Q_mono HO_325001.out (fun _ hk=>⟨trivial,hk⟩)):p:=h
theorem zq321 (h:p:=by (with_reducible repeat(first|apply Kd.R_alloc|apply Kd.R_drewN|apply Kd.R_drew));exact Kd.R_mono HO_5.out (fun _ hk=>⟨hk.2,hk.1⟩)):p:=h
theorem zq323 (h:p:=by first|(go_simp;done)|(simp;done)|assumption|(go_simp;assumption)):p:=h
theorem zq326 (h:p:=by (with_reducible repeat(first|apply Kd.S_alloc|apply Kd.S_drewN|apply Kd.S_drew));exact g6.out):p:=h
theorem zq328 (h:p:=by (with_reducible repeat(first|apply Kd.S_alloc|apply Kd.S_drewN|apply Kd.S_drew));exact g5.out):p:=h
theorem zq329 (h:p:=by (with_reducible repeat(first|apply Kd.S_alloc|apply Kd.S_drewN|apply Kd.S_drew));exact g3.out):p:=h
theorem zq331 (h:p:=by (with_reducible repeat(first|apply Kd.S_alloc|apply Kd.S_drewN|apply Kd.S_drew));exact g7.out):p:=h
theorem zq334 (h:p:=by repeat(first|exact Kd.C_below HR0.out HB.out|(refine Kd.C_drewN ?_ _)|(refine Kd.C_drew ?_))):p:=h
theorem zq335 (h:p:=by (with_reducible repeat(first|apply Kd.S_alloc|apply Kd.S_drewN|apply Kd.S_drew));exact Kd.S_mono HO_3.out (fun _ hk=>hk.2)):p:=h
theorem zq339 (h:p:=by have:=j3.out;have:=p2.out;first|omega|exact Nat.le_refl _):p:=h
theorem zq345 (h:p:=by repeat(first|exact(Kd.S_reads' HO_3.out).2.2|(with_reducible refine Kd.C_alloc ?_ _)|(with_reducible refine Kd.C_drewN ?_ _)|(with_reducible refine Kd.C_drew ?_))):p:=h
theorem zq349 (h:p:=by repeat(first|exact(Kd.N_reads' a0.out).2.2|(with_reducible refine Kd.C_alloc ?_ _)|(with_reducible refine Kd.C_drewN ?_ _)|(with_reducible refine Kd.C_drew ?_))):p:=h
theorem zq353 (h:p:=by (with_reducible repeat(first|apply Kd.S_alloc|apply Kd.S_drewN|apply Kd.S_drew));exact HO_304000.out):p:=h
theorem zq355 (h:p:=by (with_reducible repeat(first|apply Kd.S_alloc|apply Kd.S_drewN|apply Kd.S_drew));exact Kd.S_mono HO_304000.out (fun _ hk=>⟨hk.1.1,⟨hk.2,hk.1.2⟩⟩)):p:=h
theorem zq357 (h:p:=by repeat(first|exact b7.out|(with_reducible refine Kd.C_alloc ?_ _)|(with_reducible refine Kd.C_drewN ?_ _)|(with_reducible refine Kd.C_drew ?_))):p:=h
theorem zq358 (h:p:=by (with_reducible repeat(first|apply Kd.S_alloc|apply Kd.S_drewN|apply Kd.S_drew));exact Kd.S_mono HO_3.out (fun k_ hk=>⟨trivial,fun e_=>hk e_⟩)):p:=h
theorem zq359 (h:p:=by (repeat(first|exact HOr2.out|apply Kd.R_alloc))):p:=h
theorem zq360 (h:p:=by have:=b5.out;have:=b3.out;have:=d8.out;first|omega|exact Nat.le_refl _):p:=h
theorem zq361 (h:p:=by (with_reducible repeat(first|apply Kd.R_alloc|apply Kd.R_drewN|apply Kd.R_drew));exact i2.out):p:=h
theorem zq362 (h:p:=by (with_reducible repeat(first|apply Kd.R_alloc|apply Kd.R_drewN|apply Kd.R_drew));exact i1.out):p:=h
theorem zq363 (h:p:=by (with_reducible repeat(first|apply Kd.R_alloc|apply Kd.R_drewN|apply Kd.R_drew));exact i3.out):p:=h
theorem zq364 (h:p:=by (with_reducible repeat(first|apply Kd.N_alloc|apply Kd.N_drewN|apply Kd.N_drew));exact a0.out):p:=h
theorem zq367 (h:p:=by (with_reducible repeat(first|apply Kd.R_alloc|apply Kd.R_drewN|apply Kd.R_drew));exact h7.out):p:=h
theorem zq368 (h:p:=by (repeat(first|exact HA7.out|apply Kd.R_alloc))):p:=h
theorem zq371 (h:p:=by have:=a2.out;have:=a6.out;have:=a7.out;omega):p:=h
theorem zq372 (h:p:=by (with_reducible repeat(first|apply Kd.S_alloc|apply Kd.S_drewN|apply Kd.S_drew));exact Kd.S_mono HO_3.out (fun _ hk=>⟨trivial,hk⟩)):p:=h
theorem zq373 (h:p:=by (with_reducible repeat(first|apply Kd.S_alloc|apply Kd.S_drewN|apply Kd.S_drew));exact Kd.S_mono c3.out (fun _ hk=>⟨trivial,hk⟩)):p:=h
theorem zq375 (h:p:=by have:=d2.out;have:=d3.out;have:=d6.out;have:=e1.out;first|omega|exact Nat.le_refl _):p:=h
theorem zq380 (h:p:=by exact(by(with_reducible repeat(first|apply Kd.R_alloc|apply Kd.R_drewN|apply Kd.R_drew));exact HO_217001.out)):p:=h
theorem zq385 (h:p:=by have:=b3.out;have:=b4.out;have:=b7.out;first|omega|exact Nat.le_refl _):p:=h
theorem zq391 (h:p:=by (with_reducible repeat(first|apply Kd.S_alloc|apply Kd.S_drewN|apply Kd.S_drew));exact j4.out):p:=h
theorem zq392 (h:p:=by (with_reducible repeat(first|apply Kd.S_alloc|apply Kd.S_drewN|apply Kd.S_drew));exact j6.out):p:=h
theorem zq394 (h:p:=by (with_reducible repeat(first|apply Kd.S_alloc|apply Kd.S_drewN|apply Kd.S_drew));exact j7.out):p:=h
theorem zq395 (h:p:=by (with_reducible repeat(first|apply Kd.S_alloc|apply Kd.S_drewN|apply Kd.S_drew));exact j8.out):p:=h
theorem zq398 (h:p:=by first | rfl | (simp; done) | (simp [*]; done)):p:=h
theorem zq399 (h:p:=by have:=u5.out;have:=u7.out;have:=HK3.out;omega):p:=h
theorem zq400 (h:p:=by have:=a8.out;have:=b3.out;have:=b4.out;omega):p:=h
theorem zq401 (h:p:=by exact(Reps.one (show Kd.M (Kd.int .i64) _ _ _ 1 [.int .i64 1] from rfl) (Reps.none _ _))):p:=h
theorem zq402 (h:p:=by have:=f1.out;have:=j7.out;have:=j9.out;omega):p:=h
theorem zq406 (h:p:=by have:=b3.out;have:=b4.out;first|omega|exact Nat.le_refl _):p:=h
theorem zq409 (h:p:=by have:=b1.out;have:=b2.out;have:=e7.out;have:=b3.out;first|omega|exact Nat.le_refl _):p:=h
theorem zq410 (h:p:=by (repeat(first|exact HXr.out|refine blk_alloc ?_ _))):p:=h
theorem zq411 (h:p:=by (repeat(first|exact HX7.out|refine blk_alloc ?_ _))):p:=h
theorem zq412 (h:p:=by (repeat(first|exact HG7.out|refine blk_alloc ?_ _))):p:=h
theorem zq413 (h:p:=by (repeat(first|exact HGr.out|refine blk_alloc ?_ _))):p:=h
theorem zq417 (h:p:=by (repeat(first|exact HrO7.out|apply Kd.R_alloc))):p:=h
theorem zq418 (h:p:=by have:=d0.out;have:=d1.out;have:=f1.out;first|omega|exact Nat.le_refl _):p:=h
theorem zq419 (h:p:=by have:=d2.out;have:=d3.out;have:=d6.out;first|omega|exact Nat.le_refl _):p:=h
theorem zq420 (h:p:=by (repeat(first|exact HAr.out|apply Kd.R_alloc))):p:=h
theorem zq421 (h:p:=by (repeat(first|exact HrA.out|apply Kd.R_alloc))):p:=h
theorem zq422 (h:p:=by (repeat(first|exact HV7.out|apply Kd.R_alloc))):p:=h
theorem zq423 (h:p:=by (repeat(first|exact HO7.out|apply Kd.R_alloc))):p:=h
theorem zq424 (h:p:=by (repeat(first|exact HrO.out|apply Kd.R_alloc))):p:=h
theorem zq425 (h:p:=by (repeat(first|exact HVr.out|apply Kd.R_alloc))):p:=h
theorem zq427 (h:p:=by have:=j3.out;first|omega|exact Nat.le_refl _):p:=h
end Go.Proofs.Ytdoomkcgdcfmlaa
end
section
namespace Go.Proofs.Ytdoomkcgdcfmlaa.Print
open Go.RowKit Go.Proofs.YtdoomkcgdcfmlaaW.PrintWords Go.Proofs.YtdoomkcgdcfmlaaW.PrintLast Go.Proofs.YtdoomkcgdcfmlaaW.PrintMore
attribute [local go_sem] max2_int min2_int max_two min_two max_three min_three max_four min_four   -- for this text's walks alone
def errW : Option Int → Value
 | none => .nilIface
 | some c => .iface 0 (.int .i64 c)
theorem errW_none : errW none = .nilIface := rfl
theorem errW_some (c : Int) : errW (some c) = .iface 0 (.int .i64 c) := rfl
theorem info3 : (Try.prog.info? 3).map (fun i => (i.zero, i.size, i.bytes)) = some (some (.int .i64 0), 1, 8) := by kernel_rfl
theorem info5 : (Try.prog.info? 5).map (fun i => (i.zero, i.size, i.bytes)) = some (some (.int .u8 0), 1, 1) := by kernel_rfl
theorem info28 : (Try.prog.info? 28).map (fun i => (i.zero, i.size, i.bytes)) = some (some (.slice none 0 0), 1, 24) := by kernel_rfl
def rd_L3 (xs : List (List Int)) (i : Int) : (List Int) := xs.getD i.toNat ([] : List Int)
theorem at_L3 {w : World} {A : Option Addr} {n : Nat} {xs : List (List Int)} (h : Kd.C (Kd.slice 3 (Kd.int .i64)) w A n xs) (i : Int) (h0 : 0 ≤ i) (h1 : i < n) : ∃ ad A0 c0, A = some ad ∧ w.cell? (ad.add i.toNat) = some (.slice A0 (rd_L3 xs i).length c0) ∧ (rd_L3 xs i).length ≤ c0 ∧ (Kd.int .i64).C w A0 (rd_L3 xs i).length (rd_L3 xs i) := by
 obtain ⟨ad, c, e, _, hK, hc0⟩ := Kd.C_get h ([] : List Int) i h0 h1
 have hc : ∀ j u, c[j]? = some u → w.cell? (ad.add (i.toNat * 1 + j)) = some u := hc0
 obtain ⟨A0, c0, rfl, l0, g0⟩ := hK
 exact ⟨ad, A0, c0, e, by have hq := hc 0 _ rfl; rwa [Nat.mul_one, Nat.add_zero] at hq, l0, g0⟩
end Go.Proofs.Ytdoomkcgdcfmlaa.Print
end
section
namespace Go.Proofs.Ytdoomkcgdcfmlaa.Print
open Go.RowKit Go.Proofs.YtdoomkcgdcfmlaaW.PrintWords Go.Proofs.YtdoomkcgdcfmlaaW.PrintLast Go.Proofs.YtdoomkcgdcfmlaaW.PrintMore
attribute [local go_sem] max2_int min2_int max_two min_two max_three min_three max_four min_four   -- for this text's walks alone
mutual
def impl_OrderOk.j0 : Nat → List (List Int) → Int → Bool → Option (Bool)
 | 0, _, _, _ => none
 | k + 1, x0, x3, x18 => if x18 = true then (some false) else (impl_OrderOk.l0 k x0 x3 x0 (x0.length : Int) 0)
def impl_OrderOk.l0 : Nat → List (List Int) → Int → List (List Int) → Int → Int → Option (Bool)
 | 0, _, _, _, _, _ => none
 | k + 1, x0, x3, x19, x20, x21 => if x21 < x20 then (if 0 ≤ x21 then (if x21 < (x19.length : Int) then (if ((rd_L3 x19 x21).length : Int) = x3 then (if x21 < ((rd_L3 x19 x21).length : Int) then (impl_OrderOk.j2 k x0 x3 x21 (rd_L3 x19 x21) x19 x20 x21 ((rd (rd_L3 x19 x21) x21) != 1)) else (none)) else (impl_OrderOk.j2 k x0 x3 x21 (rd_L3 x19 x21) x19 x20 x21 true)) else (none)) else (none)) else (impl_OrderOk.l2 k x0 x3 x3 0)
def impl_OrderOk.j2 : Nat → List (List Int) → Int → Int → List Int → List (List Int) → Int → Int → Bool → Option (Bool)
 | 0, _, _, _, _, _, _, _, _ => none
 | k + 1, x0, x3, x4, x5, x19, x20, x21, x36 => if x36 = true then (some false) else (impl_OrderOk.l1 k x0 x3 x4 x19 x20 x21 x5 (x5.length : Int) 0)
def impl_OrderOk.l1 : Nat → List (List Int) → Int → Int → List (List Int) → Int → Int → List Int → Int → Int → Option (Bool)
 | 0, _, _, _, _, _, _, _, _, _ => none
 | k + 1, x0, x3, x4, x19, x20, x21, x37, x38, x39 => if x39 < x38 then (if 0 ≤ x39 then (if x39 < (x37.length : Int) then (if (rd x37 x39) = 0 then (impl_OrderOk.j4 k x0 x3 x4 x39 (rd x37 x39) x19 x20 x21 x37 x38 x39 false) else (impl_OrderOk.j4 k x0 x3 x4 x39 (rd x37 x39) x19 x20 x21 x37 x38 x39 ((rd x37 x39) != 1))) else (none)) else (none)) else (impl_OrderOk.l0 k x0 x3 x19 x20 (wrap64 (x21 + 1)))
def impl_OrderOk.j4 : Nat → List (List Int) → Int → Int → Int → Int → List (List Int) → Int → Int → List Int → Int → Int → Bool → Option (Bool)
 | 0, _, _, _, _, _, _, _, _, _, _, _, _ => none
 | k + 1, x0, x3, x4, x6, x7, x19, x20, x21, x37, x38, x39, x49 => if x49 = true then (some false) else (if 0 ≤ x6 then (if x6 < (x0.length : Int) then (if ((rd_L3 x0 x6).length : Int) = x3 then (if x7 = 1 then (if x4 = x6 then (impl_OrderOk.l1 k x0 x3 x4 x19 x20 x21 x37 x38 (wrap64 (x39 + 1))) else (if 0 ≤ x4 then (if x4 < ((rd_L3 x0 x6).length : Int) then (if (rd (rd_L3 x0 x6) x4) = 1 then (some false) else (impl_OrderOk.l1 k x0 x3 x4 x19 x20 x21 x37 x38 (wrap64 (x39 + 1)))) else (none)) else (none))) else (impl_OrderOk.l1 k x0 x3 x4 x19 x20 x21 x37 x38 (wrap64 (x39 + 1)))) else (some false)) else (none)) else (none))
def impl_OrderOk.l2 : Nat → List (List Int) → Int → Int → Int → Option (Bool)
 | 0, _, _, _, _ => none
 | k + 1, x0, x3, x78, x79 => if x79 < x78 then (impl_OrderOk.l3 k x0 x3 x79 x78 x79 x3 0) else (some true)
def impl_OrderOk.l3 : Nat → List (List Int) → Int → Int → Int → Int → Int → Int → Option (Bool)
 | 0, _, _, _, _, _, _, _ => none
 | k + 1, x0, x3, x8, x78, x79, x82, x83 => if x83 < x82 then (impl_OrderOk.l4 k x0 x3 x8 x83 x78 x79 x82 x83 x3 0) else (impl_OrderOk.l2 k x0 x3 x78 (wrap64 (x79 + 1)))
def impl_OrderOk.l4 : Nat → List (List Int) → Int → Int → Int → Int → Int → Int → Int → Int → Int → Option (Bool)
 | 0, _, _, _, _, _, _, _, _, _, _ => none
 | k + 1, x0, x3, x8, x9, x78, x79, x82, x83, x86, x87 => if x87 < x86 then (if 0 ≤ x8 then (if x8 < (x0.length : Int) then (if 0 ≤ x9 then (if x9 < ((rd_L3 x0 x8).length : Int) then (if (rd (rd_L3 x0 x8) x9) = 1 then (if x9 < (x0.length : Int) then (if 0 ≤ x87 then (if x87 < ((rd_L3 x0 x9).length : Int) then (if (rd (rd_L3 x0 x9) x87) = 1 then (if x87 < ((rd_L3 x0 x8).length : Int) then (if (rd (rd_L3 x0 x8) x87) = 1 then (impl_OrderOk.l4 k x0 x3 x8 x9 x78 x79 x82 x83 x86 (wrap64 (x87 + 1))) else (some false)) else (none)) else (impl_OrderOk.l4 k x0 x3 x8 x9 x78 x79 x82 x83 x86 (wrap64 (x87 + 1)))) else (none)) else (none)) else (none)) else (impl_OrderOk.l4 k x0 x3 x8 x9 x78 x79 x82 x83 x86 (wrap64 (x87 + 1)))) else (none)) else (none)) else (none)) else (none)) else (impl_OrderOk.l3 k x0 x3 x8 x78 x79 x82 (wrap64 (x83 + 1)))
end
def impl_OrderOk.f (k : Nat) (l0 : List (List Int)) : Option (Bool) := if (l0.length : Int) < 1 then (impl_OrderOk.j0 k l0 (l0.length : Int) true) else (impl_OrderOk.j0 k l0 (l0.length : Int) (decide ((l0.length : Int) > 12)))
set_option maxHeartbeats 8000000 in
set_option maxRecDepth 100000 in
theorem impl_OrderOk.calls (k : Nat) (A0 : Option Addr) (c0 : Nat) (l0 : List (List Int)) (r : Bool) (w : World) (hr0 : Kd.C (Kd.slice 3 (Kd.int .i64)) w A0 l0.length l0) (hc0 : l0.length ≤ c0) (h : impl_OrderOk.f k l0 = some r) :
  Calls Try.prog 75 #[.slice A0 l0.length c0] w fun e w' => e = .returned (.bool r) ∧ Drawn0 w w' := by
 have c2:=zqm hr0;have w2:=zqm hc0;clear hr0 hc0;have H:(if(l0.length:Int)<1 then(impl_OrderOk.j0 k l0 (l0.length:Int) true) else(impl_OrderOk.j0 k l0 (l0.length:Int) (decide ((l0.length:Int)>12))))=some r:=h;clear h;have p2:=zqm H;clear H
 go_enter Try.func75,Try.ntmps75
 go_upto_region 2 with (fail)
 go_cut [18] (fun t3 wc=> ∃(kq:Nat) (h3:Bool),t3= .bool h3∧Aside0 (impl_OrderOk.j0 kq l0 (l0.length:Int) h3=some r)∧Aside0 (kq≤k)∧Drawn0 w wc)
 case first=>
  have H:=p2.out;clear p2
  by_cases c3:(l0.length:Int)<1
  ·rw [if_pos c3] at H;have h5:decide ((l0.length:Int)<1)=true:=decide_eq_true c3;have s2:decide (l0.length<1)=true:=decide_eq_true (by omega);clear c3;(first|rw [h5]|(simp only [i64_w,i32_w];rw [h5])|skip);have H':=zqm H;clear H
   go_wp2
   go_meet
   case rel=>exact⟨_,(true),(by first|rfl|(simp;done)|(simp [*];done)),H',⟨by first|omega|exact Nat.le_refl _⟩,zq22⟩
  ·rw [if_neg c3] at H;have h5:decide ((l0.length:Int)<1)=false:=decide_eq_false c3;have s2:decide (l0.length<1)=false:=decide_eq_false (by omega);clear c3;(first|rw [h5]|(simp only [i64_w,i32_w];rw [h5])|skip);have H':=zqm H;clear H
   go_wp2
   go_meet
   case rel=>exact⟨_,(decide ((l0.length:Int)>12)),(by first|rfl|(simp;done)|(simp [*];done)),H',⟨by first|omega|exact Nat.le_refl _⟩,zq22⟩
 case rest=>
  clear p2;obtain⟨kq,h3,rfl,HA,b1,⟨mc1,rfl⟩⟩:=hcut
  cases kq with
  |zero=>exact absurd HA.out (by simp [impl_OrderOk.j0])
  |succ p3=>
   have H:=HA.out;clear HA;simp only [impl_OrderOk.j0] at H
   by_cases c4:h3=true
   ·subst c4;(have H1:(some false)=some r:=by rw [if_pos rfl] at H;exact H);clear H;have H:=H1;clear H1;obtain rfl:=Option.some.inj H
    go_wp2
    go_ret
    exact⟨by first|rfl|(simp;done)|(simp [*];done),zq22⟩
   ·replace c4:=Bool.eq_false_iff.mpr c4;subst c4;(have H1:(impl_OrderOk.l0 p3 l0 (l0.length:Int) l0 (l0.length:Int) 0)=some r:=by rw [if_neg (show¬(false=true) by decide)] at H;exact H);clear H;have H:=H1;clear H1;have H':=zqm H;clear H
    go_wp2
    go_loopg [21] p3 (fun kq t4 w'=> ∃(a0:Int),t4= .int .i64 a0∧Aside0 (impl_OrderOk.l0 kq l0 (l0.length:Int) l0 (l0.length:Int) a0=some r)∧Aside0 (kq≤p3)∧Drawn0 w w')
    case atStart=>exact⟨(0),(by first|rfl|(simp;done)|(simp [*];done)),H',⟨Nat.le_refl _⟩,zq22⟩
    case round=>
     clear H';obtain⟨a0,rfl,HA,b2,⟨m2,rfl⟩⟩:=hrel
     cases gk with
     |zero=>exact absurd HA.out (by simp [impl_OrderOk.l0])
     |succ k2=>
      have H:=HA.out;clear HA;simp only [impl_OrderOk.l0] at H
      by_cases c5:a0<(l0.length:Int)
      ·rw [if_pos c5] at H;have s3:decide (a0<(l0.length:Int))=true:=decide_eq_true c5;clear c5
       by_cases c6:0≤a0
       ·rw [if_pos c6] at H;have w0:decide (0≤a0)=true:=decide_eq_true c6;clear c6
        by_cases c7:a0<(l0.length:Int)
        ·rw [if_pos c7] at H;have w1:decide (a0<(l0.length:Int))=true:=decide_eq_true c7;clear c7;have p4:=zqm H;clear H;have l5:0≤(a0:Int):=zqo;have l6:a0<(l0.length:Int):=zqo;obtain⟨e2,t5,t6,s4,s9,i8,i9⟩:=at_L3 c2.out a0 l5 l6
         cases s4
         have j1:=zqm i9;have t0:=zqm i8;clear i9 i8;replace l5:=eq_true l5;replace l6:=eq_true l6
         go_upto_region 7 with (fail)
         go_cut [36] (fun t7 wc=> ∃(kq:Nat) (h4:Bool),t7= .bool h4∧Aside0 (impl_OrderOk.j2 kq l0 (l0.length:Int) a0 (rd_L3 l0 a0) l0 (l0.length:Int) a0 h4=some r)∧Aside0 (kq≤k2)∧Drawn0 w wc)
         case first=>
          have H:=p4.out;clear p4
          by_cases c9:((rd_L3 l0 a0).length:Int)=(l0.length:Int)
          ·rw [if_pos c9] at H;have h6:(((rd_L3 l0 a0).length:Int)==(l0.length:Int))=true:=beq_iff_eq.mpr c9;have s5:(((rd_L3 l0 a0).length:Int) !=(l0.length:Int))=false:=bne_eq_false_iff_eq.mpr c9;(have s6:((rd_L3 l0 a0).length==l0.length)=true:=by first|simpa using c9|(simp at c9 ⊢;omega));clear c9;(first|rw [h6]|(simp only [i64_w,i32_w];rw [h6])|skip)
           by_cases n0:a0<((rd_L3 l0 a0).length:Int)
           ·rw [if_pos n0] at H;have u3:decide (a0<((rd_L3 l0 a0).length:Int))=true:=decide_eq_true n0;clear n0;have H':=zqm H;clear H;have l7:0≤(a0:Int):=zqo;have l8:a0<((rd_L3 l0 a0).length:Int):=zqo;obtain⟨u4,s7,t1⟩:=Kd.at_int j1.out a0 l7 l8
            cases s7
            replace l7:=eq_true l7;replace l8:=eq_true l8
            go_wp2
            go_meet
            case rel=>exact⟨_,(((rd (rd_L3 l0 a0) a0) !=1)),(by first|rfl|(simp;done)|(simp [*];done)),H',⟨by have:=b1.out;have:=b2.out;first|omega|exact Nat.le_refl _⟩,zq22⟩
           ·rw [if_neg n0] at H;exact absurd H (by simp)
          ·rw [if_neg c9] at H;have h6:(((rd_L3 l0 a0).length:Int)==(l0.length:Int))=false:=beq_eq_false_iff_ne.mpr c9;have s5:(((rd_L3 l0 a0).length:Int) !=(l0.length:Int))=true:=bne_iff_ne.mpr c9;(have s6:((rd_L3 l0 a0).length==l0.length)=false:=by first|simpa using c9|(simp at c9 ⊢;omega));(first|rw [h6]|(simp only [i64_w,i32_w];rw [h6])|skip);have H':=zqm H;clear H
           go_wp2
           go_meet
           case rel=>exact⟨_,(true),(by first|rfl|(simp;done)|(simp [*];done)),H',⟨by have:=b1.out;have:=b2.out;first|omega|exact Nat.le_refl _⟩,zq22⟩
         case rest=>
          clear p4;obtain⟨kq,h4,rfl,HA,e7,⟨mc7,rfl⟩⟩:=hcut
          cases kq with
          |zero=>exact absurd HA.out (by simp [impl_OrderOk.j2])
          |succ p5=>
           have H:=HA.out;clear HA;simp only [impl_OrderOk.j2] at H
           by_cases n1:h4=true
           ·subst n1;(have H1:(some false)=some r:=by rw [if_pos rfl] at H;exact H);clear H;have H:=H1;clear H1;obtain rfl:=Option.some.inj H
            go_wp2
            go_ret
            exact⟨by first|rfl|(simp;done)|(simp [*];done),zq22⟩
           ·replace n1:=Bool.eq_false_iff.mpr n1;subst n1;(have H1:(impl_OrderOk.l1 p5 l0 (l0.length:Int) a0 l0 (l0.length:Int) a0 (rd_L3 l0 a0) ((rd_L3 l0 a0).length:Int) 0)=some r:=by rw [if_neg (show¬(false=true) by decide)] at H;exact H);clear H;have H:=H1;clear H1;have H':=zqm H;clear H
            go_wp2
            go_loopg [39] p5 (fun kq t8 w'=> ∃(a1:Int),t8= .int .i64 a1∧Aside0 (impl_OrderOk.l1 kq l0 (l0.length:Int) a0 l0 (l0.length:Int) a0 (rd_L3 l0 a0) ((rd_L3 l0 a0).length:Int) a1=some r)∧Aside0 (kq≤p5)∧Drawn0 w w')
            case atStart=>exact⟨(0),(by first|rfl|(simp;done)|(simp [*];done)),H',⟨Nat.le_refl _⟩,zq22⟩
            case round=>
             clear H';obtain⟨a1,rfl,HA,b3,⟨m4,rfl⟩⟩:=hrel
             cases gk with
             |zero=>exact absurd HA.out (by simp [impl_OrderOk.l1])
             |succ k4=>
              have H:=HA.out;clear HA;simp only [impl_OrderOk.l1] at H
              by_cases j3:a1<((rd_L3 l0 a0).length:Int)
              ·rw [if_pos j3] at H;have q0:decide (a1<((rd_L3 l0 a0).length:Int))=true:=decide_eq_true j3;clear j3
               by_cases n2:0≤a1
               ·rw [if_pos n2] at H;have u5:decide (0≤a1)=true:=decide_eq_true n2;clear n2
                by_cases n3:a1<((rd_L3 l0 a0).length:Int)
                ·rw [if_pos n3] at H;have u6:decide (a1<((rd_L3 l0 a0).length:Int))=true:=decide_eq_true n3;clear n3;have l9:=zqm H;clear H;have m0:0≤(a1:Int):=zqo;have m1:a1<((rd_L3 l0 a0).length:Int):=zqo;obtain⟨u7,s8,t2⟩:=Kd.at_int j1.out a1 m0 m1
                 cases s8
                 replace m0:=eq_true m0;replace m1:=eq_true m1
                 go_upto_region 12 with (fail)
                 go_cut [49] (fun t9 wc=> ∃(kq:Nat) (f9:Bool),t9= .bool f9∧Aside0 (impl_OrderOk.j4 kq l0 (l0.length:Int) a0 a1 (rd (rd_L3 l0 a0) a1) l0 (l0.length:Int) a0 (rd_L3 l0 a0) ((rd_L3 l0 a0).length:Int) a1 f9=some r)∧Aside0 (kq≤k4)∧Drawn0 w wc)
                 case first=>
                  have H:=l9.out;clear l9
                  by_cases h7:(rd (rd_L3 l0 a0) a1)=0
                  ·rw [if_pos h7] at H;have g0:((rd (rd_L3 l0 a0) a1)==0)=true:=beq_iff_eq.mpr h7;have q1:((rd (rd_L3 l0 a0) a1) !=0)=false:=bne_eq_false_iff_eq.mpr h7;clear h7;(first|rw [g0]|(simp only [i64_w,i32_w];rw [g0])|skip);have H':=zqm H;clear H
                   go_wp2
                   go_meet
                   case rel=>exact⟨_,(false),(by first|rfl|(simp;done)|(simp [*];done)),H',⟨zq409⟩,zq22⟩
                  ·rw [if_neg h7] at H;have g0:((rd (rd_L3 l0 a0) a1)==0)=false:=beq_eq_false_iff_ne.mpr h7;have q1:((rd (rd_L3 l0 a0) a1) !=0)=true:=bne_iff_ne.mpr h7;(first|rw [g0]|(simp only [i64_w,i32_w];rw [g0])|skip);have H':=zqm H;clear H
                   go_wp2
                   go_meet
                   case rel=>exact⟨_,(((rd (rd_L3 l0 a0) a1) !=1)),(by first|rfl|(simp;done)|(simp [*];done)),H',⟨zq409⟩,zq22⟩
                 case rest=>
                  clear l9;obtain⟨kq,f9,rfl,HA,g4,⟨mc14,rfl⟩⟩:=hcut
                  cases kq with
                  |zero=>exact absurd HA.out (by simp [impl_OrderOk.j4])
                  |succ g5=>
                   have H:=HA.out;clear HA;simp only [impl_OrderOk.j4] at H
                   by_cases n4:f9=true
                   ·subst n4;(have H1:(some false)=some r:=by rw [if_pos rfl] at H;exact H);clear H;have H:=H1;clear H1;obtain rfl:=Option.some.inj H
                    go_wp2
                    go_ret
                    exact⟨by first|rfl|(simp;done)|(simp [*];done),zq22⟩
                   ·replace n4:=Bool.eq_false_iff.mpr n4;subst n4;(have H1:(if 0≤a1 then(if a1<(l0.length:Int) then(if((rd_L3 l0 a1).length:Int)=(l0.length:Int) then(if(rd (rd_L3 l0 a0) a1)=1 then(if a0=a1 then(impl_OrderOk.l1 g5 l0 (l0.length:Int) a0 l0 (l0.length:Int) a0 (rd_L3 l0 a0) ((rd_L3 l0 a0).length:Int) (wrap64 (a1+1))) else(if 0≤a0 then(if a0<((rd_L3 l0 a1).length:Int) then(if(rd (rd_L3 l0 a1) a0)=1 then(some false) else(impl_OrderOk.l1 g5 l0 (l0.length:Int) a0 l0 (l0.length:Int) a0 (rd_L3 l0 a0) ((rd_L3 l0 a0).length:Int) (wrap64 (a1+1)))) else(none)) else(none))) else(impl_OrderOk.l1 g5 l0 (l0.length:Int) a0 l0 (l0.length:Int) a0 (rd_L3 l0 a0) ((rd_L3 l0 a0).length:Int) (wrap64 (a1+1)))) else(some false)) else(none)) else(none))=some r:=by rw [if_neg (show¬(false=true) by decide)] at H;exact H);clear H;have H:=H1;clear H1
                    by_cases n5:0≤a1
                    ·rw [if_pos n5] at H;have u8:decide (0≤a1)=true:=decide_eq_true n5;clear n5
                     by_cases n6:a1<(l0.length:Int)
                     ·rw [if_pos n6] at H;have u9:decide (a1<(l0.length:Int))=true:=decide_eq_true n6;clear n6
                      by_cases e4:((rd_L3 l0 a1).length:Int)=(l0.length:Int)
                      ·rw [if_pos e4] at H;have q2:(((rd_L3 l0 a1).length:Int)==(l0.length:Int))=true:=beq_iff_eq.mpr e4;have q3:(((rd_L3 l0 a1).length:Int) !=(l0.length:Int))=false:=bne_eq_false_iff_eq.mpr e4;(have q4:((rd_L3 l0 a1).length==l0.length)=true:=by first|simpa using e4|(simp at e4 ⊢;omega));clear e4
                       by_cases h8:(rd (rd_L3 l0 a0) a1)=1
                       ·rw [if_pos h8] at H;have q5:((rd (rd_L3 l0 a0) a1)==1)=true:=beq_iff_eq.mpr h8;have q6:((rd (rd_L3 l0 a0) a1) !=1)=false:=bne_eq_false_iff_eq.mpr h8;clear h8
                        by_cases h9:a0=a1
                        ·rw [if_pos h9] at H;have q7:(a0==a1)=true:=beq_iff_eq.mpr h9;have q8:(a0 !=a1)=false:=bne_eq_false_iff_eq.mpr h9;clear h9;have H':=zqm H;clear H;have a9:0≤(a1:Int):=zqo;have b0:a1<(l0.length:Int):=zqo;obtain⟨c8,g1,g2,e3,d0,a5,a6⟩:=at_L3 c2.out a1 a9 b0;obtain rfl:e2=c8:=(by injection e3);have e5:=zqm a6;have e6:=zqm a5;clear a6 a5;replace a9:=eq_true a9;replace b0:=eq_true b0
                         go_wp2
                         go_roundg g5
                         (case measure=> exact zq312);case rel=>exact⟨(wrap64 (a1+1)),(by first|rfl|(simp;done)|(simp [*];done)),H',⟨zq312⟩,zq22⟩
                        ·rw [if_neg h9] at H;have q7:(a0==a1)=false:=beq_eq_false_iff_ne.mpr h9;have q8:(a0 !=a1)=true:=bne_iff_ne.mpr h9
                         by_cases n7:0≤a0
                         ·rw [if_pos n7] at H;have v0:decide (0≤a0)=true:=decide_eq_true n7;clear n7
                          by_cases n8:a0<((rd_L3 l0 a1).length:Int)
                          ·rw [if_pos n8] at H;have v1:decide (a0<((rd_L3 l0 a1).length:Int))=true:=decide_eq_true n8;clear n8
                           by_cases i0:(rd (rd_L3 l0 a1) a0)=1
                           ·rw [if_pos i0] at H;have q9:((rd (rd_L3 l0 a1) a0)==1)=true:=beq_iff_eq.mpr i0;have r0:((rd (rd_L3 l0 a1) a0) !=1)=false:=bne_eq_false_iff_eq.mpr i0;clear i0;obtain rfl:=Option.some.inj H;have a9:0≤(a1:Int):=zqo;have b0:a1<(l0.length:Int):=zqo;obtain⟨c8,g1,g2,e3,d0,a5,a6⟩:=at_L3 c2.out a1 a9 b0;obtain rfl:e2=c8:=(by injection e3);have e5:=zqm a6;have e6:=zqm a5;clear a6 a5;replace a9:=eq_true a9;replace b0:=eq_true b0;have e9:0≤(a1:Int):=zqo;have f0:a1<(l0.length:Int):=zqo;obtain⟨k1,p6,p7,m6,g6,d6,d7⟩:=at_L3 c2.out a1 e9 f0;obtain rfl:e2=k1:=(by injection m6);have g7:=zqm d7;have o8:=zqm d6;clear d7 d6;replace e9:=eq_true e9;replace f0:=eq_true f0;have ea_:=Option.some.inj (d0.symm.trans g6);injection ea_ with ea_ en_ ec_;subst ea_;subst ec_;clear en_;have f1:0≤(a0:Int):=zqo;have f2:a0<((rd_L3 l0 a1).length:Int):=zqo;obtain⟨r1,m7,o9⟩:=Kd.at_int g7.out a0 f1 f2
                            cases m7
                            replace f1:=eq_true f1;replace f2:=eq_true f2
                            go_wp2
                            go_ret
                            exact⟨by first|rfl|(simp;done)|(simp [*];done),zq22⟩
                           ·rw [if_neg i0] at H;have q9:((rd (rd_L3 l0 a1) a0)==1)=false:=beq_eq_false_iff_ne.mpr i0;have r0:((rd (rd_L3 l0 a1) a0) !=1)=true:=bne_iff_ne.mpr i0;have H':=zqm H;clear H;have a9:0≤(a1:Int):=zqo;have b0:a1<(l0.length:Int):=zqo;obtain⟨c8,g1,g2,e3,d0,a5,a6⟩:=at_L3 c2.out a1 a9 b0;obtain rfl:e2=c8:=(by injection e3);have e5:=zqm a6;have e6:=zqm a5;clear a6 a5;replace a9:=eq_true a9;replace b0:=eq_true b0;have e9:0≤(a1:Int):=zqo;have f0:a1<(l0.length:Int):=zqo;obtain⟨k1,p6,p7,m6,g6,d6,d7⟩:=at_L3 c2.out a1 e9 f0;obtain rfl:e2=k1:=(by injection m6);have g7:=zqm d7;have o8:=zqm d6;clear d7 d6;replace e9:=eq_true e9;replace f0:=eq_true f0;have ea_:=Option.some.inj (d0.symm.trans g6);injection ea_ with ea_ en_ ec_;subst ea_;subst ec_;clear en_;have f1:0≤(a0:Int):=zqo;have f2:a0<((rd_L3 l0 a1).length:Int):=zqo;obtain⟨r1,m7,o9⟩:=Kd.at_int g7.out a0 f1 f2
                            cases m7
                            replace f1:=eq_true f1;replace f2:=eq_true f2
                            go_wp2
                            go_roundg g5
                            (case measure=> exact zq312);case rel=>exact⟨(wrap64 (a1+1)),(by first|rfl|(simp;done)|(simp [*];done)),H',⟨zq312⟩,zq22⟩
                          ·rw [if_neg n8] at H;exact absurd H (by simp)
                         ·rw [if_neg n7] at H;exact absurd H (by simp)
                       ·rw [if_neg h8] at H;have q5:((rd (rd_L3 l0 a0) a1)==1)=false:=beq_eq_false_iff_ne.mpr h8;have q6:((rd (rd_L3 l0 a0) a1) !=1)=true:=bne_iff_ne.mpr h8;have H':=zqm H;clear H;have a9:0≤(a1:Int):=zqo;have b0:a1<(l0.length:Int):=zqo;obtain⟨c8,g1,g2,e3,d0,a5,a6⟩:=at_L3 c2.out a1 a9 b0;obtain rfl:e2=c8:=(by injection e3);have e5:=zqm a6;have e6:=zqm a5;clear a6 a5;replace a9:=eq_true a9;replace b0:=eq_true b0
                        go_wp2
                        go_roundg g5
                        (case measure=> exact zq312);case rel=>exact⟨(wrap64 (a1+1)),(by first|rfl|(simp;done)|(simp [*];done)),H',⟨zq312⟩,zq22⟩
                      ·rw [if_neg e4] at H;have q2:(((rd_L3 l0 a1).length:Int)==(l0.length:Int))=false:=beq_eq_false_iff_ne.mpr e4;have q3:(((rd_L3 l0 a1).length:Int) !=(l0.length:Int))=true:=bne_iff_ne.mpr e4;(have q4:((rd_L3 l0 a1).length==l0.length)=false:=by first|simpa using e4|(simp at e4 ⊢;omega));obtain rfl:=Option.some.inj H;have a9:0≤(a1:Int):=zqo;have b0:a1<(l0.length:Int):=zqo;obtain⟨c8,g1,g2,e3,d0,a5,a6⟩:=at_L3 c2.out a1 a9 b0;obtain rfl:e2=c8:=(by injection e3);have e5:=zqm a6;have e6:=zqm a5;clear a6 a5;replace a9:=eq_true a9;replace b0:=eq_true b0
                       go_wp2
                       go_ret
                       exact⟨by first|rfl|(simp;done)|(simp [*];done),zq22⟩
                     ·rw [if_neg n6] at H;exact absurd H (by simp)
                    ·rw [if_neg n5] at H;exact absurd H (by simp)
                ·rw [if_neg n3] at H;exact absurd H (by simp)
               ·rw [if_neg n2] at H;exact absurd H (by simp)
              ·rw [if_neg j3] at H;have q0:decide (a1<((rd_L3 l0 a0).length:Int))=false:=decide_eq_false j3;clear j3;have H':=zqm H;clear H
               go_wp2
               go_roundg k4
               (case measure=>have:=b1.out;have:=b2.out;have:=e7.out;have:=b3.out;omega);case rel=>exact⟨(wrap64 (a0+1)),(by first|rfl|(simp;done)|(simp [*];done)),H',⟨by have:=b1.out;have:=b2.out;have:=e7.out;have:=b3.out;omega⟩,zq22⟩
        ·rw [if_neg c7] at H;exact absurd H (by simp)
       ·rw [if_neg c6] at H;exact absurd H (by simp)
      ·rw [if_neg c5] at H;have s3:decide (a0<(l0.length:Int))=false:=decide_eq_false c5;clear c5;have H':=zqm H;clear H
       go_wp2
       go_loopg [79] k2 (fun kq u0 w'=> ∃(a2:Int),u0= .int .i64 a2∧Aside0 (impl_OrderOk.l2 kq l0 (l0.length:Int) (l0.length:Int) a2=some r)∧Aside0 (kq≤k2)∧Drawn0 w w')
       case atStart=>exact⟨(0),(by first|rfl|(simp;done)|(simp [*];done)),H',⟨Nat.le_refl _⟩,zq22⟩
       case round=>
        clear H';obtain⟨a2,rfl,HA,e8,⟨m3,rfl⟩⟩:=hrel
        cases gk with
        |zero=>exact absurd HA.out (by simp [impl_OrderOk.l2])
        |succ k3=>
         have H:=HA.out;clear HA;simp only [impl_OrderOk.l2] at H
         by_cases j5:a2<(l0.length:Int)
         ·rw [if_pos j5] at H;have r2:decide (a2<(l0.length:Int))=true:=decide_eq_true j5;clear j5;have H':=zqm H;clear H
          go_wp2
          go_loopg [83] k3 (fun kq u1 w'=> ∃(a3:Int),u1= .int .i64 a3∧Aside0 (impl_OrderOk.l3 kq l0 (l0.length:Int) a2 (l0.length:Int) a2 (l0.length:Int) a3=some r)∧Aside0 (kq≤k3)∧Drawn0 w w')
          case atStart=>exact⟨(0),(by first|rfl|(simp;done)|(simp [*];done)),H',⟨Nat.le_refl _⟩,zq22⟩
          case round=>
           clear H';obtain⟨a3,rfl,HA,b3,⟨m4,rfl⟩⟩:=hrel
           cases gk with
           |zero=>exact absurd HA.out (by simp [impl_OrderOk.l3])
           |succ k4=>
            have H:=HA.out;clear HA;simp only [impl_OrderOk.l3] at H
            by_cases j6:a3<(l0.length:Int)
            ·rw [if_pos j6] at H;have r3:decide (a3<(l0.length:Int))=true:=decide_eq_true j6;clear j6;have H':=zqm H;clear H
             go_wp2
             go_loopg [87] k4 (fun kq u2 w'=> ∃(a4:Int),u2= .int .i64 a4∧Aside0 (impl_OrderOk.l4 kq l0 (l0.length:Int) a2 a3 (l0.length:Int) a2 (l0.length:Int) a3 (l0.length:Int) a4=some r)∧Aside0 (kq≤k4)∧Drawn0 w w')
             case atStart=>exact⟨(0),(by first|rfl|(simp;done)|(simp [*];done)),H',⟨Nat.le_refl _⟩,zq22⟩
             case round=>
              clear H';obtain⟨a4,rfl,HA,h2,⟨m5,rfl⟩⟩:=hrel
              cases gk with
              |zero=>exact absurd HA.out (by simp [impl_OrderOk.l4])
              |succ k5=>
               have H:=HA.out;clear HA;simp only [impl_OrderOk.l4] at H
               by_cases j7:a4<(l0.length:Int)
               ·rw [if_pos j7] at H;have r4:decide (a4<(l0.length:Int))=true:=decide_eq_true j7;clear j7
                by_cases n9:0≤a2
                ·rw [if_pos n9] at H;have v2:decide (0≤a2)=true:=decide_eq_true n9;clear n9
                 by_cases o0:a2<(l0.length:Int)
                 ·rw [if_pos o0] at H;have v3:decide (a2<(l0.length:Int))=true:=decide_eq_true o0;clear o0
                  by_cases o1:0≤a3
                  ·rw [if_pos o1] at H;have v4:decide (0≤a3)=true:=decide_eq_true o1;clear o1
                   by_cases o2:a3<((rd_L3 l0 a2).length:Int)
                   ·rw [if_pos o2] at H;have v5:decide (a3<((rd_L3 l0 a2).length:Int))=true:=decide_eq_true o2;clear o2
                    by_cases i1:(rd (rd_L3 l0 a2) a3)=1
                    ·rw [if_pos i1] at H;have r5:((rd (rd_L3 l0 a2) a3)==1)=true:=beq_iff_eq.mpr i1;have r6:((rd (rd_L3 l0 a2) a3) !=1)=false:=bne_eq_false_iff_eq.mpr i1;clear i1
                     by_cases o3:a3<(l0.length:Int)
                     ·rw [if_pos o3] at H;have v6:decide (a3<(l0.length:Int))=true:=decide_eq_true o3;clear o3
                      by_cases o4:0≤a4
                      ·rw [if_pos o4] at H;have v7:decide (0≤a4)=true:=decide_eq_true o4;clear o4
                       by_cases o5:a4<((rd_L3 l0 a3).length:Int)
                       ·rw [if_pos o5] at H;have v8:decide (a4<((rd_L3 l0 a3).length:Int))=true:=decide_eq_true o5;clear o5
                        by_cases i2:(rd (rd_L3 l0 a3) a4)=1
                        ·rw [if_pos i2] at H;have r7:((rd (rd_L3 l0 a3) a4)==1)=true:=beq_iff_eq.mpr i2;have r8:((rd (rd_L3 l0 a3) a4) !=1)=false:=bne_eq_false_iff_eq.mpr i2;clear i2
                         by_cases o6:a4<((rd_L3 l0 a2).length:Int)
                         ·rw [if_pos o6] at H;have v9:decide (a4<((rd_L3 l0 a2).length:Int))=true:=decide_eq_true o6;clear o6
                          by_cases i3:(rd (rd_L3 l0 a2) a4)=1
                          ·rw [if_pos i3] at H;have r9:((rd (rd_L3 l0 a2) a4)==1)=true:=beq_iff_eq.mpr i3;have s0:((rd (rd_L3 l0 a2) a4) !=1)=false:=bne_eq_false_iff_eq.mpr i3;clear i3;have H':=zqm H;clear H;have b4:0≤(a2:Int):=zqo;have b5:a2<(l0.length:Int):=zqo;obtain⟨d5,i4,i5,f3,d8,a7,a8⟩:=at_L3 c2.out a2 b4 b5
                           cases f3
                           have c1:=zqm a8;have g8:=zqm a7;clear a8 a7;replace b4:=eq_true b4;replace b5:=eq_true b5;have b6:0≤(a3:Int):=zqo;have b7:a3<((rd_L3 l0 a2).length:Int):=zqo;obtain⟨k6,f4,g9⟩:=Kd.at_int c1.out a3 b6 b7
                           cases f4
                           replace b6:=eq_true b6;replace b7:=eq_true b7;have d1:0≤(a3:Int):=zqo;have d2:a3<(l0.length:Int):=zqo;obtain⟨g3,k8,k9,i6,j8,b8,b9⟩:=at_L3 c2.out a3 d1 d2;obtain rfl:d5=g3:=(by injection i6);have d9:=zqm b9;have j9:=zqm b8;clear b9 b8;replace d1:=eq_true d1;replace d2:=eq_true d2;have d3:0≤(a4:Int):=zqo;have d4:a4<((rd_L3 l0 a3).length:Int):=zqo;obtain⟨o7,i7,k0⟩:=Kd.at_int d9.out a4 d3 d4
                           cases i7
                           replace d3:=eq_true d3;replace d4:=eq_true d4;have f5:0≤(a2:Int):=zqo;have f6:a2<(l0.length:Int):=zqo;obtain⟨k7,p8,p9,m8,h0,e0,e1⟩:=at_L3 c2.out a2 f5 f6;obtain rfl:d5=k7:=(by injection m8);have h1:=zqm e1;have p0:=zqm e0;clear e1 e0;replace f5:=eq_true f5;replace f6:=eq_true f6;have ea_:=Option.some.inj (d8.symm.trans h0);injection ea_ with ea_ en_ ec_;subst ea_;subst ec_;clear en_;have f7:0≤(a4:Int):=zqo;have f8:a4<((rd_L3 l0 a2).length:Int):=zqo;obtain⟨s1,m9,p1⟩:=Kd.at_int h1.out a4 f7 f8
                           cases m9
                           replace f7:=eq_true f7;replace f8:=eq_true f8
                           go_wp2
                           go_roundg k5
                           (case measure=> exact zq273);case rel=>exact⟨(wrap64 (a4+1)),(by first|rfl|(simp;done)|(simp [*];done)),H',⟨zq273⟩,zq22⟩
                          ·rw [if_neg i3] at H;have r9:((rd (rd_L3 l0 a2) a4)==1)=false:=beq_eq_false_iff_ne.mpr i3;have s0:((rd (rd_L3 l0 a2) a4) !=1)=true:=bne_iff_ne.mpr i3;obtain rfl:=Option.some.inj H;have b4:0≤(a2:Int):=zqo;have b5:a2<(l0.length:Int):=zqo;obtain⟨d5,i4,i5,f3,d8,a7,a8⟩:=at_L3 c2.out a2 b4 b5
                           cases f3
                           have c1:=zqm a8;have g8:=zqm a7;clear a8 a7;replace b4:=eq_true b4;replace b5:=eq_true b5;have b6:0≤(a3:Int):=zqo;have b7:a3<((rd_L3 l0 a2).length:Int):=zqo;obtain⟨k6,f4,g9⟩:=Kd.at_int c1.out a3 b6 b7
                           cases f4
                           replace b6:=eq_true b6;replace b7:=eq_true b7;have d1:0≤(a3:Int):=zqo;have d2:a3<(l0.length:Int):=zqo;obtain⟨g3,k8,k9,i6,j8,b8,b9⟩:=at_L3 c2.out a3 d1 d2;obtain rfl:d5=g3:=(by injection i6);have d9:=zqm b9;have j9:=zqm b8;clear b9 b8;replace d1:=eq_true d1;replace d2:=eq_true d2;have d3:0≤(a4:Int):=zqo;have d4:a4<((rd_L3 l0 a3).length:Int):=zqo;obtain⟨o7,i7,k0⟩:=Kd.at_int d9.out a4 d3 d4
                           cases i7
                           replace d3:=eq_true d3;replace d4:=eq_true d4;have f5:0≤(a2:Int):=zqo;have f6:a2<(l0.length:Int):=zqo;obtain⟨k7,p8,p9,m8,h0,e0,e1⟩:=at_L3 c2.out a2 f5 f6;obtain rfl:d5=k7:=(by injection m8);have h1:=zqm e1;have p0:=zqm e0;clear e1 e0;replace f5:=eq_true f5;replace f6:=eq_true f6;have ea_:=Option.some.inj (d8.symm.trans h0);injection ea_ with ea_ en_ ec_;subst ea_;subst ec_;clear en_;have f7:0≤(a4:Int):=zqo;have f8:a4<((rd_L3 l0 a2).length:Int):=zqo;obtain⟨s1,m9,p1⟩:=Kd.at_int h1.out a4 f7 f8
                           cases m9
                           replace f7:=eq_true f7;replace f8:=eq_true f8
                           go_wp2
                           go_ret
                           exact⟨by first|rfl|(simp;done)|(simp [*];done),zq22⟩
                         ·rw [if_neg o6] at H;exact absurd H (by simp)
                        ·rw [if_neg i2] at H;have r7:((rd (rd_L3 l0 a3) a4)==1)=false:=beq_eq_false_iff_ne.mpr i2;have r8:((rd (rd_L3 l0 a3) a4) !=1)=true:=bne_iff_ne.mpr i2;have H':=zqm H;clear H;have b4:0≤(a2:Int):=zqo;have b5:a2<(l0.length:Int):=zqo;obtain⟨d5,i4,i5,f3,d8,a7,a8⟩:=at_L3 c2.out a2 b4 b5
                         cases f3
                         have c1:=zqm a8;have g8:=zqm a7;clear a8 a7;replace b4:=eq_true b4;replace b5:=eq_true b5;have b6:0≤(a3:Int):=zqo;have b7:a3<((rd_L3 l0 a2).length:Int):=zqo;obtain⟨k6,f4,g9⟩:=Kd.at_int c1.out a3 b6 b7
                         cases f4
                         replace b6:=eq_true b6;replace b7:=eq_true b7;have d1:0≤(a3:Int):=zqo;have d2:a3<(l0.length:Int):=zqo;obtain⟨g3,k8,k9,i6,j8,b8,b9⟩:=at_L3 c2.out a3 d1 d2;obtain rfl:d5=g3:=(by injection i6);have d9:=zqm b9;have j9:=zqm b8;clear b9 b8;replace d1:=eq_true d1;replace d2:=eq_true d2;have d3:0≤(a4:Int):=zqo;have d4:a4<((rd_L3 l0 a3).length:Int):=zqo;obtain⟨o7,i7,k0⟩:=Kd.at_int d9.out a4 d3 d4
                         cases i7
                         replace d3:=eq_true d3;replace d4:=eq_true d4
                         go_wp2
                         go_roundg k5
                         (case measure=> exact zq273);case rel=>exact⟨(wrap64 (a4+1)),(by first|rfl|(simp;done)|(simp [*];done)),H',⟨zq273⟩,zq22⟩
                       ·rw [if_neg o5] at H;exact absurd H (by simp)
                      ·rw [if_neg o4] at H;exact absurd H (by simp)
                     ·rw [if_neg o3] at H;exact absurd H (by simp)
                    ·rw [if_neg i1] at H;have r5:((rd (rd_L3 l0 a2) a3)==1)=false:=beq_eq_false_iff_ne.mpr i1;have r6:((rd (rd_L3 l0 a2) a3) !=1)=true:=bne_iff_ne.mpr i1;have H':=zqm H;clear H;have b4:0≤(a2:Int):=zqo;have b5:a2<(l0.length:Int):=zqo;obtain⟨d5,i4,i5,f3,d8,a7,a8⟩:=at_L3 c2.out a2 b4 b5
                     cases f3
                     have c1:=zqm a8;have g8:=zqm a7;clear a8 a7;replace b4:=eq_true b4;replace b5:=eq_true b5;have b6:0≤(a3:Int):=zqo;have b7:a3<((rd_L3 l0 a2).length:Int):=zqo;obtain⟨k6,f4,g9⟩:=Kd.at_int c1.out a3 b6 b7
                     cases f4
                     replace b6:=eq_true b6;replace b7:=eq_true b7
                     go_wp2
                     go_roundg k5
                     (case measure=> exact zq273);case rel=>exact⟨(wrap64 (a4+1)),(by first|rfl|(simp;done)|(simp [*];done)),H',⟨zq273⟩,zq22⟩
                   ·rw [if_neg o2] at H;exact absurd H (by simp)
                  ·rw [if_neg o1] at H;exact absurd H (by simp)
                 ·rw [if_neg o0] at H;exact absurd H (by simp)
                ·rw [if_neg n9] at H;exact absurd H (by simp)
               ·rw [if_neg j7] at H;have r4:decide (a4<(l0.length:Int))=false:=decide_eq_false j7;clear j7;have H':=zqm H;clear H
                go_wp2
                go_roundg k5
                (case measure=> exact zq273);case rel=>exact⟨(wrap64 (a3+1)),(by first|rfl|(simp;done)|(simp [*];done)),H',⟨zq273⟩,zq22⟩
            ·rw [if_neg j6] at H;have r3:decide (a3<(l0.length:Int))=false:=decide_eq_false j6;clear j6;have H':=zqm H;clear H
             go_wp2
             go_roundg k4
             (case measure=>have:=b1.out;have:=b2.out;have:=e8.out;have:=b3.out;omega);case rel=>exact⟨(wrap64 (a2+1)),(by first|rfl|(simp;done)|(simp [*];done)),H',⟨by have:=b1.out;have:=b2.out;have:=e8.out;have:=b3.out;omega⟩,zq22⟩
         ·rw [if_neg j5] at H;have r2:decide (a2<(l0.length:Int))=false:=decide_eq_false j5;clear j5;obtain rfl:=Option.some.inj H
          go_wp2
          go_ret
          exact⟨by first|rfl|(simp;done)|(simp [*];done),zq22⟩
end Go.Proofs.Ytdoomkcgdcfmlaa.Print
end
section
namespace Go.Proofs.Ytdoomkcgdcfmlaa.Print
open Go.RowKit Go.Proofs.YtdoomkcgdcfmlaaW.PrintWords Go.Proofs.YtdoomkcgdcfmlaaW.PrintLast Go.Proofs.YtdoomkcgdcfmlaaW.PrintMore
attribute [local go_sem] max2_int min2_int max_two min_two max_three min_three max_four min_four   -- for this text's walks alone
def laws_alive.f (k : Nat)  : Option (Bool) := (impl_OrderOk.f k (([(([1] : List Int))] : List (List Int)))).bind fun t172 => (if t172 = true then ((impl_OrderOk.f k (([(([0] : List Int))] : List (List Int)))).bind fun t179 => (some (!t179))) else (some false))
set_option maxHeartbeats 8000000 in
set_option maxRecDepth 100000 in
theorem laws_alive.calls (k : Nat)  (r : Bool) (w : World) (h : laws_alive.f k  = some r) :
  Calls Try.prog 18 #[] w fun e w' => e = .returned (.bool r) ∧ Below w.heap.size w w' := by
 have HB:=zqm (Below.refl w.heap.size w);have H:((impl_OrderOk.f k (([(([1]:List Int))]:List (List Int)))).bind fun a6=>(if a6=true then((impl_OrderOk.f k (([(([0]:List Int))]:List (List Int)))).bind fun a1=>(some (!a1))) else(some false)))=some r:=h;clear h;obtain⟨a4,a7⟩: ∃y_:List Int,y_=(([1]:List Int)):=⟨_,rfl⟩;(replace H:((impl_OrderOk.f k (([a4]:List (List Int)))).bind fun a6=>(if a6=true then((impl_OrderOk.f k (([(([0]:List Int))]:List (List Int)))).bind fun a1=>(some (!a1))) else(some false)))=some r:=by first|(rw [a7];with_reducible exact H)|(have a3:=(Option.bind_some _ _).symm.trans H;rw [a7];with_reducible exact a3)|(have a3:=(Option.bind_some _ _).symm.trans H;with_reducible exact a3)|with_reducible exact H|(rw [a7];exact H)|exact H);have b4:=zqm a7;clear a7;obtain⟨a5,a8⟩: ∃y_:List (List Int),y_=(([a4]:List (List Int))):=⟨_,rfl⟩;(replace H:((impl_OrderOk.f k a5).bind fun a6=>(if a6=true then((impl_OrderOk.f k (([(([0]:List Int))]:List (List Int)))).bind fun a1=>(some (!a1))) else(some false)))=some r:=by first|(rw [a8];with_reducible exact H)|(have a3:=(Option.bind_some _ _).symm.trans H;rw [a8];with_reducible exact a3)|(have a3:=(Option.bind_some _ _).symm.trans H;with_reducible exact a3)|with_reducible exact H|(rw [a8];exact H)|exact H);have b5:=zqm a8;clear a8;replace H:=Option.bind_eq_some_iff.mp H;obtain⟨a6,d2,H⟩:=H;replace H:(if a6=true then((impl_OrderOk.f k (([(([0]:List Int))]:List (List Int)))).bind fun a1=>(some (!a1))) else(some false))=some r:=H;have A1:=zqm d2;clear d2
 by_cases c2:a6=true
 ·subst c2;(have H1:((impl_OrderOk.f k (([(([0]:List Int))]:List (List Int)))).bind fun a1=>(some (!a1)))=some r:=by rw [if_pos rfl] at H;exact H);clear H;have H:=H1;clear H1;obtain⟨b1,a9⟩: ∃y_:List Int,y_=(([0]:List Int)):=⟨_,rfl⟩;(replace H:((impl_OrderOk.f k (([b1]:List (List Int)))).bind fun a1=>(some (!a1)))=some r:=by first|(rw [a9];with_reducible exact H)|(have a3:=(Option.bind_some _ _).symm.trans H;rw [a9];with_reducible exact a3)|(have a3:=(Option.bind_some _ _).symm.trans H;with_reducible exact a3)|with_reducible exact H|(rw [a9];exact H)|exact H);have c5:=zqm a9;clear a9;obtain⟨c7,b0⟩: ∃y_:List (List Int),y_=(([b1]:List (List Int))):=⟨_,rfl⟩;(replace H:((impl_OrderOk.f k c7).bind fun a1=>(some (!a1)))=some r:=by first|(rw [b0];with_reducible exact H)|(have a3:=(Option.bind_some _ _).symm.trans H;rw [b0];with_reducible exact a3)|(have a3:=(Option.bind_some _ _).symm.trans H;with_reducible exact a3)|with_reducible exact H|(rw [b0];exact H)|exact H);have c6:=zqm b0;clear b0;replace H:=Option.bind_eq_some_iff.mp H;obtain⟨a1,d3,H⟩:=H;replace H:(some (!a1))=some r:=H;have A3:=zqm d3;clear d3;obtain rfl:=Option.some.inj H
  go_enter Try.func18,Try.ntmps18
  go_wp2_with (first|((with_reducible refine gate_dst (N:=1) rfl ?_);(try(refine gate_guard (by rfl) ?_;dsimp only));refine Kd.R_lit (Kd.int .i64) _ 3 ?hg (N:=1) ?hd (xs:=([1]:List Int)) (inner:= [.int .i64 1]) (ok:=fun _=>True) (okp:=fun _=>True) ?hr ?hp (fun _ hk=>hk) trivial (Below.refl _ _) (Nat.le_refl _) (by simp) ?_;(case hd=>rfl);(case hg=>rfl);(case hr=>first|(go_simp;done)|(go_simp;rfl));(case hp=> exact zq401);intro d6 w4 c3 hb hg_ hnew_;clear hg_ hnew_;(first|rw [← b4.out] at c3|(simp only [Int.reduceToNat] at c3;rw [← b4.out] at c3));have a2:=zqm (Kd.R_lower c3 (below_size zq0));replace HB:=zqm (below_step zq0 hb);clear hb c3;obtain⟨d4,d5,e4⟩:=Kd.R_slice a2.out;subst e4)|((with_reducible refine gate_dst (N:=2) rfl ?_);(try(refine gate_guard (by rfl) ?_;dsimp only));refine Kd.N_lit (Kd.slice 3 (Kd.int .i64)) _ 28 ?hg (N':=2) ?hd (xs:=([a4]:List (List Int))) (inner:= [.slice d4 a4.length d5]) (ok:=(fun _=>True)) (okp:=(fun _=>True)) ?hr ?hp (fun _ hk=>hk) ((show∀k_,w4.heap.size≤k_→(fun _=>True) k_ from fun k_ hk=>trivial) _ (Nat.le_refl _)) (Below.refl _ _) (Nat.le_refl _) (by simp) ?_;(case hd=>rfl);(case hg=>rfl);(case hr=>first|(go_simp;done)|(go_simp;rfl));(case hp=>exact(Reps.one (show Kd.FK (Kd.slice 3 (Kd.int .i64)) _ _ a4 [.slice d4 a4.length d5] from (Kd.FK_slice_mk (Kd.R_reads' (Kd.R_mono (ok':=(fun _=>True)) (a2.out) (fun k_ hk=>trivial))).2.1 (Kd.R_F (Kd.R_mono (ok':=(fun _=>True)) (a2.out) (fun k_ hk=>trivial))))) (Reps.none _ _)));intro d7 w7 c4 hb hg_ hnew_;clear hg_ hnew_;(first|rw [← b5.out] at c4|(simp only [Int.reduceToNat] at c4;rw [← b5.out] at c4));have a0:=zqm (Kd.N_lower c4 (below_size zq0));replace HB:=zqm (below_step zq0 hb);clear a2;clear hb c4;obtain⟨b9,c0,e5⟩:=Kd.N_slice a0.out;subst e5)|((with_reducible refine gate_callee (f:=75) rfl ?_);refine goesL_ (some 3) rfl rfl Try.func75 zqk rfl #[.slice b9 a5.length c0] rfl zq1 ?_;(with_reducible refine(impl_OrderOk.calls k _ _ a5 true _ ?side1 ?side2 A1.out).mono ?_);(case side1=> exact zq349);(case side2=>exact(Kd.N_reads' a0.out).2.1);rintro e w' ⟨rfl,⟨nd,rfl⟩⟩;refine⟨_,rfl,?_⟩)|((with_reducible refine gate_dst (N:=5) rfl ?_);(try(refine gate_guard (by rfl) ?_;dsimp only));refine Kd.R_lit (Kd.int .i64) _ 3 ?hg (N:=5) ?hd (xs:=([0]:List Int)) (inner:= [.int .i64 0]) (ok:=fun _=>True) (okp:=fun _=>True) ?hr ?hp (fun _ hk=>hk) trivial (Below.refl _ _) (Nat.le_refl _) (by simp) ?_;(case hd=>rfl);(case hg=>rfl);(case hr=>first|(go_simp;done)|(go_simp;rfl));(case hp=>exact(Reps.one (show Kd.M (Kd.int .i64) _ _ _ 0 [.int .i64 0] from rfl) (Reps.none _ _)));intro e8 e6 b2 hb hg_ hnew_;clear hg_ hnew_;(first|rw [← c5.out] at b2|(simp only [Int.reduceToNat] at b2;rw [← c5.out] at b2));replace a0:=zqm (Kd.N_elder' zq364 (Kd.R_base b2) hb);have b6:=zqm (Kd.R_lower b2 (below_size zq0));replace HB:=zqm (below_step zq0 hb);clear hb b2;obtain⟨c8,c9,d8⟩:=Kd.R_slice b6.out;subst d8)|((with_reducible refine gate_dst (N:=6) rfl ?_);(try(refine gate_guard (by rfl) ?_;dsimp only));refine Kd.N_lit (Kd.slice 3 (Kd.int .i64)) _ 28 ?hg (N':=6) ?hd (xs:=([b1]:List (List Int))) (inner:= [.slice c8 b1.length c9]) (ok:=(fun k_=>some k_≠(.slice b9 a5.length c0:Value).ownBlock)) (okp:=(fun k_=>some k_≠(.slice b9 a5.length c0:Value).ownBlock)) ?hr ?hp (fun _ hk=>hk) ((show∀k_,e6.heap.size≤k_→(fun k_=>some k_≠(.slice b9 a5.length c0:Value).ownBlock) k_ from fun k_ hk=>Kd.fresh' (Kd.N_lt zq364) k_ hk) _ (Nat.le_refl _)) (Below.refl _ _) (Nat.le_refl _) (by simp) ?_;(case hd=>rfl);(case hg=>rfl);(case hr=>first|(go_simp;done)|(go_simp;rfl));(case hp=>exact(Reps.one (show Kd.FK (Kd.slice 3 (Kd.int .i64)) _ _ b1 [.slice c8 b1.length c9] from (Kd.FK_slice_mk (Kd.R_reads' (Kd.R_mono (ok':=(fun k_=>some k_≠(.slice b9 a5.length c0:Value).ownBlock)) (Kd.R_apart' (b6.out) (Kd.N_typed a0.out) (by decide)) (fun k_ hk=>hk.2))).2.1 (Kd.R_F (Kd.R_mono (ok':=(fun k_=>some k_≠(.slice b9 a5.length c0:Value).ownBlock)) (Kd.R_apart' (b6.out) (Kd.N_typed a0.out) (by decide)) (fun k_ hk=>hk.2))))) (Reps.none _ _)));intro e9 f2 b3 hb hg_ hnew_;clear hg_ hnew_;(first|rw [← c6.out] at b3|(simp only [Int.reduceToNat] at b3;rw [← c6.out] at b3));replace a0:=zqm (Kd.N_elder' zq364 (Kd.N_base b3) hb);have c1:=zqm (Kd.N_lower b3 (below_size zq0));replace HB:=zqm (below_step zq0 hb);clear b6;clear hb b3;obtain⟨f0,f1,d9⟩:=Kd.N_slice c1.out;subst d9)|(go_at_call 75;(with_reducible refine(impl_OrderOk.calls k _ _ c7 a1 _ ?side1 ?side2 A3.out).mono ?_);(case side1=>repeat(first|exact(Kd.N_reads' c1.out).2.2|(with_reducible refine Kd.C_alloc ?_ _)|(with_reducible refine Kd.C_drewN ?_ _)|(with_reducible refine Kd.C_drew ?_)));(case side2=>exact(Kd.N_reads' c1.out).2.1);rintro e w' ⟨rfl,⟨nd,rfl⟩⟩))
  go_ret
  exact⟨zq11,zq0⟩
 ·replace c2:=Bool.eq_false_iff.mpr c2;subst c2;(have H1:(some false)=some r:=by rw [if_neg (show¬(false=true) by decide)] at H;exact H);clear H;have H:=H1;clear H1;obtain rfl:=Option.some.inj H
  go_enter Try.func18,Try.ntmps18
  go_wp2_with (first|((with_reducible refine gate_dst (N:=1) rfl ?_);(try(refine gate_guard (by rfl) ?_;dsimp only));refine Kd.R_lit (Kd.int .i64) _ 3 ?hg (N:=1) ?hd (xs:=([1]:List Int)) (inner:= [.int .i64 1]) (ok:=fun _=>True) (okp:=fun _=>True) ?hr ?hp (fun _ hk=>hk) trivial (Below.refl _ _) (Nat.le_refl _) (by simp) ?_;(case hd=>rfl);(case hg=>rfl);(case hr=>first|(go_simp;done)|(go_simp;rfl));(case hp=> exact zq401);intro d6 e7 b7 hb hg_ hnew_;clear hg_ hnew_;(first|rw [← b4.out] at b7|(simp only [Int.reduceToNat] at b7;rw [← b4.out] at b7));have a2:=zqm (Kd.R_lower b7 (below_size zq0));replace HB:=zqm (below_step zq0 hb);clear hb b7;obtain⟨d0,d1,e0⟩:=Kd.R_slice a2.out;subst e0)|((with_reducible refine gate_dst (N:=2) rfl ?_);(try(refine gate_guard (by rfl) ?_;dsimp only));refine Kd.N_lit (Kd.slice 3 (Kd.int .i64)) _ 28 ?hg (N':=2) ?hd (xs:=([a4]:List (List Int))) (inner:= [.slice d0 a4.length d1]) (ok:=(fun _=>True)) (okp:=(fun _=>True)) ?hr ?hp (fun _ hk=>hk) ((show∀k_,e7.heap.size≤k_→(fun _=>True) k_ from fun k_ hk=>trivial) _ (Nat.le_refl _)) (Below.refl _ _) (Nat.le_refl _) (by simp) ?_;(case hd=>rfl);(case hg=>rfl);(case hr=>first|(go_simp;done)|(go_simp;rfl));(case hp=>exact(Reps.one (show Kd.FK (Kd.slice 3 (Kd.int .i64)) _ _ a4 [.slice d0 a4.length d1] from (Kd.FK_slice_mk (Kd.R_reads' (Kd.R_mono (ok':=(fun _=>True)) (a2.out) (fun k_ hk=>trivial))).2.1 (Kd.R_F (Kd.R_mono (ok':=(fun _=>True)) (a2.out) (fun k_ hk=>trivial))))) (Reps.none _ _)));intro d7 f3 b8 hb hg_ hnew_;clear hg_ hnew_;(first|rw [← b5.out] at b8|(simp only [Int.reduceToNat] at b8;rw [← b5.out] at b8));have a0:=zqm (Kd.N_lower b8 (below_size zq0));replace HB:=zqm (below_step zq0 hb);clear a2;clear hb b8;obtain⟨e1,e2,e3⟩:=Kd.N_slice a0.out;subst e3)|((with_reducible refine gate_callee (f:=75) rfl ?_);refine goesL_ (some 3) rfl rfl Try.func75 zqk rfl #[.slice e1 a5.length e2] rfl zq1 ?_;(with_reducible refine(impl_OrderOk.calls k _ _ a5 false _ ?side1 ?side2 A1.out).mono ?_);(case side1=> exact zq349);(case side2=>exact(Kd.N_reads' a0.out).2.1);rintro e w' ⟨rfl,⟨nd,rfl⟩⟩;refine⟨_,rfl,?_⟩))
  go_ret
  exact⟨zq11,zq0⟩
def IsS87 (w0 W : World) (g : Nat) (f0 : List Int) (f1 : Int) : Prop := ∃ A0 c0, W.heap[g]? = some (.cells #[.slice A0 f0.length c0, .int .i64 f1] 87 (0, 0)) ∧ w0.heap.size ≤ g ∧ Kd.C (Kd.int .u8) w0 A0 f0.length f0
theorem IsS87.grown {w0 W : World} {g : Nat} {f0 : List Int} {f1 : Int} {W1 : World} {row : Option Nat} (h : IsS87 w0 W g f0 f1) (hw : W.grownBy W1 row) (hne : some g ≠ row) : IsS87 w0 W1 g f0 f1 := by
 obtain ⟨A0, c0, hb, hg, hr0⟩ := h
 exact ⟨A0, c0, blk_grown hb hw hne, hg, hr0⟩
theorem IsS87.kept {w0 W : World} {g : Nat} {f0 : List Int} {f1 : Int} {W1 : World} {S : Nat → Prop} (h : IsS87 w0 W g f0 f1) (hk : Kept W W1 S) (hne : ¬ S g) : IsS87 w0 W1 g f0 f1 := by
 obtain ⟨A0, c0, hb, hg, hr0⟩ := h
 exact ⟨A0, c0, blk_kept hb hk hne, hg, hr0⟩
theorem IsS87.below {w0 W : World} {g : Nat} {f0 : List Int} {f1 : Int} {W1 : World} (h : IsS87 w0 W g f0 f1) (hw : Below W.heap.size W W1) : IsS87 w0 W1 g f0 f1 := h.grown (grown_of_below hw none) (by simp)
theorem IsS87.alloc {w0 W : World} {g : Nat} {f0 : List Int} {f1 : Int} (h : IsS87 w0 W g f0 f1) (o : Obj) : IsS87 w0 (W.alloc o) g f0 f1 := h.below (below_alloc (Below.refl _ _) o)
theorem IsS87.drewN {w0 W : World} {g : Nat} {f0 : List Int} {f1 : Int} (h : IsS87 w0 W g f0 f1) (m : Nat) : IsS87 w0 (W.drewN m) g f0 f1 := h
theorem IsS87.drew {w0 W : World} {g : Nat} {f0 : List Int} {f1 : Int} (h : IsS87 w0 W g f0 f1) : IsS87 w0 W.drew g f0 f1 := h
theorem IsS87.apart {w0 W : World} {g : Nat} {f0 : List Int} {f1 : Int} {α : Type} {d : Kd α} {e : Nat} {base : Nat} {ok : Nat → Prop} {v : Value} {xs : List α} (h : IsS87 w0 W g f0 f1) (ho : d.R e W base ok v xs) (ht : ∀ q, q ∈ e :: d.E → q ≠ 87) : d.R e W base (fun k => ok k ∧ k ≠ g) v xs := by
 obtain ⟨A0, c0, hb, hg, hr0⟩ := h
 exact Kd.R_types ho hb ht
theorem IsS87.own_ne {w0 W : World} {g : Nat} {f0 : List Int} {f1 : Int} {α : Type} {d : Kd α} {e : Nat} {base : Nat} {ok : Nat → Prop} {v : Value} {xs : List α} (h : IsS87 w0 W g f0 f1) (ho : d.R e W base ok v xs) (ht : e ≠ 87) : some g ≠ v.ownBlock := by
 obtain ⟨A0, c0, hb, hg, hr0⟩ := h
 exact Kd.R_ne ho hb ht
theorem IsS87.apartQ {w0 W : World} {g : Nat} {f0 : List Int} {f1 : Int} {α : Type} {d : Kd α} {e : Nat} {base : Nat} {ok : Nat → Prop} {v : Value} {xs : List α} (h : IsS87 w0 W g f0 f1) (ho : d.Q e W base ok v xs) (ht : ∀ q, q ∈ e :: d.E → q ≠ 87) : d.Q e W base (fun k => ok k ∧ k ≠ g) v xs := by
 obtain ⟨A0, c0, hb, hg, hr0⟩ := h
 exact Kd.Q_types ho hb ht
theorem IsS87.own_neQ {w0 W : World} {g : Nat} {f0 : List Int} {f1 : Int} {α : Type} {d : Kd α} {e : Nat} {base : Nat} {ok : Nat → Prop} {v : Value} {xs : List α} (h : IsS87 w0 W g f0 f1) (ho : d.Q e W base ok v xs) (ht : e ≠ 87) : some g ≠ v.ownBlock := by
 obtain ⟨A0, c0, hb, hg, hr0⟩ := h
 exact Kd.Q_ne ho hb ht
theorem IsS87.apartS {w0 W : World} {g : Nat} {f0 : List Int} {f1 : Int} {α : Type} {d : Kd α} {e : Nat} {base : Nat} {ok : Nat → Prop} {v : Value} {xs : List α} (h : IsS87 w0 W g f0 f1) (ho : d.S e W base ok v xs) (ht : ∀ q, q ∈ e :: d.E → q ≠ 87) : d.S e W base (fun k => ok k ∧ k ≠ g) v xs := by
 obtain ⟨A0, c0, hb, hg, hr0⟩ := h
 exact Kd.S_types ho hb ht
theorem IsS87.lt {w0 W : World} {g : Nat} {f0 : List Int} {f1 : Int} (h : IsS87 w0 W g f0 f1) : g < W.heap.size := by
 obtain ⟨A0, c0, hb, hg, hr0⟩ := h
 exact blk_lt hb
theorem IsS87.ge {w0 W : World} {g : Nat} {f0 : List Int} {f1 : Int} (h : IsS87 w0 W g f0 f1) : w0.heap.size ≤ g := by
 obtain ⟨A0, c0, hb, hg, hr0⟩ := h
 exact hg
theorem IsS87.ne_blk {w0 W : World} {g : Nat} {f0 : List Int} {f1 : Int} {a : Nat} {cs : Array Value} {t : TypeId} {fr : Nat × Nat} (h : IsS87 w0 W g f0 f1) (hb2 : W.heap[a]? = some (.cells cs t fr)) (ht : t ≠ 87) : g ≠ a := by
 obtain ⟨A0, c0, hb, hg, hr0⟩ := h
 rintro rfl
 rw [hb] at hb2
 injection hb2 with hb2
 injection hb2 with _ ht2
 exact ht ht2.symm
theorem IsS87.far {w0 W : World} {g : Nat} {f0 : List Int} {f1 : Int} {p : Addr} (h : IsS87 w0 W g f0 f1) (hne : g ≠ p.block) (u : Value) : IsS87 w0 (W.setCell p u) g f0 f1 := by
 obtain ⟨A0, c0, hb, hg, hr0⟩ := h
 exact ⟨A0, c0, blk_far hb hne u, hg, hr0⟩
theorem cellS87_0 {W : World} {g : Nat} {A0 : Option Addr} {c0 : Nat} {f0 : List Int} {f1 : Int} (h : W.heap[g]? = some (.cells #[.slice A0 f0.length c0, .int .i64 f1] 87 (0, 0))) : W.cell? ⟨g, 0, none⟩ = some (.slice A0 f0.length c0) := (blk_cell h 0).trans rfl
theorem cellS87_1 {W : World} {g : Nat} {A0 : Option Addr} {c0 : Nat} {f0 : List Int} {f1 : Int} (h : W.heap[g]? = some (.cells #[.slice A0 f0.length c0, .int .i64 f1] 87 (0, 0))) : W.cell? ⟨g, 1, none⟩ = some (.int .i64 f1) := (blk_cell h 1).trans rfl
theorem IsS87.set_1 {w0 W : World} {g : Nat} {f0 : List Int} {f1 : Int} (h : IsS87 w0 W g f0 f1) (x : Int) : IsS87 w0 (W.setCell ⟨g, 1, none⟩ (.int .i64 x)) g f0 x := by
 obtain ⟨A0, c0, hb, hg, hr0⟩ := h
 exact ⟨A0, c0, by simpa using blk_set hb 1 (.int .i64 x), hg, hr0⟩
def spec_l20Rd_pick.j0 : Nat → Int → Bool → List Int → Int → Option (Int × Int)
 | 0, _, _, _, _ => none
 | k + 1, x1, x24, x1000, x1001 => if x24 = true then (some (0, x1001)) else (if (wrap64 (x1001 - 1)) < (x1000.length : Int) then (if 0 ≤ (wrap64 (x1001 - 1)) then (if x1 = 0 then (none) else (some (Int.tmod (wrap64 (rd x1000 (wrap64 (x1001 - 1)))) x1, x1001))) else (none)) else (if (x1000.length : Int) = 0 then (none) else (if 0 ≤ (Int.tmod (wrap64 (x1001 - 1)) (x1000.length : Int)) then (if (Int.tmod (wrap64 (x1001 - 1)) (x1000.length : Int)) < (x1000.length : Int) then (if 0 ≤ (Int.tmod (wrap64 ((wrap64 ((wrap64 (x1001 - 1)) * 7)) + 3)) (x1000.length : Int)) then (if (Int.tmod (wrap64 ((wrap64 ((wrap64 (x1001 - 1)) * 7)) + 3)) (x1000.length : Int)) < (x1000.length : Int) then (if x1 = 0 then (none) else (some (Int.tmod (Go.bits .xor .i64 (wrap64 ((wrap64 ((wrap64 ((wrap64 ((wrap64 (rd x1000 (Int.tmod (wrap64 (x1001 - 1)) (x1000.length : Int)))) * 131)) + (wrap64 ((wrap64 (rd x1000 (Int.tmod (wrap64 ((wrap64 ((wrap64 (x1001 - 1)) * 7)) + 3)) (x1000.length : Int)))) * 1117)))) + (wrap64 ((wrap64 (x1001 - 1)) * 29)))) + (wrap64 ((wrap64 (Int.tdiv (wrap64 (x1001 - 1)) (x1000.length : Int))) * 53)))) (wrap64 (Int.tdiv (wrap64 ((wrap64 ((wrap64 ((wrap64 ((wrap64 (rd x1000 (Int.tmod (wrap64 (x1001 - 1)) (x1000.length : Int)))) * 131)) + (wrap64 ((wrap64 (rd x1000 (Int.tmod (wrap64 ((wrap64 ((wrap64 (x1001 - 1)) * 7)) + 3)) (x1000.length : Int)))) * 1117)))) + (wrap64 ((wrap64 (x1001 - 1)) * 29)))) + (wrap64 ((wrap64 (Int.tdiv (wrap64 (x1001 - 1)) (x1000.length : Int))) * 53)))) 64))) x1, x1001))) else (none)) else (none)) else (none)) else (none))))
def spec_l20Rd_pick.f (k : Nat) (s0_0 : List Int) (s0_1 : Int) (a1 : Int) : Option (Int × Int) := if a1 < 1 then (spec_l20Rd_pick.j0 k a1 true s0_0 (wrap64 (s0_1 + 1))) else (spec_l20Rd_pick.j0 k a1 ((s0_0.length : Int) == 0) s0_0 (wrap64 (s0_1 + 1)))
set_option maxHeartbeats 8000000 in
set_option maxRecDepth 100000 in
theorem spec_l20Rd_pick.calls (k : Nat) (g : Nat) (s0_0 : List Int) (s0_1 : Int) (a1 : Int) (r1 : Int) (r2 : Int) (w0 w : World) (hI : IsS87 w0 w g s0_0 s0_1) (hB : Below w0.heap.size w0 w) (h : spec_l20Rd_pick.f k s0_0 s0_1 a1 = some (r1, r2)) :
  Calls Try.prog 103 #[.pointer (some ⟨g, 0, none⟩), .int .i64 a1] w fun e w' => e = .returned (.int .i64 r1) ∧ IsS87 w0 w' g s0_0 r2 ∧ Below w0.heap.size w0 w' ∧ KeepBut w w' g none := by
 have a0:=zqm hI;have HK:=zqm (KeepBut.refl w g none);have HL:=zqm hB.size;clear hI;have g4:=zqm hB.size;have HB:=zqm hB;clear hB;have H:(if a1<1 then(spec_l20Rd_pick.j0 k a1 true s0_0 (wrap64 (s0_1+1))) else(spec_l20Rd_pick.j0 k a1 ((s0_0.length:Int)==0) s0_0 (wrap64 (s0_1+1))))=some (r1,r2):=h;clear h;have d0:=zqm H;clear H;obtain⟨ASz4_0,cSz4_0,HGz4,hgz4,HSz4_0⟩:=a0.out;have e3:=cellS87_0 HGz4;have e4:=cellS87_1 HGz4;have e5:=blk_frozen HGz4 1;clear HGz4 hgz4
 go_enter Try.func103,Try.ntmps103
 go_upto_region 2 with (fail)
 repeat(go_quiet (fail);go_upto_region 2 with (fail))
 go_cut [24] (fun e6 wc=> ∃(kq:Nat) (a5:Bool),e6= .bool a5∧Aside0 (spec_l20Rd_pick.j0 kq a1 a5 s0_0 (wrap64 (s0_1+1))=some (r1,r2))∧Aside0 (kq≤k)∧Aside0 (IsS87 w0 wc g s0_0 (wrap64 (s0_1+1)))∧Aside0 (KeepBut w wc g none)∧Aside0 (Below w0.heap.size w0 wc))
 case first=>
  have H:=d0.out;clear d0
  by_cases c5:a1<1
  ·rw [if_pos c5] at H;have a6:decide (a1<1)=true:=decide_eq_true c5;clear c5;(first|rw [a6]|(simp only [i64_w,i32_w];rw [a6])|skip);have H':=zqm H;clear H
   go_wp2
   repeat(go_quiet (fail);try go_wp2)
   go_meet
   case rel=>exact⟨_,(true),(by first|rfl|(simp;done)|(simp [*];done)),H',⟨by first|omega|exact Nat.le_refl _⟩,⟨zq159⟩,⟨zq50⟩,⟨zq134⟩⟩
  ·rw [if_neg c5] at H;have a6:decide (a1<1)=false:=decide_eq_false c5;clear c5;(first|rw [a6]|(simp only [i64_w,i32_w];rw [a6])|skip);have H':=zqm H;clear H;obtain⟨ASz6_0,cSz6_0,HGz6,hgz6,HSz6_0⟩:=a0.out;have e7:=cellS87_0 HGz6;have e8:=cellS87_1 HGz6;have e9:=blk_frozen HGz6 1;clear HGz6 hgz6
   go_wp2
   repeat(go_quiet (fail);try go_wp2)
   go_meet
   case rel=>exact⟨_,(((s0_0.length:Int)==0)),(by first|rfl|(simp;done)|(simp [*];done)),H',⟨by first|omega|exact Nat.le_refl _⟩,⟨zq159⟩,⟨zq50⟩,⟨zq134⟩⟩
 case rest=>
  clear d0;obtain⟨kq,a5,rfl,HA,g5,a0,HK,HB⟩:=hcut
  cases kq with
  |zero=>exact absurd HA.out (by simp [spec_l20Rd_pick.j0])
  |succ g6=>
   have H:=HA.out;clear HA;simp only [spec_l20Rd_pick.j0] at H
   by_cases c7:a5=true
   ·subst c7;(have H1:(some (0,(wrap64 (s0_1+1))))=some (r1,r2):=by rw [if_pos rfl] at H;exact H);clear H;have H:=H1;clear H1;simp only [Option.some.injEq,Prod.mk.injEq] at H;obtain⟨rfl,rfl⟩:=H
    go_wp2
    repeat(go_quiet (fail);try go_wp2)
    go_ret
    exact⟨zq11,zq159,zq134,zq50⟩
   ·replace c7:=Bool.eq_false_iff.mpr c7;subst c7;(have H1:(if(wrap64 ((wrap64 (s0_1+1)) - 1))<(s0_0.length:Int) then(if 0≤(wrap64 ((wrap64 (s0_1+1)) - 1)) then(if a1=0 then(none) else(some (Int.tmod (wrap64 (rd s0_0 (wrap64 ((wrap64 (s0_1+1)) - 1)))) a1,(wrap64 (s0_1+1))))) else(none)) else(if(s0_0.length:Int)=0 then(none) else(if 0≤(Int.tmod (wrap64 ((wrap64 (s0_1+1)) - 1)) (s0_0.length:Int)) then(if(Int.tmod (wrap64 ((wrap64 (s0_1+1)) - 1)) (s0_0.length:Int))<(s0_0.length:Int) then(if 0≤(Int.tmod (wrap64 ((wrap64 ((wrap64 ((wrap64 (s0_1+1)) - 1))*7))+3)) (s0_0.length:Int)) then(if(Int.tmod (wrap64 ((wrap64 ((wrap64 ((wrap64 (s0_1+1)) - 1))*7))+3)) (s0_0.length:Int))<(s0_0.length:Int) then(if a1=0 then(none) else(some (Int.tmod (Go.bits .xor .i64 (wrap64 ((wrap64 ((wrap64 ((wrap64 ((wrap64 (rd s0_0 (Int.tmod (wrap64 ((wrap64 (s0_1+1)) - 1)) (s0_0.length:Int))))*131))+(wrap64 ((wrap64 (rd s0_0 (Int.tmod (wrap64 ((wrap64 ((wrap64 ((wrap64 (s0_1+1)) - 1))*7))+3)) (s0_0.length:Int))))*1117))))+(wrap64 ((wrap64 ((wrap64 (s0_1+1)) - 1))*29))))+(wrap64 ((wrap64 (Int.tdiv (wrap64 ((wrap64 (s0_1+1)) - 1)) (s0_0.length:Int)))*53)))) (wrap64 (Int.tdiv (wrap64 ((wrap64 ((wrap64 ((wrap64 ((wrap64 (rd s0_0 (Int.tmod (wrap64 ((wrap64 (s0_1+1)) - 1)) (s0_0.length:Int))))*131))+(wrap64 ((wrap64 (rd s0_0 (Int.tmod (wrap64 ((wrap64 ((wrap64 ((wrap64 (s0_1+1)) - 1))*7))+3)) (s0_0.length:Int))))*1117))))+(wrap64 ((wrap64 ((wrap64 (s0_1+1)) - 1))*29))))+(wrap64 ((wrap64 (Int.tdiv (wrap64 ((wrap64 (s0_1+1)) - 1)) (s0_0.length:Int)))*53)))) 64))) a1,(wrap64 (s0_1+1))))) else(none)) else(none)) else(none)) else(none))))=some (r1,r2):=by rw [if_neg (show¬(false=true) by decide)] at H;exact H);clear H;have H:=H1;clear H1
    by_cases c8:(wrap64 ((wrap64 (s0_1+1)) - 1))<(s0_0.length:Int)
    ·rw [if_pos c8] at H;have d1:decide ((wrap64 ((wrap64 (s0_1+1)) - 1))<(s0_0.length:Int))=true:=decide_eq_true c8;clear c8;obtain⟨a4,a7⟩: ∃j_:Int,(wrap64 ((wrap64 (s0_1+1)) - 1))=j_:=⟨_,rfl⟩;(replace H:(if 0≤(a4) then(if a1=0 then(none) else(some (Int.tmod (wrap64 (rd s0_0 (a4))) a1,(wrap64 (s0_1+1))))) else(none))=some (r1,r2):=by first|(rw [a7] at H;exact H)|(simp only [a7] at H ⊢;exact H));(try rw [a7] at d1);have f0:(IntKind.i64.wrap ((wrap64 (s0_1+1)) - 1))=a4:=(i64_w _).trans a7
     by_cases c0:0≤(a4)
     ·rw [if_pos c0] at H;have f1:decide (0≤(a4))=true:=decide_eq_true c0;clear c0
      by_cases c1:a1=0
      ·rw [if_pos c1] at H;exact absurd H (by simp)
      ·rw [if_neg c1] at H;have f2:(a1==0)=false:=beq_eq_false_iff_ne.mpr c1;have f3:(a1 !=0)=true:=bne_iff_ne.mpr c1;simp only [Option.some.injEq,Prod.mk.injEq] at H;obtain⟨rfl,rfl⟩:=H;obtain⟨ASz12_0,cSz12_0,HGz12,hgz12,HSz12_0⟩:=a0.out;have d7:=cellS87_0 HGz12;have d8:=cellS87_1 HGz12;have d9:=blk_frozen HGz12 1;clear HGz12 hgz12;have b4:0≤((a4):Int):=zqo;have b5:(a4)<(s0_0.length:Int):=zqo;obtain⟨f4,d4,a8⟩:=Kd.at_int HSz12_0 (a4) b4 b5
       cases d4
       replace a8:=pw_cell_below HB.out a8;replace b4:=eq_true b4;replace b5:=eq_true b5
       go_wp2
       repeat(go_quiet (fail);try go_wp2)
       go_ret
       exact⟨by first|rfl|(simp [errW_none,errW_some] <;> rfl)|(simp only [← a7];first|rfl|(simp [errW_none,errW_some] <;> rfl))|(simp [*,errW_none,errW_some] <;> rfl),zq159,zq134,zq50⟩
     ·rw [if_neg c0] at H;exact absurd H (by simp)
    ·rw [if_neg c8] at H;have d1:decide ((wrap64 ((wrap64 (s0_1+1)) - 1))<(s0_0.length:Int))=false:=decide_eq_false c8;clear c8
     by_cases b3:(s0_0.length:Int)=0
     ·rw [if_pos b3] at H;exact absurd H (by simp)
     ·rw [if_neg b3] at H;have f5:((s0_0.length:Int)==0)=false:=beq_eq_false_iff_ne.mpr b3;have f6:((s0_0.length:Int) !=0)=true:=bne_iff_ne.mpr b3;have f7: ¬(s0_0= []):=fun h_=>b3 (by rw [h_];rfl);obtain⟨a2,b1⟩: ∃j_:Int,(Int.tmod (wrap64 ((wrap64 (s0_1+1)) - 1)) (s0_0.length:Int))=j_:=⟨_,rfl⟩;replace H:(if 0≤(a2) then(if(a2)<(s0_0.length:Int) then(if 0≤(Int.tmod (wrap64 ((wrap64 ((wrap64 ((wrap64 (s0_1+1)) - 1))*7))+3)) (s0_0.length:Int)) then(if(Int.tmod (wrap64 ((wrap64 ((wrap64 ((wrap64 (s0_1+1)) - 1))*7))+3)) (s0_0.length:Int))<(s0_0.length:Int) then(if a1=0 then(none) else(some (Int.tmod (Go.bits .xor .i64 (wrap64 ((wrap64 ((wrap64 ((wrap64 ((wrap64 (rd s0_0 (a2)))*131))+(wrap64 ((wrap64 (rd s0_0 (Int.tmod (wrap64 ((wrap64 ((wrap64 ((wrap64 (s0_1+1)) - 1))*7))+3)) (s0_0.length:Int))))*1117))))+(wrap64 ((wrap64 ((wrap64 (s0_1+1)) - 1))*29))))+(wrap64 ((wrap64 (Int.tdiv (wrap64 ((wrap64 (s0_1+1)) - 1)) (s0_0.length:Int)))*53)))) (wrap64 (Int.tdiv (wrap64 ((wrap64 ((wrap64 ((wrap64 ((wrap64 (rd s0_0 (a2)))*131))+(wrap64 ((wrap64 (rd s0_0 (Int.tmod (wrap64 ((wrap64 ((wrap64 ((wrap64 (s0_1+1)) - 1))*7))+3)) (s0_0.length:Int))))*1117))))+(wrap64 ((wrap64 ((wrap64 (s0_1+1)) - 1))*29))))+(wrap64 ((wrap64 (Int.tdiv (wrap64 ((wrap64 (s0_1+1)) - 1)) (s0_0.length:Int)))*53)))) 64))) a1,(wrap64 (s0_1+1))))) else(none)) else(none)) else(none)) else(none))=some (r1,r2):=by first|(rw [b1] at H;exact H)|(simp only [b1] at H ⊢;exact H)
      by_cases c2:0≤(a2)
      ·rw [if_pos c2] at H;have f8:decide (0≤(a2))=true:=decide_eq_true c2;clear c2
       by_cases c3:(a2)<(s0_0.length:Int)
       ·rw [if_pos c3] at H;have f9:decide ((a2)<(s0_0.length:Int))=true:=decide_eq_true c3;clear c3;obtain⟨a3,b2⟩: ∃j_:Int,(Int.tmod (wrap64 ((wrap64 ((wrap64 ((wrap64 (s0_1+1)) - 1))*7))+3)) (s0_0.length:Int))=j_:=⟨_,rfl⟩;replace H:(if 0≤(a3) then(if(a3)<(s0_0.length:Int) then(if a1=0 then(none) else(some (Int.tmod (Go.bits .xor .i64 (wrap64 ((wrap64 ((wrap64 ((wrap64 ((wrap64 (rd s0_0 (a2)))*131))+(wrap64 ((wrap64 (rd s0_0 (a3)))*1117))))+(wrap64 ((wrap64 ((wrap64 (s0_1+1)) - 1))*29))))+(wrap64 ((wrap64 (Int.tdiv (wrap64 ((wrap64 (s0_1+1)) - 1)) (s0_0.length:Int)))*53)))) (wrap64 (Int.tdiv (wrap64 ((wrap64 ((wrap64 ((wrap64 ((wrap64 (rd s0_0 (a2)))*131))+(wrap64 ((wrap64 (rd s0_0 (a3)))*1117))))+(wrap64 ((wrap64 ((wrap64 (s0_1+1)) - 1))*29))))+(wrap64 ((wrap64 (Int.tdiv (wrap64 ((wrap64 (s0_1+1)) - 1)) (s0_0.length:Int)))*53)))) 64))) a1,(wrap64 (s0_1+1))))) else(none)) else(none))=some (r1,r2):=by first|(rw [b2] at H;exact H)|(simp only [b2] at H ⊢;exact H)
        by_cases c4:0≤(a3)
        ·rw [if_pos c4] at H;have g0:decide (0≤(a3))=true:=decide_eq_true c4;clear c4
         by_cases c6:(a3)<(s0_0.length:Int)
         ·rw [if_pos c6] at H;have g1:decide ((a3)<(s0_0.length:Int))=true:=decide_eq_true c6;clear c6
          by_cases c9:a1=0
          ·rw [if_pos c9] at H;exact absurd H (by simp)
          ·rw [if_neg c9] at H;have g2:(a1==0)=false:=beq_eq_false_iff_ne.mpr c9;have g3:(a1 !=0)=true:=bne_iff_ne.mpr c9;simp only [Option.some.injEq,Prod.mk.injEq] at H;obtain⟨rfl,rfl⟩:=H;obtain⟨ASz21_0,cSz21_0,HGz21,hgz21,HSz21_0⟩:=a0.out;have e0:=cellS87_0 HGz21;have e1:=cellS87_1 HGz21;have e2:=blk_frozen HGz21 1;clear HGz21 hgz21;have b6:0≤((a2):Int):=zqo;have b7:(a2)<(s0_0.length:Int):=zqo;obtain⟨d2,d5,a9⟩:=Kd.at_int HSz21_0 (a2) b6 b7
           cases d5
           replace a9:=pw_cell_below HB.out a9;replace b6:=eq_true b6;replace b7:=eq_true b7;have b8:0≤((a3):Int):=zqo;have b9:(a3)<(s0_0.length:Int):=zqo;obtain⟨d3,d6,b0⟩:=Kd.at_int HSz21_0 (a3) b8 b9;obtain rfl:d2=d3:=(by injection d6);replace b0:=pw_cell_below HB.out b0;replace b8:=eq_true b8;replace b9:=eq_true b9
           go_wp2
           repeat(go_quiet (fail);try go_wp2)
           go_ret
           exact⟨by first|rfl|(simp [errW_none,errW_some] <;> rfl)|(simp only [← b1,← b2];first|rfl|(simp [errW_none,errW_some] <;> rfl))|(simp [*,errW_none,errW_some] <;> rfl),zq159,zq134,zq50⟩
         ·rw [if_neg c6] at H;exact absurd H (by simp)
        ·rw [if_neg c4] at H;exact absurd H (by simp)
       ·rw [if_neg c3] at H;exact absurd H (by simp)
      ·rw [if_neg c2] at H;exact absurd H (by simp)
end Go.Proofs.Ytdoomkcgdcfmlaa.Print
end
section
namespace Go.Proofs.Ytdoomkcgdcfmlaa.Print
open Go.RowKit Go.Proofs.YtdoomkcgdcfmlaaW.PrintWords Go.Proofs.YtdoomkcgdcfmlaaW.PrintLast Go.Proofs.YtdoomkcgdcfmlaaW.PrintMore
attribute [local go_sem] max2_int min2_int max_two min_two max_three min_three max_four min_four   -- for this text's walks alone
mutual
def spec_l20Sets.l0 : Nat → Int → List (List Int) → Int → Option ((List (List Int)))
 | 0, _, _, _ => none
 | k + 1, x0, x3, x4 => if 0 ≤ x0 then (if x4 < (shl .i64 1 x0) then (spec_l20Sets.l1 k x0 x3 x4 (([] : List Int)) 0) else (some x3)) else (none)
def spec_l20Sets.l1 : Nat → Int → List (List Int) → Int → List Int → Int → Option ((List (List Int)))
 | 0, _, _, _, _, _ => none
 | k + 1, x0, x3, x4, x5, x6 => if 0 ≤ x0 then (if x6 < (shl .i64 1 x0) then (if (Go.bits .and .i64 x4 x6) = x4 then (if x5.length < 17592186044416 then (spec_l20Sets.l1 k x0 x3 x4 (x5 ++ [1]) (wrap64 (x6 + 1))) else (none)) else (if x5.length < 17592186044416 then (spec_l20Sets.l1 k x0 x3 x4 (x5 ++ [0]) (wrap64 (x6 + 1))) else (none))) else (if x3.length < 5864062014805 then (spec_l20Sets.l0 k x0 (x3 ++ [x5]) (wrap64 (x4 + 1))) else (none))) else (none)
end
def spec_l20Sets.f (k : Nat) (a0 : Int) : Option ((List (List Int))) := spec_l20Sets.l0 k a0 (([] : List (List Int))) 0
theorem spec_l20Sets.mono_l : ∀ k, (∀ y0 y1 y2, LeO (spec_l20Sets.l0 k y0 y1 y2) (spec_l20Sets.l0 (k + 1) y0 y1 y2)) ∧ (∀ y0 y1 y2 y3 y4, LeO (spec_l20Sets.l1 k y0 y1 y2 y3 y4) (spec_l20Sets.l1 (k + 1) y0 y1 y2 y3 y4))
 | 0 => ⟨fun _ _ _ r h => by simp [spec_l20Sets.l0] at h, fun _ _ _ _ _ r h => by simp [spec_l20Sets.l1] at h⟩
 | k + 1 => by
  obtain ⟨ih0, ih1⟩ := spec_l20Sets.mono_l k
  refine ⟨?_, ?_⟩
  ·intro y0 y1 y2
   unfold spec_l20Sets.l0
   repeat' first
   | (with_reducible exact ih0 _ _ _)
   | (with_reducible exact ih1 _ _ _ _ _)
   | (with_reducible exact LeO.refl _)
   | (with_reducible exact LeO.none _)
   | (with_reducible refine LeO.ite ?_ ?_)
   | (with_reducible refine LeO.bind ?_ (fun _ => ?_))
   | exact ih0 _ _ _
   | exact ih1 _ _ _ _ _
   | exact LeO.none _
   | refine LeO.ite ?_ ?_
   | refine LeO.bind ?_ (fun _ => ?_)
  ·intro y0 y1 y2 y3 y4
   unfold spec_l20Sets.l1
   repeat' first
   | (with_reducible exact ih0 _ _ _)
   | (with_reducible exact ih1 _ _ _ _ _)
   | (with_reducible exact LeO.refl _)
   | (with_reducible exact LeO.none _)
   | (with_reducible refine LeO.ite ?_ ?_)
   | (with_reducible refine LeO.bind ?_ (fun _ => ?_))
   | exact ih0 _ _ _
   | exact ih1 _ _ _ _ _
   | exact LeO.none _
   | refine LeO.ite ?_ ?_
   | refine LeO.bind ?_ (fun _ => ?_)
theorem spec_l20Sets.mono : ∀ a0 k, LeO (spec_l20Sets.f k a0) (spec_l20Sets.f (k + 1) a0) := by
 intro a0 k
 obtain ⟨ih0, ih1⟩ := spec_l20Sets.mono_l k
 unfold spec_l20Sets.f
 repeat' first
   | (with_reducible exact ih0 _ _ _)
   | (with_reducible exact ih1 _ _ _ _ _)
   | (with_reducible exact LeO.refl _)
   | (with_reducible exact LeO.none _)
   | (with_reducible refine LeO.ite ?_ ?_)
   | (with_reducible refine LeO.bind ?_ (fun _ => ?_))
   | exact ih0 _ _ _
   | exact ih1 _ _ _ _ _
   | exact LeO.none _
   | refine LeO.ite ?_ ?_
   | refine LeO.bind ?_ (fun _ => ?_)
set_option maxHeartbeats 8000000 in
set_option maxRecDepth 100000 in
theorem spec_l20Sets.calls (k : Nat) (a0 : Int) (r : List (List Int)) (w : World) (h : spec_l20Sets.f k a0 = some r) :
  Calls Try.prog 131 #[.int .i64 a0] w fun e w' => ∃ v0_ : Value, e = .returned (v0_) ∧ Kd.S (Kd.slice 3 (Kd.int .i64)) 28 w' w.heap.size (fun _ => True) v0_ r ∧ Below w.heap.size w w' := by
 have HB:=zqm (Below.refl w.heap.size w);have H:(spec_l20Sets.l0 k a0 (([]:List (List Int))) 0)=some r:=h;clear h;obtain⟨d1,a8⟩: ∃y_:List (List Int),y_=(([]:List (List Int))):=⟨_,rfl⟩;(replace H:(spec_l20Sets.l0 k a0 d1 0)=some r:=by first|(rw [a8];with_reducible exact H)|(have a5:=(Option.bind_some _ _).symm.trans H;rw [a8];with_reducible exact a5)|(have a5:=(Option.bind_some _ _).symm.trans H;with_reducible exact a5)|with_reducible exact H|(rw [a8];exact H)|exact H);have c2:=zqm a8;clear a8;have H':=zqm H;clear H
 go_enter Try.func131,Try.ntmps131
 go_wp2_with (first|((with_reducible refine gate_dst (N:=8) rfl ?_);refine Kd.S_lit (Kd.slice 3 (Kd.int .i64)) _ 28 ?hg (N:=8) ?hd (xs:=([]:List (List Int))) (inner:= []) (ok:=fun _=>True) (okp:=fun _=>True) ?hr ?hp (fun _ hk=>hk) trivial (Below.refl _ _) (Nat.le_refl _) (by simp) ?_;(case hd=>rfl);(case hg=>rfl);(case hr=>first|(go_simp;done)|(go_simp;rfl));(case hp=>exact(Reps.none _ _));intro f1 w2 c0 hb hg_ hnew_;clear hg_ hnew_;(first|rw [← c2.out] at c0|(simp only [Int.reduceToNat] at c0;rw [← c2.out] at c0));have d8:=zqm (Kd.S_lower c0 (below_size zq0));replace HB:=zqm (below_step zq0 hb);clear hb c0))
 go_loopg [3,4] k (fun kq v3 v4 w'=> ∃(a4:List (List Int)) (a1:Int),v4= .int .i64 a1∧Aside0 (spec_l20Sets.l0 kq a0 a4 a1=some r)∧Aside0 (kq≤k)∧Aside0 (Kd.S (Kd.slice 3 (Kd.int .i64)) 28 w' w.heap.size (fun _=>True) v3 a4)∧Aside0 (Below w.heap.size w w'))
 case atStart=>exact⟨(d1),(0),(by first|rfl|(simp;done)|(simp [*];done)),H',⟨Nat.le_refl _⟩,⟨by(with_reducible repeat(first|apply Kd.S_alloc|apply Kd.S_drewN|apply Kd.S_drew));exact d8.out⟩,⟨zq0⟩⟩
 case round=>
  clear H';obtain⟨a4,a1,rfl,HA,b6,HO_3,HB⟩:=hrel
  cases gk with
  |zero=>exact absurd HA.out (by simp [spec_l20Sets.l0])
  |succ k1=>
   have H:=HA.out;clear HA;simp only [spec_l20Sets.l0] at H
   by_cases c4:0≤a0
   ·rw [if_pos c4] at H;have f2:=eq_true c4;have f3:decide (0≤a0)=true:=decide_eq_true c4;clear c4;obtain⟨a7,b4⟩: ∃j_:Int,(shl .i64 1 a0)=j_:=⟨_,rfl⟩;(replace H:(if a1<(a7) then(spec_l20Sets.l1 k1 a0 a4 a1 (([]:List Int)) 0) else(some a4))=some r:=by first|(rw [b4] at H;exact H)|(simp only [b4] at H ⊢;exact H));have c3:(IntKind.i64.wrap (1*2 ^ min a0.toNat 64))=a7:=b4;have hji5z:a0≤64→(IntKind.i64.wrap (1*2 ^ a0.toNat))=a7:=shl_small b4;(have hji5u:(IntKind.i64.wrap (2 ^ min a0.toNat 64))=a7:=by have h_:=c3;rw [Int.one_mul] at h_;exact h_);(have hji5v:a0≤64→(IntKind.i64.wrap (2 ^ a0.toNat))=a7:=fun hle_=>by have h_:=hji5z hle_;rw [Int.one_mul] at h_;exact h_);have hji5y:(wrap64 (1*2 ^ min a0.toNat 64))=a7:=(i64_w _).symm.trans c3;have hji5x:a0≤64→(wrap64 (1*2 ^ a0.toNat))=a7:=fun h_=>(i64_w _).symm.trans (hji5z h_)
    by_cases c6:a1<(a7)
    ·rw [if_pos c6] at H;have e9:decide (a1<(a7))=true:=decide_eq_true c6;clear c6;obtain⟨d2,a9⟩: ∃y_:List Int,y_=(([]:List Int)):=⟨_,rfl⟩;(replace H:(spec_l20Sets.l1 k1 a0 a4 a1 d2 0)=some r:=by first|(rw [a9];with_reducible exact H)|(have a5:=(Option.bind_some _ _).symm.trans H;rw [a9];with_reducible exact a5)|(have a5:=(Option.bind_some _ _).symm.trans H;with_reducible exact a5)|with_reducible exact H|(rw [a9];exact H)|exact H);have c5:=zqm a9;clear a9;have H':=zqm H;clear H
     go_wp2_with (first|((with_reducible refine gate_dst (N:=15) rfl ?_);refine Kd.R_lit (Kd.int .i64) _ 3 ?hg (N:=15) ?hd (xs:=([]:List Int)) (inner:= []) (ok:=fun _=>True) (okp:=fun _=>True) ?hr ?hp (fun _ hk=>hk) trivial (Below.refl _ _) (Nat.le_refl _) (by simp) ?_;(case hd=>rfl);(case hg=>rfl);(case hr=>first|(go_simp;done)|(go_simp;rfl));(case hp=>exact(Reps.none _ _));intro f4 w7 b7 hb hg_ hnew_;clear hg_ hnew_;(first|rw [← c5.out] at b7|(simp only [Int.reduceToNat] at b7;rw [← c5.out] at b7));replace HO_3:=zqm (Kd.S_elder' zq161 (Kd.R_base b7) hb);have d9:=zqm (Kd.R_lower b7 (below_size zq0));replace HB:=zqm (below_step zq0 hb);clear hb b7))
     go_loopg [5,6] k1 (fun kq v5 v6 w'=> ∃(a3:List Int) (a2:Int),v6= .int .i64 a2∧Aside0 (spec_l20Sets.l1 kq a0 a4 a1 a3 a2=some r)∧Aside0 (kq≤k1)∧Aside0 (Kd.S (Kd.slice 3 (Kd.int .i64)) 28 w' w.heap.size (fun k_=>some k_≠(v5:Value).ownBlock) u3 a4)∧Aside0 (Kd.R (Kd.int .i64) 3 w' w.heap.size (fun _=>True) v5 a3)∧Aside0 (Below w.heap.size w w'))
     case atStart=>exact⟨(d2),(0),(by first|rfl|(simp;done)|(simp [*];done)),H',⟨Nat.le_refl _⟩,⟨zq335⟩,⟨zq139⟩,⟨zq0⟩⟩
     case round=>
      clear H';obtain⟨a3,a2,rfl,HA,b8,HO_3,HO_5,HB⟩:=hrel
      cases gk with
      |zero=>exact absurd HA.out (by simp [spec_l20Sets.l1])
      |succ k2=>
       have H:=HA.out;clear HA;simp only [spec_l20Sets.l1] at H
       by_cases c9:0≤a0
       ·rw [if_pos c9] at H;have f5:=eq_true c9;have f6:decide (0≤a0)=true:=decide_eq_true c9;clear c9;obtain⟨a6,b0⟩: ∃j_:Int,(shl .i64 1 a0)=j_:=⟨_,rfl⟩;(first|(obtain rfl:a6=a7:=b0.symm.trans b4)|skip);(replace H:(if a2<(a6) then(if(Go.bits .and .i64 a1 a2)=a1 then(if a3.length<17592186044416 then(spec_l20Sets.l1 k2 a0 a4 a1 (a3 ++ [1]) (wrap64 (a2+1))) else(none)) else(if a3.length<17592186044416 then(spec_l20Sets.l1 k2 a0 a4 a1 (a3 ++ [0]) (wrap64 (a2+1))) else(none))) else(if a4.length<5864062014805 then(spec_l20Sets.l0 k2 a0 (a4 ++ [a3]) (wrap64 (a1+1))) else(none)))=some r:=by first|(rw [b0] at H;exact H)|(simp only [b0] at H ⊢;exact H));have c1:(IntKind.i64.wrap (1*2 ^ min a0.toNat 64))=a6:=b0;have hji10z:a0≤64→(IntKind.i64.wrap (1*2 ^ a0.toNat))=a6:=shl_small b0;(have hji10u:(IntKind.i64.wrap (2 ^ min a0.toNat 64))=a6:=by have h_:=c1;rw [Int.one_mul] at h_;exact h_);(have hji10v:a0≤64→(IntKind.i64.wrap (2 ^ a0.toNat))=a6:=fun hle_=>by have h_:=hji10z hle_;rw [Int.one_mul] at h_;exact h_);have hji10y:(wrap64 (1*2 ^ min a0.toNat 64))=a6:=(i64_w _).symm.trans c1;have hji10x:a0≤64→(wrap64 (1*2 ^ a0.toNat))=a6:=fun h_=>(i64_w _).symm.trans (hji10z h_)
        by_cases b9:a2<(a6)
        ·rw [if_pos b9] at H;have e0:decide (a2<(a6))=true:=decide_eq_true b9;clear b9
         by_cases b5:(Go.bits .and .i64 a1 a2)=a1
         ·rw [if_pos b5] at H;have e1:((Go.bits .and .i64 a1 a2)==a1)=true:=beq_iff_eq.mpr b5;have e2:((Go.bits .and .i64 a1 a2) !=a1)=false:=bne_eq_false_iff_eq.mpr b5;clear b5
          by_cases c7:a3.length<17592186044416
          ·rw [if_pos c7] at H;have LMc13:=zqm c7;clear c7;obtain⟨d3,b1⟩: ∃y_:List Int,y_=(a3 ++ [1]):=⟨_,rfl⟩;(replace H:(spec_l20Sets.l1 k2 a0 a4 a1 d3 (wrap64 (a2+1)))=some r:=by first|(rw [b1];with_reducible exact H)|(have a5:=(Option.bind_some _ _).symm.trans H;rw [b1];with_reducible exact a5)|(have a5:=(Option.bind_some _ _).symm.trans H;with_reducible exact a5)|with_reducible exact H|(rw [b1];exact H)|exact H);have e3:=zqm b1;clear b1;have H':=zqm H;clear H
           go_wp2_with (first|((with_reducible refine gate_builtin (b:= .append) (xs:= #[.tmp 27,.tmp 29]) rfl ?_);at_builtin;refine Kd.R_append (Kd.int .i64) (w0:=w) w.heap.size rfl (.tmp 27) (.tmp 29) 28 3 (.int .i64 0) 8 rfl Try.underlying28 info3 rfl (by decide) (by omega) u5 a3 1 [.int .i64 1] (fun _=>True) (fun _=>False) rfl rfl ?aP (fun _ hk=>hk.elim) ?aF ?aO ?aB ?aS ?aL ?_;(case aP=>exact rfl);(case aB=> exact zq287);(case aF=>exact(fun _ _=>trivial));(case aO=> exact zq316);(case aS=> exact zq271);(case aL=>have:=LMc13.out;omega);intro f7 g0 ho hb hg hat;rw [← e3.out] at ho;replace HO_3:=zqm (Kd.S_after (ok:=(fun _=>True)) zq372 hg hat);replace HB:=zqm (hb);have e4:=zqm (ho);clear HO_5;clear ho hb hg hat))
           go_roundg k2
           (case measure=>have:=b6.out;have:=b8.out;omega);case rel=>exact⟨(d3),(wrap64 (a2+1)),(by first|rfl|(simp;done)|(simp [*];done)),H',⟨by have:=b6.out;have:=b8.out;omega⟩,⟨zq335⟩,⟨by(with_reducible repeat(first|apply Kd.R_alloc|apply Kd.R_drewN|apply Kd.R_drew));exact e4.out⟩,⟨zq0⟩⟩
          ·rw [if_neg c7] at H;exact absurd H (by simp)
         ·rw [if_neg b5] at H;have e1:((Go.bits .and .i64 a1 a2)==a1)=false:=beq_eq_false_iff_ne.mpr b5;have e2:((Go.bits .and .i64 a1 a2) !=a1)=true:=bne_iff_ne.mpr b5
          by_cases c8:a3.length<17592186044416
          ·rw [if_pos c8] at H;have LMc15:=zqm c8;clear c8;obtain⟨d4,b2⟩: ∃y_:List Int,y_=(a3 ++ [0]):=⟨_,rfl⟩;(replace H:(spec_l20Sets.l1 k2 a0 a4 a1 d4 (wrap64 (a2+1)))=some r:=by first|(rw [b2];with_reducible exact H)|(have a5:=(Option.bind_some _ _).symm.trans H;rw [b2];with_reducible exact a5)|(have a5:=(Option.bind_some _ _).symm.trans H;with_reducible exact a5)|with_reducible exact H|(rw [b2];exact H)|exact H);have e5:=zqm b2;clear b2;have H':=zqm H;clear H
           go_wp2_with (first|((with_reducible refine gate_builtin (b:= .append) (xs:= #[.tmp 27,.tmp 29]) rfl ?_);at_builtin;refine Kd.R_append (Kd.int .i64) (w0:=w) w.heap.size rfl (.tmp 27) (.tmp 29) 28 3 (.int .i64 0) 8 rfl Try.underlying28 info3 rfl (by decide) (by omega) u5 a3 0 [.int .i64 0] (fun _=>True) (fun _=>False) rfl rfl ?aP (fun _ hk=>hk.elim) ?aF ?aO ?aB ?aS ?aL ?_;(case aP=>exact rfl);(case aB=> exact zq287);(case aF=>exact(fun _ _=>trivial));(case aO=> exact zq316);(case aS=> exact zq271);(case aL=>have:=LMc15.out;omega);intro f8 g1 ho hb hg hat;rw [← e5.out] at ho;replace HO_3:=zqm (Kd.S_after (ok:=(fun _=>True)) zq372 hg hat);replace HB:=zqm (hb);have e6:=zqm (ho);clear HO_5;clear ho hb hg hat))
           go_roundg k2
           (case measure=>have:=b6.out;have:=b8.out;omega);case rel=>exact⟨(d4),(wrap64 (a2+1)),(by first|rfl|(simp;done)|(simp [*];done)),H',⟨by have:=b6.out;have:=b8.out;omega⟩,⟨zq335⟩,⟨by(with_reducible repeat(first|apply Kd.R_alloc|apply Kd.R_drewN|apply Kd.R_drew));exact e6.out⟩,⟨zq0⟩⟩
          ·rw [if_neg c8] at H;exact absurd H (by simp)
        ·rw [if_neg b9] at H;have e0:decide (a2<(a6))=false:=decide_eq_false b9;clear b9
         by_cases d0:a4.length<5864062014805
         ·rw [if_pos d0] at H;have LMc17:=zqm d0;clear d0;obtain⟨d5,b3⟩: ∃y_:List (List Int),y_=(a4 ++ [a3]):=⟨_,rfl⟩;(replace H:(spec_l20Sets.l0 k2 a0 d5 (wrap64 (a1+1)))=some r:=by first|(rw [b3];with_reducible exact H)|(have a5:=(Option.bind_some _ _).symm.trans H;rw [b3];with_reducible exact a5)|(have a5:=(Option.bind_some _ _).symm.trans H;with_reducible exact a5)|with_reducible exact H|(rw [b3];exact H)|exact H);have e7:=zqm b3;clear b3;have H':=zqm H;clear H;obtain⟨d6,d7,f0⟩:=Kd.R_slice HO_5.out;subst f0
          go_wp2_with (first|((with_reducible refine gate_builtin (b:= .append) (xs:= #[.tmp 31,.tmp 33]) rfl ?_);at_builtin;refine Kd.S_append (Kd.slice 3 (Kd.int .i64)) (w0:=w) w.heap.size rfl (.tmp 31) (.tmp 33) 27 28 (.slice none 0 0) 24 rfl Try.underlying27 info28 rfl (by decide) (by omega) u3 a4 a3 [.slice d6 a3.length d7] (fun _=>True) (fun k_=>some k_=(.slice d6 a3.length d7:Value).ownBlock) rfl rfl ?aP (fun k_ hk_=>((Kd.R_mono (ok':=fun k_=>((fun _=>True)) k_∧some k_≠(u3:Value).ownBlock) (Kd.R_apart' (HO_5.out) (Kd.S_typed HO_3.out) (by decide)) (fun k_ hk=>⟨trivial,hk.2⟩))).1 k_ hk_.symm) ?aF ?aO ?aB ?aS ?aL ?_;(case aP=>exact Kd.M_row (Kd.R_mono (Kd.R_tight rfl (Kd.R_mono (ok':=fun k_=>((fun _=>True)) k_∧some k_≠(u3:Value).ownBlock) (Kd.R_apart' (HO_5.out) (Kd.S_typed HO_3.out) (by decide)) (fun k_ hk=>⟨trivial,hk.2⟩))) (fun _ h_=>h_)));(case aB=> exact zq287);(case aF=>exact(fun _ _=>trivial));(case aO=>exact zq358);(case aS=> exact zq271);(case aL=>have:=LMc17.out;omega);intro f9 g2 ho hb hg hat;rw [← e7.out] at ho;replace HB:=zqm (hb);have e8:=zqm (ho);clear HO_3 HO_5;clear ho hb hg hat))
          go_roundg k2
          (case measure=>have:=b6.out;have:=b8.out;omega);case rel=>exact⟨(d5),(wrap64 (a1+1)),(by first|rfl|(simp;done)|(simp [*];done)),H',⟨by have:=b6.out;have:=b8.out;omega⟩,⟨by(with_reducible repeat(first|apply Kd.S_alloc|apply Kd.S_drewN|apply Kd.S_drew));exact e8.out⟩,⟨zq0⟩⟩
         ·rw [if_neg d0] at H;exact absurd H (by simp)
       ·rw [if_neg c9] at H;exact absurd H (by simp)
    ·rw [if_neg c6] at H;have e9:decide (a1<(a7))=false:=decide_eq_false c6;clear c6;obtain rfl:=Option.some.inj H
     go_wp2
     go_ret
     exact⟨_,by first|rfl|(simp [errW_none,errW_some] <;> rfl)|(simp only [← b4];first|rfl|(simp [errW_none,errW_some] <;> rfl))|(simp [*,errW_none,errW_some] <;> rfl),zq161,zq0⟩
   ·rw [if_neg c4] at H;exact absurd H (by simp)
end Go.Proofs.Ytdoomkcgdcfmlaa.Print
end
section
namespace Go.Proofs.Ytdoomkcgdcfmlaa.Print
open Go.RowKit Go.Proofs.YtdoomkcgdcfmlaaW.PrintWords Go.Proofs.YtdoomkcgdcfmlaaW.PrintLast Go.Proofs.YtdoomkcgdcfmlaaW.PrintMore
attribute [local go_sem] max2_int min2_int max_two min_two max_three min_three max_four min_four   -- for this text's walks alone
def spec_l20Boole.l0 : Nat → Int → Int → List (List Int) → List Int → Option ((List (List Int)) × List Int)
 | 0, _, _, _, _ => none
 | k + 1, x0, x4, x210000, x210001 => if 0 ≤ x0 then (if x4 < (shl .i64 1 x0) then (if x210001.length < 17592186044416 then (spec_l20Boole.l0 k x0 (wrap64 (x4 + 1)) x210000 (x210001 ++ [wrap64 ((wrap64 ((shl .i64 1 x0) - 1)) - x4)])) else (none)) else (some (x210000, x210001))) else (none)
def spec_l20Boole.f (k : Nat) (a0 : Int) : Option ((List (List Int)) × List Int) := (spec_l20Sets.f k a0).bind fun t206 => (spec_l20Boole.l0 k a0 0 t206 ([] : List Int))
theorem spec_l20Boole.mono_l : ∀ k, (∀ y0 y1 y2 y3, LeO (spec_l20Boole.l0 k y0 y1 y2 y3) (spec_l20Boole.l0 (k + 1) y0 y1 y2 y3))
 | 0 => fun _ _ _ _ r h => by simp [spec_l20Boole.l0] at h
 | k + 1 => by
  have ih0 := spec_l20Boole.mono_l k
  ·intro y0 y1 y2 y3
   unfold spec_l20Boole.l0
   repeat' first
   | (with_reducible exact ih0 _ _ _ _)
   | (with_reducible exact spec_l20Sets.mono _ _)
   | (with_reducible exact LeO.refl _)
   | (with_reducible exact LeO.none _)
   | (with_reducible refine LeO.ite ?_ ?_)
   | (with_reducible refine LeO.bind ?_ (fun _ => ?_))
   | exact ih0 _ _ _ _
   | exact spec_l20Sets.mono _ _
   | exact LeO.none _
   | refine LeO.ite ?_ ?_
   | refine LeO.bind ?_ (fun _ => ?_)
theorem spec_l20Boole.mono : ∀ a0 k, LeO (spec_l20Boole.f k a0) (spec_l20Boole.f (k + 1) a0) := by
 intro a0 k
 have ih0 := spec_l20Boole.mono_l k
 unfold spec_l20Boole.f
 repeat' first
   | (with_reducible exact ih0 _ _ _ _)
   | (with_reducible exact spec_l20Sets.mono _ _)
   | (with_reducible exact LeO.refl _)
   | (with_reducible exact LeO.none _)
   | (with_reducible refine LeO.ite ?_ ?_)
   | (with_reducible refine LeO.bind ?_ (fun _ => ?_))
   | exact ih0 _ _ _ _
   | exact spec_l20Sets.mono _ _
   | exact LeO.none _
   | refine LeO.ite ?_ ?_
   | refine LeO.bind ?_ (fun _ => ?_)
def spec_l20Boole.T5 : Bool × List (List Nat × List Nat) := (true, [([], []), ([0], [0]), ([], []), ([2], [2]), ([3], [3]), ([], []), ([4, 5], [4, 5]), ([6], [6]), ([1, 7], [1, 7]), ([0, 1, 2, 3, 4, 5, 6, 7, 8], []), ([9, 8, 8, 0, 1, 2, 3, 4, 5, 6, 7, 8], [8, 9])])
def spec_l20Boole.B5 : List Nat := [0, 1, 0, 4, 12, 0, 60, 124, 255, 511, 1023]
theorem spec_l20Boole.tab5 : rtab .any (opsOf Try.f124 5) = spec_l20Boole.T5 := by kernel_rfl
theorem spec_l20Boole.bits5 : waitsOk spec_l20Boole.T5.2 spec_l20Boole.B5 = true := by kernel_rfl
set_option maxHeartbeats 8000000 in
set_option maxRecDepth 100000 in
theorem spec_l20Boole.calls (k : Nat) (a0 : Int) (r1 : List (List Int)) (r2 : List Int) (w : World) (h : spec_l20Boole.f k a0 = some (r1, r2)) :
  Calls Try.prog 124 #[.int .i64 a0] w fun e w' => ∃ v0_ v1_ : Value, e = .returned (.agg #[v0_, v1_]) ∧ Kd.S (Kd.slice 3 (Kd.int .i64)) 28 w' w.heap.size (fun k_ => some k_ ≠ (v1_ : Value).ownBlock) v0_ r1 ∧ Kd.R (Kd.int .i64) 3 w' w.heap.size (fun _ => True) v1_ r2 ∧ Below w.heap.size w w' := by
 have hu30:=Try.underlying30;have HB:=zqm (Below.refl w.heap.size w);have H:((spec_l20Sets.f k a0).bind fun a6=>(spec_l20Boole.l0 k a0 0 a6 ([]:List Int)))=some (r1,r2):=h;clear h;replace H:=Option.bind_eq_some_iff.mp H;obtain⟨a6,d3,H⟩:=H;replace H:(spec_l20Boole.l0 k a0 0 a6 ([]:List Int))=some (r1,r2):=H;have A2:=zqm d3;clear d3;have H':=zqm H;clear H
 go_enter Try.func124,Try.ntmps124
 go_wp2_with (first|((with_reducible refine gate_dst (N:=2) rfl ?_);refine box_event ?hg (N:=2) ?hd (cs:= #[.slice none 0 0,.slice none 0 0]) (t:=30) ?hr ?_;(case hd=>rfl);(case hg=>rfl);(case hr=>first|(go_simp;done)|(go_simp;rfl));intro a4 hg w3 hbox hb;have d4:=zqm (below_step zq0 hb);have a2:=zqm (hbox);have f9:=zqm ((by rw [hg];exact(below_size zq0):w.heap.size≤a4));have b1:=zqm ((by rw [hg];exact(below_size zq0):w.heap.size≤a4));clear HB;have HB:=d4;clear d4 hb hbox hg)|((with_reducible refine gate_callee (f:=131) rfl ?_);refine goesL_ (some 6) rfl rfl Try.func131 zqk rfl #[.int .i64 a0] rfl zq1 ?_;(with_reducible refine(spec_l20Sets.calls k a0 a6 _ A2.out).mono ?_);rintro e w4 ⟨g4,rfl,d5,hb⟩;refine⟨_,rfl,?_⟩;have b8:=zqm (Kd.S_lower d5 (below_size zq3));replace a2:=zqm (blk_below (g:=a4) (o:= .cells #[.slice none 0 0,.slice none 0 0] 30 (0,0)) zq15 hb);replace HB:=zqm (below_step zq3 hb);clear hb d5;obtain⟨b2,b3,f0⟩:=Kd.S_slice b8.out;subst f0)|((with_reducible refine gate_dst (N:=3) rfl ?_);refine box_event ?hg (N:=3) ?hd (cs:= #[.slice none 0 0,.slice none 0 0]) (t:=30) ?hr ?_;(case hd=>rfl);(case hg=>rfl);(case hr=>first|(go_simp;done)|(go_simp;rfl));intro a5 hg w6 hbox hb;replace b8:=zqm (Kd.S_below (by(with_reducible repeat(first|apply Kd.S_alloc|apply Kd.S_drewN|apply Kd.S_drew));exact b8.out) hb);have d6:=zqm (blk_below (g:=a4) (o:= .cells #[.slice none 0 0,.slice none 0 0] 30 (0,0)) zq15 hb);have d7:=zqm (below_step zq3 hb);have a1:=zqm (hbox);have g0:=zqm ((by rw [hg];exact(below_size zq3):w.heap.size≤a5));have b5:=zqm ((by rw [hg];exact(below_size zq3):w.heap.size≤a5));have a8:=zqm ((by rw [hg];exact Nat.ne_of_lt (blk_lt (g:=a4) (o:= .cells #[.slice none 0 0,.slice none 0 0] 30 (0,0)) zq15):a4≠a5));have b4:=zqm ((by rw [hg];exact Nat.ne_of_gt (blk_lt (g:=a4) (o:= .cells #[.slice none 0 0,.slice none 0 0] 30 (0,0)) zq15):a5≠a4));clear a2 HB;have a2:=d6;have HB:=d7;clear d6 d7 hb hbox hg;have g5:=b4.out;have g6:=a8.out;have f1:w6.cell? ⟨a5,0,none⟩=some (.slice none 0 0):=(blk_cell a1.out 0).trans rfl;have f2:w6.cell? ⟨a5,1,none⟩=some (.slice none 0 0):=(blk_cell a1.out 1).trans rfl;have f3:=blk_frozen a1.out 0;have f4:=blk_frozen a1.out 1))
 go_loopg [4] k (fun kq v4 w'=> ∃(a9:Int) (a3:List Int) (a7:Value),v4= .int .i64 a9∧Aside0 (spec_l20Boole.l0 kq a0 a9 a6 a3=some (r1,r2))∧Aside0 (kq≤k)∧Aside0 (Kd.S (Kd.slice 3 (Kd.int .i64)) 28 w' w.heap.size (fun k_=>some k_≠(a7:Value).ownBlock) (.slice b2 a6.length b3) a6)∧Aside0 (Kd.R (Kd.int .i64) 3 w' w.heap.size (fun _=>True) a7 a3)∧Aside0 (w'.heap[a4]? =some (.cells #[(.slice none 0 0),(.slice none 0 0)] 30 (0,0)))∧Aside0 (w'.heap[a5]? =some (.cells #[(.slice b2 a6.length b3),a7] 30 (0,0)))∧Aside0 (Below w.heap.size w w'))
 case atStart=>exact⟨(0),(([]:List Int)),(.slice none 0 0),(by first|rfl|(simp;done)|(simp [*];done)),H',⟨Nat.le_refl _⟩,⟨by(with_reducible repeat(first|apply Kd.S_alloc|apply Kd.S_drewN|apply Kd.S_drew));exact Kd.S_mono (Kd.S_far (p:=⟨a5,1,none⟩) (Kd.S_far (p:=⟨a5,0,none⟩) (Kd.S_types b8.out a1.out (by decide)) (fun _ hk=>hk.2) (.slice b2 a6.length b3)) (fun _ hk=>hk.2) (.slice none 0 0)) (fun _ hk=>(by simp [Value.ownBlock]))⟩,⟨zq174⟩,⟨by(with_reducible repeat(first|refine blk_drewN ?_ _|refine blk_drew ?_|refine blk_alloc ?_ _));refine blk_far ?_ a8.out _;(with_reducible repeat(first|refine blk_drewN ?_ _|refine blk_drew ?_|refine blk_alloc ?_ _));refine blk_far ?_ a8.out _;(with_reducible repeat(first|refine blk_drewN ?_ _|refine blk_drew ?_|refine blk_alloc ?_ _));exact a2.out⟩,⟨by(with_reducible repeat(first|refine blk_drewN ?_ _|refine blk_drew ?_|refine blk_alloc ?_ _));refine blk_put (cs:= #[.slice b2 a6.length b3,.slice none 0 0]) ?_ 1 _ rfl;(with_reducible repeat(first|refine blk_drewN ?_ _|refine blk_drew ?_|refine blk_alloc ?_ _));refine blk_put (cs:= #[.slice none 0 0,.slice none 0 0]) ?_ 0 _ rfl;(with_reducible repeat(first|refine blk_drewN ?_ _|refine blk_drew ?_|refine blk_alloc ?_ _));exact a1.out⟩,⟨zq148⟩⟩
 case round=>
  clear H';obtain⟨a9,a3,a7,rfl,HA,d8,HO_210000,HO_210001,a2,a1,HB⟩:=hrel
  cases gk with
  |zero=>exact absurd HA.out (by simp [spec_l20Boole.l0])
  |succ k1=>
   have H:=HA.out;clear HA;simp only [spec_l20Boole.l0] at H
   by_cases c9:0≤a0
   ·rw [if_pos c9] at H;have g7:=eq_true c9;have g8:decide (0≤a0)=true:=decide_eq_true c9;clear c9;obtain⟨b0,b6⟩: ∃j_:Int,(shl .i64 1 a0)=j_:=⟨_,rfl⟩;(replace H:(if a9<(b0) then(if a3.length<17592186044416 then(spec_l20Boole.l0 k1 a0 (wrap64 (a9+1)) a6 (a3 ++ [wrap64 ((wrap64 ((b0) - 1)) - a9)])) else(none)) else(some (a6,a3)))=some (r1,r2):=by first|(rw [b6] at H;exact H)|(simp only [b6] at H ⊢;exact H));have c1:(IntKind.i64.wrap (1*2 ^ min a0.toNat 64))=b0:=b6;have hji10z:a0≤64→(IntKind.i64.wrap (1*2 ^ a0.toNat))=b0:=shl_small b6;(have hji10u:(IntKind.i64.wrap (2 ^ min a0.toNat 64))=b0:=by have h_:=c1;rw [Int.one_mul] at h_;exact h_);(have hji10v:a0≤64→(IntKind.i64.wrap (2 ^ a0.toNat))=b0:=fun hle_=>by have h_:=hji10z hle_;rw [Int.one_mul] at h_;exact h_);have hji10y:(wrap64 (1*2 ^ min a0.toNat 64))=b0:=(i64_w _).symm.trans c1;have hji10x:a0≤64→(wrap64 (1*2 ^ a0.toNat))=b0:=fun h_=>(i64_w _).symm.trans (hji10z h_)
    by_cases c0:a9<(b0)
    ·rw [if_pos c0] at H;have d1:decide (a9<(b0))=true:=decide_eq_true c0;clear c0;have g1:=eq_true (zqo:0≤a0)
     by_cases c6:a3.length<17592186044416
     ·rw [if_pos c6] at H;have LMc14:=zqm c6;clear c6;obtain⟨b9,b7⟩: ∃y_:List Int,y_=(a3 ++ [wrap64 ((wrap64 ((b0) - 1)) - a9)]):=⟨_,rfl⟩;(replace H:(spec_l20Boole.l0 k1 a0 (wrap64 (a9+1)) a6 b9)=some (r1,r2):=by first|(rw [b7];with_reducible exact H)|(have c8:=(Option.bind_some _ _).symm.trans H;rw [b7];with_reducible exact c8)|(have c8:=(Option.bind_some _ _).symm.trans H;with_reducible exact c8)|with_reducible exact H|(rw [b7];exact H)|exact H);have d2:=zqm b7;clear b7;have H':=zqm H;clear H;(try go_wp2);replace HO_210000:=zqm (Kd.S_drew HO_210000.out);replace HO_210001:=zqm (Kd.R_drew HO_210001.out);replace a2:=zqm (blk_drew a2.out);replace a1:=zqm (blk_drew a1.out);replace HB:=zqm (below_drew1 HB.out);refine start_ (n:=11) (S:=fun w'=>w'.cell? ⟨a5,0,none⟩=some (.slice b2 a6.length b3)∧w'.cell? ⟨a5,1,none⟩=some (a7)) (ds:= [10]) (zqb 11 0) zqk rfl rfl ⟨(blk_cell a1.out 0).trans rfl,(blk_cell a1.out 1).trans rfl⟩ (fun hHeld=>?_);refine with_tabW spec_l20Boole.tab5 spec_l20Boole.bits5 (fun HT_ HW_=>?_);generalize wr.drew=h0 at HO_210000 HO_210001 a2 a1 HB hHeld ⊢;refine pure_ (i:=0) (N:=some 14) (v:=?_) (a':=?_) (zqb 11 1) rfl rfl (any_of HT_.out zqk) (fun _ _ _ h=>h) (Or.inl ⟨by rfl,?_⟩) ?_ ?_;rotate_left
      ·exact zqt
      rotate_left
      ·exact zqs
      refine pure_ (i:=2) (N:=some 16) (v:=?_) (a':=?_) (zqb 11 5) rfl rfl (any_of HT_.out zqk) (fun _ _ _ h=>h) (Or.inl ⟨by rfl,?_⟩) ?_ ?_;rotate_left
      ·exact zqt
      rotate_left
      ·exact zqs
      refine pure_ (i:=3) (N:=some 17) (v:=?_) (a':=?_) (zqb 11 13) rfl rfl (any_of HT_.out zqk) (fun _ _ _ h=>h) (Or.inl ⟨by rfl,?_⟩) ?_ ?_;rotate_left
      ·exact zqt
      rotate_left
      ·exact zqs
      refine pure_ (i:=4) (N:=some 18) (v:=?_) (a':=?_) (zqb 11 29) rfl rfl (any_of HT_.out zqk) (fun _ _ _ h=>h) (Or.inl ⟨by rfl,?_⟩) ?_ ?_;rotate_left
      ·exact zqt
      rotate_left
      ·exact zqs
      refine pure_ (i:=5) (N:=some 19) (v:=?_) (a':=?_) (zqb 11 61) rfl rfl (any_of HT_.out zqk) (fun _ _ _ h=>h) (Or.inl ⟨by rfl,?_⟩) ?_ ?_;rotate_left
      ·exact zqt
      rotate_left
      ·exact zqs
      refine pure_ (i:=6) (N:=some 20) (v:=?_) (a':=?_) (zqb 11 125) rfl rfl (any_of HT_.out zqk) (fun _ _ _ h=>h) (Or.inl ⟨by rfl,?_⟩) ?_ ?_;rotate_left
      ·exact zqt
      rotate_left
      ·exact zqs
      refine take_ (i:=1) (N:=some 15) (v:=?_) (a':=?_) (zqb 11 127) rfl rfl (take_ofW HT_.out HW_.out zqk) (fun _ _ _ h=>h) (Or.inl ⟨by rfl,?_⟩) hHeld ?_ ?_;rotate_left
      ·rintro w' ⟨s0,s1⟩;go_simp;with_reducible rfl
      rotate_left
      ·exact zqs
      refine one_ (i:=7) (N:=some 21) (zqb 11 255) rfl rfl (one_of HT_.out zqk) (by decide) (fun K hK=>?_);refine value_ (w1:=?_) (v:=?_) (by rfl) rfl ?_ ?_;rotate_left 2
      ·go_simp
       constructor
       ·rfl
       ·rfl
      refine hK.out _ _ ⟨(blk_cell (blk_alloc a1.out _) 0).trans rfl,(blk_cell (blk_alloc a1.out _) 1).trans rfl⟩ (fun hHeld=>?_);clear hK K;refine norm_ (a':=?_) ?_ ?_;rotate_left
      ·show Act.put _ (some 21) _=_;exact zqs
      refine one_ (i:=8) (N:=some 22) (zqb 11 511) rfl rfl (one_of HT_.out zqk) (by decide) (fun K hK=>?_);refine Kd.R_append_step (Kd.int .i64) (w0:=w) w.heap.size (by rfl) (.tmp 15) (.tmp 21) 28 3 (.int .i64 0) 8 rfl Try.underlying28 info3 rfl (by decide) (by omega) a7 a3 (wrap64 ((wrap64 ((b0) - 1)) - a9)) [.int .i64 (wrap64 ((wrap64 ((b0) - 1)) - a9))] (fun _=>True) (fun _=>False) rfl rfl ?aP (fun _ hk=>hk.elim) ?aF ?aO ?aB ?aS ?aL ?_;(case aP=>exact rfl);(case aB=>exact zq148);(case aF=>exact(fun _ _=>trivial));(case aO=>exact(by(with_reducible repeat(first|apply Kd.R_alloc|apply Kd.R_drewN|apply Kd.R_drew));exact HO_210001.out));(case aS=>exact(below_size zq148));(case aL=>have:=LMc14.out;omega);intro g9 f5 ho hb hg hat;rw [← d2.out] at ho;replace HO_210000:=zqm (Kd.S_after (ok:=(fun _=>True)) (by(with_reducible repeat(first|apply Kd.S_alloc|apply Kd.S_drewN|apply Kd.S_drew));exact Kd.S_mono HO_210000.out (fun _ hk=>⟨trivial,hk⟩)) hg hat);replace a2:=zqm (blk_grown (g:=a4) (o:= .cells #[.slice none 0 0,.slice none 0 0] 30 (0,0)) zq15 hg (Kd.R_ne HO_210001.out a2.out (by decide)));replace a1:=zqm (blk_grown (g:=a5) (o:= .cells #[.slice b2 a6.length b3,a7] 30 (0,0)) zq16 hg (Kd.R_ne HO_210001.out a1.out (by decide)));replace HB:=zqm (hb);have c7:=zqm (ho);clear HO_210001;clear ho hb hg hat;obtain⟨c2,c3,d0⟩:=Kd.R_slice c7.out;(first|subst d0|(injection d0 with d9 f6 e0;have f7:=d9.symm;have f8:=e0.symm;clear d9 f6 e0;subst f7;subst f8));refine hK.out _ _ ⟨(blk_cell a1.out 0).trans rfl,(blk_cell a1.out 1).trans rfl⟩ (fun hHeld=>?_);clear hK K;refine norm_ (a':=?_) ?_ ?_;rotate_left
      ·show Act.put _ (some 22) _=_;exact zqs
      refine pure_ (i:=9) (N:=some 23) (v:=?_) (a':=?_) (zqb 11 1023) rfl rfl (any_of HT_.out zqk) (fun _ _ _ h=>h) (Or.inl ⟨by rfl,?_⟩) ?_ ?_;rotate_left
      ·exact zqt
      rotate_left
      ·exact zqs
      refine last_ (i:=10) (N:=none) (zqb 11 2047) rfl rfl (one_of HT_.out zqk) (by decide) (fun K hK=>?_);have hs18:f5.cell? ⟨a5,1,none⟩=some (a7):=(blk_cell a1.out 1).trans rfl;have hfs18:=blk_frozen a1.out 1;have hns18_0:=a8.out;have hms18_0:=b4.out;refine skip_ (w1:=?_) (by rfl) rfl ?_ ?_;rotate_left
      ·go_simp;rfl
      refine hK.out _ _ ?_;clear hK K;refine done_ (done_of HT_.out zqk) ?_;try go_wp2
      go_roundg k1
      (case measure=>have:=d8.out;omega);case rel=>exact⟨(wrap64 (a9+1)),(b9),(.slice c2 b9.length c3),(by first|rfl|(simp;done)|(simp [*];done)),H',⟨by have:=d8.out;omega⟩,⟨by(with_reducible repeat(first|apply Kd.S_alloc|apply Kd.S_drewN|apply Kd.S_drew));exact Kd.S_mono (Kd.S_far (p:=⟨a5,1,none⟩) (Kd.S_types HO_210000.out a1.out (by decide)) (fun _ hk=>hk.2) (.slice c2 b9.length c3)) (fun _ hk=>hk.1.2)⟩,⟨by(with_reducible repeat(first|apply Kd.R_alloc|apply Kd.R_drewN|apply Kd.R_drew));exact Kd.R_mono (Kd.R_far (p:=⟨a5,1,none⟩) (Kd.R_types c7.out a1.out (by decide)) (fun _ hk=>hk.2) (.slice c2 b9.length c3)) (fun _ hk=>trivial)⟩,⟨by(with_reducible repeat(first|refine blk_drewN ?_ _|refine blk_drew ?_|refine blk_alloc ?_ _));refine blk_far ?_ a8.out _;(with_reducible repeat(first|refine blk_drewN ?_ _|refine blk_drew ?_|refine blk_alloc ?_ _));exact a2.out⟩,⟨by(with_reducible repeat(first|refine blk_drewN ?_ _|refine blk_drew ?_|refine blk_alloc ?_ _));refine blk_put (cs:= #[.slice b2 a6.length b3,a7]) ?_ 1 _ rfl;(with_reducible repeat(first|refine blk_drewN ?_ _|refine blk_drew ?_|refine blk_alloc ?_ _));exact a1.out⟩,⟨zq148⟩⟩
     ·rw [if_neg c6] at H;exact absurd H (by simp)
    ·rw [if_neg c0] at H;have d1:decide (a9<(b0))=false:=decide_eq_false c0;clear c0;simp only [Option.some.injEq,Prod.mk.injEq] at H;obtain⟨rfl,rfl⟩:=H;have g2:=b4.out;have g3:=a8.out;have e2:wr.cell? ⟨a5,0,none⟩=some (.slice b2 a6.length b3):=(blk_cell a1.out 0).trans rfl;have e3:wr.cell? ⟨a5,1,none⟩=some (a7):=(blk_cell a1.out 1).trans rfl;have e4:=blk_frozen a1.out 0;have e5:=blk_frozen a1.out 1;have e6:wr.cell? ⟨a4,0,none⟩=some (.slice none 0 0):=(blk_cell a2.out 0).trans rfl;have e7:wr.cell? ⟨a4,1,none⟩=some (.slice none 0 0):=(blk_cell a2.out 1).trans rfl;have e8:=blk_frozen a2.out 0;have e9:=blk_frozen a2.out 1;obtain⟨c4,c5,e1⟩:=Kd.R_slice HO_210001.out;subst e1
     go_wp2
     refine bodyPost_ret (results_cell_row rfl _ _ a4 30 #[.slice b2 a6.length b3,.slice c4 a3.length c5] (0,0) _ rfl (by(with_reducible repeat(first|refine blk_drewN ?_ _|refine blk_drew ?_|refine blk_alloc ?_ _));refine blk_put (cs:= #[.slice b2 a6.length b3,.slice none 0 0]) ?_ 1 _ rfl;(with_reducible repeat(first|refine blk_drewN ?_ _|refine blk_drew ?_|refine blk_alloc ?_ _));refine blk_put (cs:= #[.slice none 0 0,.slice none 0 0]) ?_ 0 _ rfl;(with_reducible repeat(first|refine blk_drewN ?_ _|refine blk_drew ?_|refine blk_alloc ?_ _));exact a2.out) Try.underlying30 rfl zqk) rfl ?_;exact⟨_,_,by first|rfl|(simp [errW_none,errW_some] <;> rfl)|(simp only [← b6];first|rfl|(simp [errW_none,errW_some] <;> rfl))|(simp [*,errW_none,errW_some] <;> rfl),by(with_reducible repeat(first|apply Kd.S_alloc|apply Kd.S_drewN|apply Kd.S_drew));exact Kd.S_mono (Kd.S_far (p:=⟨a4,1,none⟩) (Kd.S_far (p:=⟨a4,0,none⟩) (Kd.S_types HO_210000.out a2.out (by decide)) (fun _ hk=>hk.2) (.slice b2 a6.length b3)) (fun _ hk=>hk.2) (.slice c4 a3.length c5)) (fun _ hk=>hk.1),by(with_reducible repeat(first|apply Kd.R_alloc|apply Kd.R_drewN|apply Kd.R_drew));exact Kd.R_mono (Kd.R_far (p:=⟨a4,1,none⟩) (Kd.R_far (p:=⟨a4,0,none⟩) (Kd.R_types HO_210001.out a2.out (by decide)) (fun _ hk=>hk.2) (.slice b2 a6.length b3)) (fun _ hk=>hk.2) (.slice c4 a3.length c5)) (fun _ hk=>trivial),zq148⟩
   ·rw [if_neg c9] at H;exact absurd H (by simp)
end Go.Proofs.Ytdoomkcgdcfmlaa.Print
end
section
namespace Go.Proofs.Ytdoomkcgdcfmlaa.Print
open Go.RowKit Go.Proofs.YtdoomkcgdcfmlaaW.PrintWords Go.Proofs.YtdoomkcgdcfmlaaW.PrintLast Go.Proofs.YtdoomkcgdcfmlaaW.PrintMore
attribute [local go_sem] max2_int min2_int max_two min_two max_three min_three max_four min_four   -- for this text's walks alone
mutual
def spec_l20Glued.l0 : Nat → Int → Int → Int → List (List Int) → List Int → List (List Int) → List Int → List (List Int) → List Int → Option ((List (List Int)) × List Int)
 | 0, _, _, _, _, _, _, _, _, _ => none
 | k + 1, x5, x6, x8, x214000, x214001, x215000, x215001, x217000, x217001 => if x8 < (wrap64 ((wrap64 (x5 + x6)) - 2)) then (spec_l20Glued.l1 k x5 x6 x8 (([] : List Int)) 0 x214000 x214001 x215000 x215001 x217000 x217001) else (some (x217000, x217001))
def spec_l20Glued.l1 : Nat → Int → Int → Int → List Int → Int → List (List Int) → List Int → List (List Int) → List Int → List (List Int) → List Int → Option ((List (List Int)) × List Int)
 | 0, _, _, _, _, _, _, _, _, _, _, _ => none
 | k + 1, x5, x6, x8, x9, x10, x214000, x214001, x215000, x215001, x217000, x217001 => if x10 < (wrap64 ((wrap64 (x5 + x6)) - 2)) then (if x8 = 0 then (spec_l20Glued.j2 k x5 x6 x8 x9 x10 0 true x214000 x214001 x215000 x215001 x217000 x217001) else (spec_l20Glued.j2 k x5 x6 x8 x9 x10 0 (x10 == (wrap64 ((wrap64 (x5 + x6)) - 3))) x214000 x214001 x215000 x215001 x217000 x217001)) else (if x217000.length < 5864062014805 then ((some (x217000 ++ [x9] : List (List Int))).bind fun y239 => (if x8 = 0 then (if x217001.length < 17592186044416 then (spec_l20Glued.l0 k x5 x6 (wrap64 (x8 + 1)) x214000 x214001 x215000 x215001 y239 (x217001 ++ [wrap64 ((wrap64 (x5 + x6)) - 3)])) else (none)) else (if x8 = (wrap64 ((wrap64 (x5 + x6)) - 3)) then (if x217001.length < 17592186044416 then (spec_l20Glued.l0 k x5 x6 (wrap64 (x8 + 1)) x214000 x214001 x215000 x215001 y239 (x217001 ++ [0])) else (none)) else (if x8 < (wrap64 (x5 - 1)) then (if 0 ≤ x8 then (if x8 < (x214001.length : Int) then (if x217001.length < 17592186044416 then (spec_l20Glued.l0 k x5 x6 (wrap64 (x8 + 1)) x214000 x214001 x215000 x215001 y239 (x217001 ++ [rd x214001 x8])) else (none)) else (none)) else (none)) else (if 0 ≤ (wrap64 ((wrap64 (x8 - x5)) + 2)) then (if (wrap64 ((wrap64 (x8 - x5)) + 2)) < (x215001.length : Int) then (if x217001.length < 17592186044416 then (spec_l20Glued.l0 k x5 x6 (wrap64 (x8 + 1)) x214000 x214001 x215000 x215001 y239 (x217001 ++ [wrap64 ((wrap64 ((rd x215001 (wrap64 ((wrap64 (x8 - x5)) + 2))) + x5)) - 2)])) else (none)) else (none)) else (none)))))) else (none))
def spec_l20Glued.j2 : Nat → Int → Int → Int → List Int → Int → Int → Bool → List (List Int) → List Int → List (List Int) → List Int → List (List Int) → List Int → Option ((List (List Int)) × List Int)
 | 0, _, _, _, _, _, _, _, _, _, _, _, _, _ => none
 | k + 1, x5, x6, x8, x9, x10, x11, x36, x214000, x214001, x215000, x215001, x217000, x217001 => if x36 = true then (if x9.length < 17592186044416 then (spec_l20Glued.l1 k x5 x6 x8 (x9 ++ [1]) (wrap64 (x10 + 1)) x214000 x214001 x215000 x215001 x217000 x217001) else (none)) else (if x8 < (wrap64 (x5 - 1)) then (spec_l20Glued.j3 k x5 x6 x8 x9 x10 x11 (decide (x10 < (wrap64 (x5 - 1)))) x214000 x214001 x215000 x215001 x217000 x217001) else (spec_l20Glued.j3 k x5 x6 x8 x9 x10 x11 false x214000 x214001 x215000 x215001 x217000 x217001))
def spec_l20Glued.j3 : Nat → Int → Int → Int → List Int → Int → Int → Bool → List (List Int) → List Int → List (List Int) → List Int → List (List Int) → List Int → Option ((List (List Int)) × List Int)
 | 0, _, _, _, _, _, _, _, _, _, _, _, _, _ => none
 | k + 1, x5, x6, x8, x9, x10, x11, x47, x214000, x214001, x215000, x215001, x217000, x217001 => if x47 = true then (if 0 ≤ x8 then (if x8 < (x214000.length : Int) then (if 0 ≤ x10 then (if x10 < ((rd_L3 x214000 x8).length : Int) then (if x9.length < 17592186044416 then (spec_l20Glued.l1 k x5 x6 x8 (x9 ++ [rd (rd_L3 x214000 x8) x10]) (wrap64 (x10 + 1)) x214000 x214001 x215000 x215001 x217000 x217001) else (none)) else (none)) else (none)) else (none)) else (none)) else (if x8 ≥ (wrap64 (x5 - 1)) then (if x10 ≥ (wrap64 (x5 - 1)) then (spec_l20Glued.j4 k x5 x6 x8 x9 x10 x11 (decide (x8 < (wrap64 ((wrap64 (x5 + x6)) - 3)))) x214000 x214001 x215000 x215001 x217000 x217001) else (spec_l20Glued.j4 k x5 x6 x8 x9 x10 x11 false x214000 x214001 x215000 x215001 x217000 x217001)) else (spec_l20Glued.j4 k x5 x6 x8 x9 x10 x11 false x214000 x214001 x215000 x215001 x217000 x217001))
def spec_l20Glued.j4 : Nat → Int → Int → Int → List Int → Int → Int → Bool → List (List Int) → List Int → List (List Int) → List Int → List (List Int) → List Int → Option ((List (List Int)) × List Int)
 | 0, _, _, _, _, _, _, _, _, _, _, _, _, _ => none
 | k + 1, x5, x6, x8, x9, x10, x11, x66, x214000, x214001, x215000, x215001, x217000, x217001 => if x66 = true then (if 0 ≤ (wrap64 ((wrap64 (x8 - x5)) + 2)) then (if (wrap64 ((wrap64 (x8 - x5)) + 2)) < (x215000.length : Int) then (if 0 ≤ (wrap64 ((wrap64 (x10 - x5)) + 2)) then (if (wrap64 ((wrap64 (x10 - x5)) + 2)) < ((rd_L3 x215000 (wrap64 ((wrap64 (x8 - x5)) + 2))).length : Int) then (if x9.length < 17592186044416 then (spec_l20Glued.l1 k x5 x6 x8 (x9 ++ [rd (rd_L3 x215000 (wrap64 ((wrap64 (x8 - x5)) + 2))) (wrap64 ((wrap64 (x10 - x5)) + 2))]) (wrap64 (x10 + 1)) x214000 x214001 x215000 x215001 x217000 x217001) else (none)) else (none)) else (none)) else (none)) else (none)) else (if x8 = x10 then (if x9.length < 17592186044416 then (spec_l20Glued.l1 k x5 x6 x8 (x9 ++ [1]) (wrap64 (x10 + 1)) x214000 x214001 x215000 x215001 x217000 x217001) else (none)) else (if x9.length < 17592186044416 then (spec_l20Glued.l1 k x5 x6 x8 (x9 ++ [x11]) (wrap64 (x10 + 1)) x214000 x214001 x215000 x215001 x217000 x217001) else (none)))
end
def spec_l20Glued.f (k : Nat) (l0_0 : List (List Int)) (l0_1 : List Int) (l1_0 : List (List Int)) (l1_1 : List Int) : Option ((List (List Int)) × List Int) := spec_l20Glued.l0 k (l0_1.length : Int) (l1_1.length : Int) 0 l0_0 l0_1 l1_0 l1_1 ([] : List (List Int)) ([] : List Int)
theorem spec_l20Glued.mono_l : ∀ k, (∀ y0 y1 y2 y3 y4 y5 y6 y7 y8, LeO (spec_l20Glued.l0 k y0 y1 y2 y3 y4 y5 y6 y7 y8) (spec_l20Glued.l0 (k + 1) y0 y1 y2 y3 y4 y5 y6 y7 y8)) ∧ (∀ y0 y1 y2 y3 y4 y5 y6 y7 y8 y9 y10, LeO (spec_l20Glued.l1 k y0 y1 y2 y3 y4 y5 y6 y7 y8 y9 y10) (spec_l20Glued.l1 (k + 1) y0 y1 y2 y3 y4 y5 y6 y7 y8 y9 y10)) ∧ (∀ y0 y1 y2 y3 y4 y5 y6 y7 y8 y9 y10 y11 y12, LeO (spec_l20Glued.j2 k y0 y1 y2 y3 y4 y5 y6 y7 y8 y9 y10 y11 y12) (spec_l20Glued.j2 (k + 1) y0 y1 y2 y3 y4 y5 y6 y7 y8 y9 y10 y11 y12)) ∧ (∀ y0 y1 y2 y3 y4 y5 y6 y7 y8 y9 y10 y11 y12, LeO (spec_l20Glued.j3 k y0 y1 y2 y3 y4 y5 y6 y7 y8 y9 y10 y11 y12) (spec_l20Glued.j3 (k + 1) y0 y1 y2 y3 y4 y5 y6 y7 y8 y9 y10 y11 y12)) ∧ (∀ y0 y1 y2 y3 y4 y5 y6 y7 y8 y9 y10 y11 y12, LeO (spec_l20Glued.j4 k y0 y1 y2 y3 y4 y5 y6 y7 y8 y9 y10 y11 y12) (spec_l20Glued.j4 (k + 1) y0 y1 y2 y3 y4 y5 y6 y7 y8 y9 y10 y11 y12))
 | 0 => ⟨fun _ _ _ _ _ _ _ _ _ r h => by simp [spec_l20Glued.l0] at h, fun _ _ _ _ _ _ _ _ _ _ _ r h => by simp [spec_l20Glued.l1] at h, fun _ _ _ _ _ _ _ _ _ _ _ _ _ r h => by simp [spec_l20Glued.j2] at h, fun _ _ _ _ _ _ _ _ _ _ _ _ _ r h => by simp [spec_l20Glued.j3] at h, fun _ _ _ _ _ _ _ _ _ _ _ _ _ r h => by simp [spec_l20Glued.j4] at h⟩
 | k + 1 => by
  obtain ⟨ih0, ih1, ih2, ih3, ih4⟩ := spec_l20Glued.mono_l k
  refine ⟨?_, ?_, ?_, ?_, ?_⟩
  ·intro y0 y1 y2 y3 y4 y5 y6 y7 y8
   unfold spec_l20Glued.l0
   repeat' first
   | (with_reducible exact ih0 _ _ _ _ _ _ _ _ _)
   | (with_reducible exact ih1 _ _ _ _ _ _ _ _ _ _ _)
   | (with_reducible exact ih2 _ _ _ _ _ _ _ _ _ _ _ _ _)
   | (with_reducible exact ih3 _ _ _ _ _ _ _ _ _ _ _ _ _)
   | (with_reducible exact ih4 _ _ _ _ _ _ _ _ _ _ _ _ _)
   | (with_reducible exact LeO.refl _)
   | (with_reducible exact LeO.none _)
   | (with_reducible refine LeO.ite ?_ ?_)
   | (with_reducible refine LeO.bind ?_ (fun _ => ?_))
   | exact ih0 _ _ _ _ _ _ _ _ _
   | exact ih1 _ _ _ _ _ _ _ _ _ _ _
   | exact ih2 _ _ _ _ _ _ _ _ _ _ _ _ _
   | exact ih3 _ _ _ _ _ _ _ _ _ _ _ _ _
   | exact ih4 _ _ _ _ _ _ _ _ _ _ _ _ _
   | exact LeO.none _
   | refine LeO.ite ?_ ?_
   | refine LeO.bind ?_ (fun _ => ?_)
  ·intro y0 y1 y2 y3 y4 y5 y6 y7 y8 y9 y10
   unfold spec_l20Glued.l1
   repeat' first
   | (with_reducible exact ih0 _ _ _ _ _ _ _ _ _)
   | (with_reducible exact ih1 _ _ _ _ _ _ _ _ _ _ _)
   | (with_reducible exact ih2 _ _ _ _ _ _ _ _ _ _ _ _ _)
   | (with_reducible exact ih3 _ _ _ _ _ _ _ _ _ _ _ _ _)
   | (with_reducible exact ih4 _ _ _ _ _ _ _ _ _ _ _ _ _)
   | (with_reducible exact LeO.refl _)
   | (with_reducible exact LeO.none _)
   | (with_reducible refine LeO.ite ?_ ?_)
   | (with_reducible refine LeO.bind ?_ (fun _ => ?_))
   | exact ih0 _ _ _ _ _ _ _ _ _
   | exact ih1 _ _ _ _ _ _ _ _ _ _ _
   | exact ih2 _ _ _ _ _ _ _ _ _ _ _ _ _
   | exact ih3 _ _ _ _ _ _ _ _ _ _ _ _ _
   | exact ih4 _ _ _ _ _ _ _ _ _ _ _ _ _
   | exact LeO.none _
   | refine LeO.ite ?_ ?_
   | refine LeO.bind ?_ (fun _ => ?_)
  ·intro y0 y1 y2 y3 y4 y5 y6 y7 y8 y9 y10 y11 y12
   unfold spec_l20Glued.j2
   repeat' first
   | (with_reducible exact ih0 _ _ _ _ _ _ _ _ _)
   | (with_reducible exact ih1 _ _ _ _ _ _ _ _ _ _ _)
   | (with_reducible exact ih2 _ _ _ _ _ _ _ _ _ _ _ _ _)
   | (with_reducible exact ih3 _ _ _ _ _ _ _ _ _ _ _ _ _)
   | (with_reducible exact ih4 _ _ _ _ _ _ _ _ _ _ _ _ _)
   | (with_reducible exact LeO.refl _)
   | (with_reducible exact LeO.none _)
   | (with_reducible refine LeO.ite ?_ ?_)
   | (with_reducible refine LeO.bind ?_ (fun _ => ?_))
   | exact ih0 _ _ _ _ _ _ _ _ _
   | exact ih1 _ _ _ _ _ _ _ _ _ _ _
   | exact ih2 _ _ _ _ _ _ _ _ _ _ _ _ _
   | exact ih3 _ _ _ _ _ _ _ _ _ _ _ _ _
   | exact ih4 _ _ _ _ _ _ _ _ _ _ _ _ _
   | exact LeO.none _
   | refine LeO.ite ?_ ?_
   | refine LeO.bind ?_ (fun _ => ?_)
  ·intro y0 y1 y2 y3 y4 y5 y6 y7 y8 y9 y10 y11 y12
   unfold spec_l20Glued.j3
   repeat' first
   | (with_reducible exact ih0 _ _ _ _ _ _ _ _ _)
   | (with_reducible exact ih1 _ _ _ _ _ _ _ _ _ _ _)
   | (with_reducible exact ih2 _ _ _ _ _ _ _ _ _ _ _ _ _)
   | (with_reducible exact ih3 _ _ _ _ _ _ _ _ _ _ _ _ _)
   | (with_reducible exact ih4 _ _ _ _ _ _ _ _ _ _ _ _ _)
   | (with_reducible exact LeO.refl _)
   | (with_reducible exact LeO.none _)
   | (with_reducible refine LeO.ite ?_ ?_)
   | (with_reducible refine LeO.bind ?_ (fun _ => ?_))
   | exact ih0 _ _ _ _ _ _ _ _ _
   | exact ih1 _ _ _ _ _ _ _ _ _ _ _
   | exact ih2 _ _ _ _ _ _ _ _ _ _ _ _ _
   | exact ih3 _ _ _ _ _ _ _ _ _ _ _ _ _
   | exact ih4 _ _ _ _ _ _ _ _ _ _ _ _ _
   | exact LeO.none _
   | refine LeO.ite ?_ ?_
   | refine LeO.bind ?_ (fun _ => ?_)
  ·intro y0 y1 y2 y3 y4 y5 y6 y7 y8 y9 y10 y11 y12
   unfold spec_l20Glued.j4
   repeat' first
   | (with_reducible exact ih0 _ _ _ _ _ _ _ _ _)
   | (with_reducible exact ih1 _ _ _ _ _ _ _ _ _ _ _)
   | (with_reducible exact ih2 _ _ _ _ _ _ _ _ _ _ _ _ _)
   | (with_reducible exact ih3 _ _ _ _ _ _ _ _ _ _ _ _ _)
   | (with_reducible exact ih4 _ _ _ _ _ _ _ _ _ _ _ _ _)
   | (with_reducible exact LeO.refl _)
   | (with_reducible exact LeO.none _)
   | (with_reducible refine LeO.ite ?_ ?_)
   | (with_reducible refine LeO.bind ?_ (fun _ => ?_))
   | exact ih0 _ _ _ _ _ _ _ _ _
   | exact ih1 _ _ _ _ _ _ _ _ _ _ _
   | exact ih2 _ _ _ _ _ _ _ _ _ _ _ _ _
   | exact ih3 _ _ _ _ _ _ _ _ _ _ _ _ _
   | exact ih4 _ _ _ _ _ _ _ _ _ _ _ _ _
   | exact LeO.none _
   | refine LeO.ite ?_ ?_
   | refine LeO.bind ?_ (fun _ => ?_)
theorem spec_l20Glued.mono : ∀ a0 a1 a2 a3 k, LeO (spec_l20Glued.f k a0 a1 a2 a3) (spec_l20Glued.f (k + 1) a0 a1 a2 a3) := by
 intro a0 a1 a2 a3 k
 obtain ⟨ih0, ih1, ih2, ih3, ih4⟩ := spec_l20Glued.mono_l k
 unfold spec_l20Glued.f
 repeat' first
   | (with_reducible exact ih0 _ _ _ _ _ _ _ _ _)
   | (with_reducible exact ih1 _ _ _ _ _ _ _ _ _ _ _)
   | (with_reducible exact ih2 _ _ _ _ _ _ _ _ _ _ _ _ _)
   | (with_reducible exact ih3 _ _ _ _ _ _ _ _ _ _ _ _ _)
   | (with_reducible exact ih4 _ _ _ _ _ _ _ _ _ _ _ _ _)
   | (with_reducible exact LeO.refl _)
   | (with_reducible exact LeO.none _)
   | (with_reducible refine LeO.ite ?_ ?_)
   | (with_reducible refine LeO.bind ?_ (fun _ => ?_))
   | exact ih0 _ _ _ _ _ _ _ _ _
   | exact ih1 _ _ _ _ _ _ _ _ _ _ _
   | exact ih2 _ _ _ _ _ _ _ _ _ _ _ _ _
   | exact ih3 _ _ _ _ _ _ _ _ _ _ _ _ _
   | exact ih4 _ _ _ _ _ _ _ _ _ _ _ _ _
   | exact LeO.none _
   | refine LeO.ite ?_ ?_
   | refine LeO.bind ?_ (fun _ => ?_)
def spec_l20Glued.T22 : Bool × List (List Nat × List Nat) := (true, [([], []), ([0], [0]), ([], []), ([2], [2]), ([], []), ([], []), ([4, 5], [4, 5]), ([6], [6]), ([3, 7], [3, 7]), ([8], [8]), ([], []), ([9, 10], [9, 10]), ([11], [11]), ([12], [12]), ([1, 13], [1, 13]), ([0, 1, 2, 3, 4, 5, 6, 7, 8, 9, 10, 11, 12, 13, 14], []), ([15, 14, 14, 0, 1, 2, 3, 4, 5, 6, 7, 8, 9, 10, 11, 12, 13, 14], [14, 15])])
def spec_l20Glued.B22 : List Nat := [0, 1, 0, 4, 0, 0, 48, 112, 252, 508, 0, 2044, 4092, 8188, 16383, 32767, 65535]
theorem spec_l20Glued.tab22 : rtab .any (opsOf Try.f125 22) = spec_l20Glued.T22 := by kernel_rfl
theorem spec_l20Glued.bits22 : waitsOk spec_l20Glued.T22.2 spec_l20Glued.B22 = true := by kernel_rfl
def spec_l20Glued.T28 : Bool × List (List Nat × List Nat) := (true, [([], []), ([0], [0]), ([], []), ([2], [2]), ([], []), ([3, 4], [3, 4]), ([5], [5]), ([6], [6]), ([1, 7], [1, 7]), ([0, 1, 2, 3, 4, 5, 6, 7, 8], []), ([9, 8, 8, 0, 1, 2, 3, 4, 5, 6, 7, 8], [8, 9])])
def spec_l20Glued.B28 : List Nat := [0, 1, 0, 4, 0, 28, 60, 124, 255, 511, 1023]
theorem spec_l20Glued.tab28 : rtab .any (opsOf Try.f125 28) = spec_l20Glued.T28 := by kernel_rfl
theorem spec_l20Glued.bits28 : waitsOk spec_l20Glued.T28.2 spec_l20Glued.B28 = true := by kernel_rfl
set_option maxHeartbeats 8000000 in
set_option maxRecDepth 100000 in
theorem spec_l20Glued.calls (k : Nat) (A0_0 : Option Addr) (c0_0 : Nat) (l0_0 : List (List Int)) (A0_1 : Option Addr) (c0_1 : Nat) (l0_1 : List Int) (A1_0 : Option Addr) (c1_0 : Nat) (l1_0 : List (List Int)) (A1_1 : Option Addr) (c1_1 : Nat) (l1_1 : List Int) (r1 : List (List Int)) (r2 : List Int) (w : World) (hr0_0 : Kd.C (Kd.slice 3 (Kd.int .i64)) w A0_0 l0_0.length l0_0) (hc0_0 : l0_0.length ≤ c0_0) (hr0_1 : Kd.C (Kd.int .i64) w A0_1 l0_1.length l0_1) (hc0_1 : l0_1.length ≤ c0_1) (hr1_0 : Kd.C (Kd.slice 3 (Kd.int .i64)) w A1_0 l1_0.length l1_0) (hc1_0 : l1_0.length ≤ c1_0) (hr1_1 : Kd.C (Kd.int .i64) w A1_1 l1_1.length l1_1) (hc1_1 : l1_1.length ≤ c1_1) (h : spec_l20Glued.f k l0_0 l0_1 l1_0 l1_1 = some (r1, r2)) :
  Calls Try.prog 125 #[.agg #[.slice A0_0 l0_0.length c0_0, .slice A0_1 l0_1.length c0_1], .agg #[.slice A1_0 l1_0.length c1_0, .slice A1_1 l1_1.length c1_1]] w fun e w' => ∃ v0_ v1_ : Value, e = .returned (.agg #[v0_, v1_]) ∧ Kd.S (Kd.slice 3 (Kd.int .i64)) 28 w' w.heap.size (fun k_ => some k_ ≠ (v1_ : Value).ownBlock) v0_ r1 ∧ Kd.R (Kd.int .i64) 3 w' w.heap.size (fun _ => True) v1_ r2 ∧ Below w.heap.size w w' := by
 have hu30:=Try.underlying30;have u5:=zqm hr0_0;have a4h:=zqm hc0_0;clear hr0_0 hc0_0;have u6:=zqm hr0_1;have a4i:=zqm hc0_1;clear hr0_1 hc0_1;have u7:=zqm hr1_0;have a4j:=zqm hc1_0;clear hr1_0 hc1_0;have u8:=zqm hr1_1;have a4k:=zqm hc1_1;clear hr1_1 hc1_1;have HB:=zqm (Below.refl w.heap.size w);have H:(spec_l20Glued.l0 k (l0_1.length:Int) (l1_1.length:Int) 0 l0_0 l0_1 l1_0 l1_1 ([]:List (List Int)) ([]:List Int))=some (r1,r2):=h;clear h;have H':=zqm H;clear H
 go_enter Try.func125,Try.ntmps125
 go_wp2_with (first|((with_reducible refine gate_dst (N:=2) rfl ?_);refine box_event ?hg (N:=2) ?hd (cs:= #[.slice A0_0 l0_0.length c0_0,.slice A0_1 l0_1.length c0_1]) (t:=30) ?hr ?_;(case hd=>rfl);(case hg=>rfl);(case hr=>first|(go_simp;done)|(go_simp;rfl));intro b7 hg w3 hbox hb;have d7:=zqm (below_step zq0 hb);have a2:=zqm (hbox);have a4l:=zqm ((by rw [hg];exact(below_size zq0):w.heap.size≤b7));have b1:=zqm ((by rw [hg];exact(below_size zq0):w.heap.size≤b7));clear HB;have HB:=d7;clear d7 hb hbox hg)|((with_reducible refine gate_dst (N:=3) rfl ?_);refine box_event ?hg (N:=3) ?hd (cs:= #[.slice A1_0 l1_0.length c1_0,.slice A1_1 l1_1.length c1_1]) (t:=30) ?hr ?_;(case hd=>rfl);(case hg=>rfl);(case hr=>first|(go_simp;done)|(go_simp;rfl));intro b8 hg w4 hbox hb;have d7:=zqm (blk_below (g:=b7) (o:= .cells #[.slice A0_0 l0_0.length c0_0,.slice A0_1 l0_1.length c0_1] 30 (0,0)) zq15 hb);have d8:=zqm (below_step zq3 hb);have a4:=zqm (hbox);have a4m:=zqm ((by rw [hg];exact(below_size zq3):w.heap.size≤b8));have b2:=zqm ((by rw [hg];exact(below_size zq3):w.heap.size≤b8));have e7:=zqm ((by rw [hg];exact Nat.ne_of_lt (blk_lt (g:=b7) (o:= .cells #[.slice A0_0 l0_0.length c0_0,.slice A0_1 l0_1.length c0_1] 30 (0,0)) zq15):b7≠b8));have e8:=zqm ((by rw [hg];exact Nat.ne_of_gt (blk_lt (g:=b7) (o:= .cells #[.slice A0_0 l0_0.length c0_0,.slice A0_1 l0_1.length c0_1] 30 (0,0)) zq15):b8≠b7));clear a2 HB;have a2:=d7;have HB:=d8;clear d7 d8 hb hbox hg)|((with_reducible refine gate_dst (N:=4) rfl ?_);refine box_event ?hg (N:=4) ?hd (cs:= #[.slice none 0 0,.slice none 0 0]) (t:=30) ?hr ?_;(case hd=>rfl);(case hg=>rfl);(case hr=>first|(go_simp;done)|(go_simp;rfl));intro b9 hg w5 hbox hb;have d7:=zqm (blk_below (g:=b7) (o:= .cells #[.slice A0_0 l0_0.length c0_0,.slice A0_1 l0_1.length c0_1] 30 (0,0)) zq15 hb);have d8:=zqm (blk_below (g:=b8) (o:= .cells #[.slice A1_0 l1_0.length c1_0,.slice A1_1 l1_1.length c1_1] 30 (0,0)) zq13 hb);have e4:=zqm (below_step zq286 hb);have a7:=zqm (hbox);have a4n:=zqm ((by rw [hg];exact(below_size zq286):w.heap.size≤b9));have b3:=zqm ((by rw [hg];exact(below_size zq286):w.heap.size≤b9));have e9:=zqm ((by rw [hg];exact Nat.ne_of_lt (blk_lt (g:=b7) (o:= .cells #[.slice A0_0 l0_0.length c0_0,.slice A0_1 l0_1.length c0_1] 30 (0,0)) zq15):b7≠b9));have f0:=zqm ((by rw [hg];exact Nat.ne_of_gt (blk_lt (g:=b7) (o:= .cells #[.slice A0_0 l0_0.length c0_0,.slice A0_1 l0_1.length c0_1] 30 (0,0)) zq15):b9≠b7));have f1:=zqm ((by rw [hg];exact Nat.ne_of_lt (blk_lt (g:=b8) (o:= .cells #[.slice A1_0 l1_0.length c1_0,.slice A1_1 l1_1.length c1_1] 30 (0,0)) zq13):b8≠b9));have f2:=zqm ((by rw [hg];exact Nat.ne_of_gt (blk_lt (g:=b8) (o:= .cells #[.slice A1_0 l1_0.length c1_0,.slice A1_1 l1_1.length c1_1] 30 (0,0)) zq13):b9≠b8));clear a2 a4 HB;have a2:=d7;have a4:=d8;have HB:=e4;clear d7 d8 e4 hb hbox hg;have a6l:=e7.out;have a6m:=e8.out;have a6n:=e9.out;have a6o:=f0.out;have a3a:w5.cell? ⟨b7,0,none⟩=some (.slice A0_0 l0_0.length c0_0):=(blk_cell a2.out 0).trans rfl;have a3b:w5.cell? ⟨b7,1,none⟩=some (.slice A0_1 l0_1.length c0_1):=(blk_cell a2.out 1).trans rfl;have a3c:=blk_frozen a2.out 0;have a3d:=blk_frozen a2.out 1;have a6p:=f1.out;have a6q:=f2.out;have a1b:w5.cell? ⟨b8,0,none⟩=some (.slice A1_0 l1_0.length c1_0):=(blk_cell a4.out 0).trans rfl;have a1c:w5.cell? ⟨b8,1,none⟩=some (.slice A1_1 l1_1.length c1_1):=(blk_cell a4.out 1).trans rfl;have a1d:=blk_frozen a4.out 0;have a1e:=blk_frozen a4.out 1)|((with_reducible refine gate_dst (N:=7) rfl ?_);refine box_event ?hg (N:=7) ?hd (cs:= #[.slice none 0 0,.slice none 0 0]) (t:=30) ?hr ?_;(case hd=>rfl);(case hg=>rfl);(case hr=>first|(go_simp;done)|(go_simp;rfl));intro a6 hg y9 hbox hb;have d7:=zqm (blk_below (g:=b7) (o:= .cells #[.slice A0_0 l0_0.length c0_0,.slice A0_1 l0_1.length c0_1] 30 (0,0)) zq15 hb);have d8:=zqm (blk_below (g:=b8) (o:= .cells #[.slice A1_0 l1_0.length c1_0,.slice A1_1 l1_1.length c1_1] 30 (0,0)) zq13 hb);have e4:=zqm (blk_below (g:=b9) (o:= .cells #[.slice none 0 0,.slice none 0 0] 30 (0,0)) zq33 hb);have e0:=zqm (below_step zq184 hb);have a0:=zqm (hbox);have a4o:=zqm ((by rw [hg];exact(below_size zq184):w.heap.size≤a6));have b4:=zqm ((by rw [hg];exact(below_size zq184):w.heap.size≤a6));have c0:=zqm ((by rw [hg];exact Nat.ne_of_lt (blk_lt (g:=b7) (o:= .cells #[.slice A0_0 l0_0.length c0_0,.slice A0_1 l0_1.length c0_1] 30 (0,0)) zq15):b7≠a6));have c5:=zqm ((by rw [hg];exact Nat.ne_of_gt (blk_lt (g:=b7) (o:= .cells #[.slice A0_0 l0_0.length c0_0,.slice A0_1 l0_1.length c0_1] 30 (0,0)) zq15):a6≠b7));have c1:=zqm ((by rw [hg];exact Nat.ne_of_lt (blk_lt (g:=b8) (o:= .cells #[.slice A1_0 l1_0.length c1_0,.slice A1_1 l1_1.length c1_1] 30 (0,0)) zq13):b8≠a6));have c6:=zqm ((by rw [hg];exact Nat.ne_of_gt (blk_lt (g:=b8) (o:= .cells #[.slice A1_0 l1_0.length c1_0,.slice A1_1 l1_1.length c1_1] 30 (0,0)) zq13):a6≠b8));have c2:=zqm ((by rw [hg];exact Nat.ne_of_lt (blk_lt (g:=b9) (o:= .cells #[.slice none 0 0,.slice none 0 0] 30 (0,0)) zq33):b9≠a6));have d1:=zqm ((by rw [hg];exact Nat.ne_of_gt (blk_lt (g:=b9) (o:= .cells #[.slice none 0 0,.slice none 0 0] 30 (0,0)) zq33):a6≠b9));clear a2 a4 a7 HB;have a2:=d7;have a4:=d8;have a7:=e4;have HB:=e0;clear d7 d8 e4 e0 hb hbox hg;have a4p:=c5.out;have a4q:=c0.out;have a4r:=c6.out;have a4s:=c1.out;have a4t:=d1.out;have a4u:=c2.out;have a1f:y9.cell? ⟨a6,0,none⟩=some (.slice none 0 0):=(blk_cell a0.out 0).trans rfl;have a1g:y9.cell? ⟨a6,1,none⟩=some (.slice none 0 0):=(blk_cell a0.out 1).trans rfl;have a1h:=blk_frozen a0.out 0;have a1i:=blk_frozen a0.out 1))
 go_loopg [8] k (fun kq v8 w'=> ∃(a5:Int) (a8:List (List Int)) (a3:List Int) (b0:Value) (a1:Value),v8= .int .i64 a5∧Aside0 (spec_l20Glued.l0 kq (l0_1.length:Int) (l1_1.length:Int) a5 l0_0 l0_1 l1_0 l1_1 a8 a3=some (r1,r2))∧Aside0 (kq≤k)∧Aside0 (Kd.S (Kd.slice 3 (Kd.int .i64)) 28 w' w.heap.size (fun k_=>some k_≠(a1:Value).ownBlock) b0 a8)∧Aside0 (Kd.R (Kd.int .i64) 3 w' w.heap.size (fun _=>True) a1 a3)∧Aside0 (w'.heap[b7]? =some (.cells #[(.slice A0_0 l0_0.length c0_0),(.slice A0_1 l0_1.length c0_1)] 30 (0,0)))∧Aside0 (w'.heap[b8]? =some (.cells #[(.slice A1_0 l1_0.length c1_0),(.slice A1_1 l1_1.length c1_1)] 30 (0,0)))∧Aside0 (w'.heap[b9]? =some (.cells #[(.slice none 0 0),(.slice none 0 0)] 30 (0,0)))∧Aside0 (w'.heap[a6]? =some (.cells #[b0,a1] 30 (0,0)))∧Aside0 (Below w.heap.size w w'))
 case atStart=>exact⟨(0),(([]:List (List Int))),(([]:List Int)),(.slice none 0 0),(.slice none 0 0),(by first|rfl|(simp;done)|(simp [*];done)),H',⟨Nat.le_refl _⟩,⟨zq285⟩,⟨zq174⟩,⟨by(with_reducible repeat(first|refine blk_drewN ?_ _|refine blk_drew ?_|refine blk_alloc ?_ _));refine blk_far ?_ c0.out _;(with_reducible repeat(first|refine blk_drewN ?_ _|refine blk_drew ?_|refine blk_alloc ?_ _));refine blk_far ?_ c0.out _;(with_reducible repeat(first|refine blk_drewN ?_ _|refine blk_drew ?_|refine blk_alloc ?_ _));exact a2.out⟩,⟨by(with_reducible repeat(first|refine blk_drewN ?_ _|refine blk_drew ?_|refine blk_alloc ?_ _));refine blk_far ?_ c1.out _;(with_reducible repeat(first|refine blk_drewN ?_ _|refine blk_drew ?_|refine blk_alloc ?_ _));refine blk_far ?_ c1.out _;(with_reducible repeat(first|refine blk_drewN ?_ _|refine blk_drew ?_|refine blk_alloc ?_ _));exact a4.out⟩,⟨by(with_reducible repeat(first|refine blk_drewN ?_ _|refine blk_drew ?_|refine blk_alloc ?_ _));refine blk_far ?_ c2.out _;(with_reducible repeat(first|refine blk_drewN ?_ _|refine blk_drew ?_|refine blk_alloc ?_ _));refine blk_far ?_ c2.out _;(with_reducible repeat(first|refine blk_drewN ?_ _|refine blk_drew ?_|refine blk_alloc ?_ _));exact a7.out⟩,⟨zq151⟩,⟨zq12⟩⟩
 case round=>
  clear H';obtain⟨a5,a8,a3,b0,a1,rfl,HA,d2,HO_217000,HO_217001,a2,a4,a7,a0,HB⟩:=hrel
  cases gk with
  |zero=>exact absurd HA.out (by simp [spec_l20Glued.l0])
  |succ k1=>
   have H:=HA.out;clear HA;simp only [spec_l20Glued.l0] at H
   by_cases k3:a5<(wrap64 ((wrap64 ((l0_1.length:Int)+(l1_1.length:Int))) - 2))
   ·rw [if_pos k3] at H;have v0:decide (a5<(wrap64 ((wrap64 ((l0_1.length:Int)+(l1_1.length:Int))) - 2)))=true:=decide_eq_true k3;clear k3;obtain⟨t0,f6⟩: ∃y_:List Int,y_=(([]:List Int)):=⟨_,rfl⟩;(replace H:(spec_l20Glued.l1 k1 (l0_1.length:Int) (l1_1.length:Int) a5 t0 0 l0_0 l0_1 l1_0 l1_1 a8 a3)=some (r1,r2):=by first|(rw [f6];with_reducible exact H)|(have c4:=(Option.bind_some _ _).symm.trans H;rw [f6];with_reducible exact c4)|(have c4:=(Option.bind_some _ _).symm.trans H;with_reducible exact c4)|with_reducible exact H|(rw [f6];exact H)|exact H);have p0:=zqm f6;clear f6;have H':=zqm H;clear H
    go_wp2_with (first|((with_reducible refine gate_dst (N:=27) rfl ?_);refine Kd.R_lit (Kd.int .i64) _ 3 ?hg (N:=27) ?hd (xs:=([]:List Int)) (inner:= []) (ok:=fun _=>True) (okp:=fun _=>True) ?hr ?hp (fun _ hk=>hk) trivial (Below.refl _ _) (Nat.le_refl _) (by simp) ?_;(case hd=>rfl);(case hg=>rfl);(case hr=>first|(go_simp;done)|(go_simp;rfl));(case hp=>exact(Reps.none _ _));intro a6r w17 f4 hb hg_ hnew_;clear hg_ hnew_;(first|rw [← p0.out] at f4|(simp only [Int.reduceToNat] at f4;rw [← p0.out] at f4));replace HO_217000:=zqm (Kd.S_elder' zq112 (Kd.R_base f4) hb);have d8:=zqm (Kd.R_elder' zq47 (Kd.R_base f4) hb);have v1:=zqm (Kd.R_lower (Kd.R_new' f4 (Kd.R_lt zq47)) (below_size zq12));replace a2:=zqm (blk_below (g:=b7) (o:= .cells #[.slice A0_0 l0_0.length c0_0,.slice A0_1 l0_1.length c0_1] 30 (0,0)) zq15 hb);replace a4:=zqm (blk_below (g:=b8) (o:= .cells #[.slice A1_0 l1_0.length c1_0,.slice A1_1 l1_1.length c1_1] 30 (0,0)) zq13 hb);replace a7:=zqm (blk_below (g:=b9) (o:= .cells #[.slice none 0 0,.slice none 0 0] 30 (0,0)) zq33 hb);replace a0:=zqm (blk_below (g:=a6) (o:= .cells #[b0,a1] 30 (0,0)) zq2 hb);replace HB:=zqm (below_step zq12 hb);clear HO_217001;have HO_217001:=d8;clear d8 hb f4))
    go_loopg [9,10] k1 (fun kq v9 v10 w'=> ∃(b6:List Int) (a9:Int),v10= .int .i64 a9∧Aside0 (spec_l20Glued.l1 kq (l0_1.length:Int) (l1_1.length:Int) a5 b6 a9 l0_0 l0_1 l1_0 l1_1 a8 a3=some (r1,r2))∧Aside0 (kq≤k1)∧Aside0 (Kd.R (Kd.int .i64) 3 w' w.heap.size (fun k_=>some k_≠(a1:Value).ownBlock) v9 b6)∧Aside0 (Kd.S (Kd.slice 3 (Kd.int .i64)) 28 w' w.heap.size (fun k_=>some k_≠(v9:Value).ownBlock∧some k_≠(a1:Value).ownBlock) b0 a8)∧Aside0 (Kd.R (Kd.int .i64) 3 w' w.heap.size (fun k_=>some k_≠(v9:Value).ownBlock) a1 a3)∧Aside0 (w'.heap[b7]? =some (.cells #[(.slice A0_0 l0_0.length c0_0),(.slice A0_1 l0_1.length c0_1)] 30 (0,0)))∧Aside0 (w'.heap[b8]? =some (.cells #[(.slice A1_0 l1_0.length c1_0),(.slice A1_1 l1_1.length c1_1)] 30 (0,0)))∧Aside0 (w'.heap[b9]? =some (.cells #[(.slice none 0 0),(.slice none 0 0)] 30 (0,0)))∧Aside0 (w'.heap[a6]? =some (.cells #[b0,a1] 30 (0,0)))∧Aside0 (Below w.heap.size w w'))
    case atStart=>exact⟨(t0),(0),(by first|rfl|(simp;done)|(simp [*];done)),H',⟨Nat.le_refl _⟩,⟨by(with_reducible repeat(first|apply Kd.R_alloc|apply Kd.R_drewN|apply Kd.R_drew));exact Kd.R_mono v1.out (fun _ hk=>hk.2)⟩,⟨zq81⟩,⟨zq160⟩,⟨zq15⟩,⟨zq13⟩,⟨zq33⟩,⟨zq2⟩,⟨zq12⟩⟩
    case round=>
     clear H';obtain⟨b6,a9,rfl,HA,d3,HO_9,HO_217000,HO_217001,a2,a4,a7,a0,HB⟩:=hrel
     cases gk with
     |zero=>exact absurd HA.out (by simp [spec_l20Glued.l1])
     |succ k2=>
      have H:=HA.out;clear HA;simp only [spec_l20Glued.l1] at H
      by_cases k4:a9<(wrap64 ((wrap64 ((l0_1.length:Int)+(l1_1.length:Int))) - 2))
      ·rw [if_pos k4] at H;have v2:decide (a9<(wrap64 ((wrap64 ((l0_1.length:Int)+(l1_1.length:Int))) - 2)))=true:=decide_eq_true k4;clear k4;have n0:=zqm H;clear H
       go_upto_region 12 with (fail)
       go_cut [36] (fun v36 wc=> ∃(kq:Nat) (f7:Bool),v36= .bool f7∧Aside0 (spec_l20Glued.j2 kq (l0_1.length:Int) (l1_1.length:Int) a5 b6 a9 0 f7 l0_0 l0_1 l1_0 l1_1 a8 a3=some (r1,r2))∧Aside0 (kq≤k2)∧Aside0 (Kd.R (Kd.int .i64) 3 wc w.heap.size (fun k_=>some k_≠(a1:Value).ownBlock) u9 b6)∧Aside0 (Kd.S (Kd.slice 3 (Kd.int .i64)) 28 wc w.heap.size (fun k_=>some k_≠(u9:Value).ownBlock∧some k_≠(a1:Value).ownBlock) b0 a8)∧Aside0 (Kd.R (Kd.int .i64) 3 wc w.heap.size (fun k_=>some k_≠(u9:Value).ownBlock) a1 a3)∧Aside0 (wc.heap[b7]? =some (.cells #[(.slice A0_0 l0_0.length c0_0),(.slice A0_1 l0_1.length c0_1)] 30 (0,0)))∧Aside0 (wc.heap[b8]? =some (.cells #[(.slice A1_0 l1_0.length c1_0),(.slice A1_1 l1_1.length c1_1)] 30 (0,0)))∧Aside0 (wc.heap[b9]? =some (.cells #[(.slice none 0 0),(.slice none 0 0)] 30 (0,0)))∧Aside0 (wc.heap[a6]? =some (.cells #[b0,a1] 30 (0,0)))∧Aside0 (Below w.heap.size w wc))
       case first=>
        have H:=n0.out;clear n0
        by_cases i6:a5=0
        ·rw [if_pos i6] at H;have f8:(a5==0)=true:=beq_iff_eq.mpr i6;have v3:(a5 !=0)=false:=bne_eq_false_iff_eq.mpr i6;clear i6;(first|rw [f8]|(simp only [i64_w,i32_w];rw [f8])|skip);have H':=zqm H;clear H
         go_wp2
         go_meet
         case rel=>exact⟨_,(true),(by first|rfl|(simp;done)|(simp [*];done)),H',⟨by have:=d2.out;have:=d3.out;first|omega|exact Nat.le_refl _⟩,⟨zq103⟩,⟨zq112⟩,⟨zq47⟩,⟨zq15⟩,⟨zq13⟩,⟨zq33⟩,⟨zq2⟩,⟨zq12⟩⟩
        ·rw [if_neg i6] at H;have f8:(a5==0)=false:=beq_eq_false_iff_ne.mpr i6;have v3:(a5 !=0)=true:=bne_iff_ne.mpr i6;(first|rw [f8]|(simp only [i64_w,i32_w];rw [f8])|skip);have H':=zqm H;clear H
         go_wp2
         go_meet
         case rel=>exact⟨_,((a9==(wrap64 ((wrap64 ((l0_1.length:Int)+(l1_1.length:Int))) - 3)))),(by first|rfl|(simp;done)|(simp [*];done)),H',⟨by have:=d2.out;have:=d3.out;first|omega|exact Nat.le_refl _⟩,⟨zq103⟩,⟨zq112⟩,⟨zq47⟩,⟨zq15⟩,⟨zq13⟩,⟨zq33⟩,⟨zq2⟩,⟨zq12⟩⟩
       case rest=>
        clear n0;obtain⟨kq,f7,rfl,HA,d6,HO_9,HO_217000,HO_217001,a2,a4,a7,a0,HB⟩:=hcut
        cases kq with
        |zero=>exact absurd HA.out (by simp [spec_l20Glued.j2])
        |succ h3=>
         have H:=HA.out;clear HA;simp only [spec_l20Glued.j2] at H
         by_cases p1:f7=true
         ·subst p1;(have H1:(if b6.length<17592186044416 then(spec_l20Glued.l1 h3 (l0_1.length:Int) (l1_1.length:Int) a5 (b6 ++ [1]) (wrap64 (a9+1)) l0_0 l0_1 l1_0 l1_1 a8 a3) else(none))=some (r1,r2):=by rw [if_pos rfl] at H;exact H);clear H;have H:=H1;clear H1
          by_cases p2:b6.length<17592186044416
          ·rw [if_pos p2] at H;have LMc23:=zqm p2;clear p2;obtain⟨t1,f9⟩: ∃y_:List Int,y_=(b6 ++ [1]):=⟨_,rfl⟩;(replace H:(spec_l20Glued.l1 h3 (l0_1.length:Int) (l1_1.length:Int) a5 t1 (wrap64 (a9+1)) l0_0 l0_1 l1_0 l1_1 a8 a3)=some (r1,r2):=by first|(rw [f9];with_reducible exact H)|(have c4:=(Option.bind_some _ _).symm.trans H;rw [f9];with_reducible exact c4)|(have c4:=(Option.bind_some _ _).symm.trans H;with_reducible exact c4)|with_reducible exact H|(rw [f9];exact H)|exact H);have v4:=zqm f9;clear f9;have H':=zqm H;clear H
           go_wp2_with (first|((with_reducible refine gate_builtin (b:= .append) (xs:= #[.tmp 103,.tmp 105]) rfl ?_);at_builtin;refine Kd.R_append (Kd.int .i64) (w0:=w) w.heap.size rfl (.tmp 103) (.tmp 105) 28 3 (.int .i64 0) 8 rfl Try.underlying28 info3 rfl (by decide) (by omega) u9 b6 1 [.int .i64 1] (fun k_=>some k_≠(a1:Value).ownBlock) (fun _=>False) rfl rfl ?aP (fun _ hk=>hk.elim) ?aF ?aO ?aB ?aS ?aL ?_;(case aP=>exact rfl);(case aB=> exact zq37);(case aF=> exact zq87);(case aO=> exact zq179);(case aS=> exact zq31);(case aL=>have:=LMc23.out;omega);intro a6s w24 ho hb hg hat;rw [← v4.out] at ho;replace HO_217000:=zqm (Kd.S_after (ok:=(fun k_=>some k_≠(a1:Value).ownBlock)) zq81 hg hat);replace HO_217001:=zqm (Kd.R_after (ok:=(fun _=>True)) zq169 hg hat);replace a2:=zqm (blk_grown (g:=b7) (o:= .cells #[.slice A0_0 l0_0.length c0_0,.slice A0_1 l0_1.length c0_1] 30 (0,0)) zq15 hg (Kd.R_ne HO_9.out a2.out (by decide)));replace a4:=zqm (blk_grown (g:=b8) (o:= .cells #[.slice A1_0 l1_0.length c1_0,.slice A1_1 l1_1.length c1_1] 30 (0,0)) zq13 hg (Kd.R_ne HO_9.out a4.out (by decide)));replace a7:=zqm (blk_grown (g:=b9) (o:= .cells #[.slice none 0 0,.slice none 0 0] 30 (0,0)) zq33 hg (Kd.R_ne HO_9.out a7.out (by decide)));replace a0:=zqm (blk_grown (g:=a6) (o:= .cells #[b0,a1] 30 (0,0)) zq2 hg (Kd.R_ne HO_9.out a0.out (by decide)));replace HB:=zqm (hb);have v5:=zqm (ho);clear HO_9;clear ho hb hg hat))
           go_roundg h3
           (case measure=>have:=d2.out;have:=d3.out;have:=d6.out;omega);case rel=>exact⟨(t1),(wrap64 (a9+1)),(by first|rfl|(simp;done)|(simp [*];done)),H',⟨by have:=d2.out;have:=d3.out;have:=d6.out;omega⟩,⟨by(with_reducible repeat(first|apply Kd.R_alloc|apply Kd.R_drewN|apply Kd.R_drew));exact v5.out⟩,⟨zq81⟩,⟨zq160⟩,⟨zq15⟩,⟨zq13⟩,⟨zq33⟩,⟨zq2⟩,⟨zq12⟩⟩
          ·rw [if_neg p2] at H;exact absurd H (by simp)
         ·replace p1:=Bool.eq_false_iff.mpr p1;subst p1;(have H1:(if a5<(wrap64 ((l0_1.length:Int) - 1)) then(spec_l20Glued.j3 h3 (l0_1.length:Int) (l1_1.length:Int) a5 b6 a9 0 (decide (a9<(wrap64 ((l0_1.length:Int) - 1)))) l0_0 l0_1 l1_0 l1_1 a8 a3) else(spec_l20Glued.j3 h3 (l0_1.length:Int) (l1_1.length:Int) a5 b6 a9 0 false l0_0 l0_1 l1_0 l1_1 a8 a3))=some (r1,r2):=by rw [if_neg (show¬(false=true) by decide)] at H;exact H);clear H;have H:=H1;clear H1;have n1:=zqm H;clear H
          go_upto_region 14 with (fail)
          go_cut [47] (fun v47 wc=> ∃(kq:Nat) (g0:Bool),v47= .bool g0∧Aside0 (spec_l20Glued.j3 kq (l0_1.length:Int) (l1_1.length:Int) a5 b6 a9 0 g0 l0_0 l0_1 l1_0 l1_1 a8 a3=some (r1,r2))∧Aside0 (kq≤h3)∧Aside0 (Kd.R (Kd.int .i64) 3 wc w.heap.size (fun k_=>some k_≠(a1:Value).ownBlock) u9 b6)∧Aside0 (Kd.S (Kd.slice 3 (Kd.int .i64)) 28 wc w.heap.size (fun k_=>some k_≠(u9:Value).ownBlock∧some k_≠(a1:Value).ownBlock) b0 a8)∧Aside0 (Kd.R (Kd.int .i64) 3 wc w.heap.size (fun k_=>some k_≠(u9:Value).ownBlock) a1 a3)∧Aside0 (wc.heap[b7]? =some (.cells #[(.slice A0_0 l0_0.length c0_0),(.slice A0_1 l0_1.length c0_1)] 30 (0,0)))∧Aside0 (wc.heap[b8]? =some (.cells #[(.slice A1_0 l1_0.length c1_0),(.slice A1_1 l1_1.length c1_1)] 30 (0,0)))∧Aside0 (wc.heap[b9]? =some (.cells #[(.slice none 0 0),(.slice none 0 0)] 30 (0,0)))∧Aside0 (wc.heap[a6]? =some (.cells #[b0,a1] 30 (0,0)))∧Aside0 (Below w.heap.size w wc))
          case first=>
           have H:=n1.out;clear n1
           by_cases k5:a5<(wrap64 ((l0_1.length:Int) - 1))
           ·rw [if_pos k5] at H;have g1:decide (a5<(wrap64 ((l0_1.length:Int) - 1)))=true:=decide_eq_true k5;clear k5;(first|rw [g1]|(simp only [i64_w,i32_w];rw [g1])|skip);have H':=zqm H;clear H
            go_wp2
            go_meet
            case rel=>exact⟨_,(decide (a9<(wrap64 ((l0_1.length:Int) - 1)))),(by first|rfl|(simp;done)|(simp [*];done)),H',⟨zq419⟩,⟨zq103⟩,⟨zq112⟩,⟨zq47⟩,⟨zq15⟩,⟨zq13⟩,⟨zq33⟩,⟨zq2⟩,⟨zq12⟩⟩
           ·rw [if_neg k5] at H;have g1:decide (a5<(wrap64 ((l0_1.length:Int) - 1)))=false:=decide_eq_false k5;clear k5;(first|rw [g1]|(simp only [i64_w,i32_w];rw [g1])|skip);have H':=zqm H;clear H
            go_wp2
            go_meet
            case rel=>exact⟨_,(false),(by first|rfl|(simp;done)|(simp [*];done)),H',⟨zq419⟩,⟨zq103⟩,⟨zq112⟩,⟨zq47⟩,⟨zq15⟩,⟨zq13⟩,⟨zq33⟩,⟨zq2⟩,⟨zq12⟩⟩
          case rest=>
           clear n1;obtain⟨kq,g0,rfl,HA,e1,HO_9,HO_217000,HO_217001,a2,a4,a7,a0,HB⟩:=hcut
           cases kq with
           |zero=>exact absurd HA.out (by simp [spec_l20Glued.j3])
           |succ f5=>
            have H:=HA.out;clear HA;simp only [spec_l20Glued.j3] at H
            by_cases p3:g0=true
            ·subst p3;(have H1:(if 0≤a5 then(if a5<(l0_0.length:Int) then(if 0≤a9 then(if a9<((rd_L3 l0_0 a5).length:Int) then(if b6.length<17592186044416 then(spec_l20Glued.l1 f5 (l0_1.length:Int) (l1_1.length:Int) a5 (b6 ++ [rd (rd_L3 l0_0 a5) a9]) (wrap64 (a9+1)) l0_0 l0_1 l1_0 l1_1 a8 a3) else(none)) else(none)) else(none)) else(none)) else(none))=some (r1,r2):=by rw [if_pos rfl] at H;exact H);clear H;have H:=H1;clear H1
             by_cases p4:0≤a5
             ·rw [if_pos p4] at H;have a4v:decide (0≤a5)=true:=decide_eq_true p4;clear p4
              by_cases p5:a5<(l0_0.length:Int)
              ·rw [if_pos p5] at H;have a4w:decide (a5<(l0_0.length:Int))=true:=decide_eq_true p5;clear p5
               by_cases p6:0≤a9
               ·rw [if_pos p6] at H;have a4x:decide (0≤a9)=true:=decide_eq_true p6;clear p6
                by_cases p7:a9<((rd_L3 l0_0 a5).length:Int)
                ·rw [if_pos p7] at H;have a4y:decide (a9<((rd_L3 l0_0 a5).length:Int))=true:=decide_eq_true p7;clear p7
                 by_cases p8:b6.length<17592186044416
                 ·rw [if_pos p8] at H;have LMc32:=zqm p8;clear p8;obtain⟨t2,g2⟩: ∃y_:List Int,y_=(b6 ++ [rd (rd_L3 l0_0 a5) a9]):=⟨_,rfl⟩;(replace H:(spec_l20Glued.l1 f5 (l0_1.length:Int) (l1_1.length:Int) a5 t2 (wrap64 (a9+1)) l0_0 l0_1 l1_0 l1_1 a8 a3)=some (r1,r2):=by first|(rw [g2];with_reducible exact H)|(have c4:=(Option.bind_some _ _).symm.trans H;rw [g2];with_reducible exact c4)|(have c4:=(Option.bind_some _ _).symm.trans H;with_reducible exact c4)|with_reducible exact H|(rw [g2];exact H)|exact H);have v6:=zqm g2;clear g2;have H':=zqm H;clear H;have a4z:=e7.out;have a5a:=e8.out;have a5b:=e9.out;have a5c:=f0.out;have a5d:=c0.out;have a5e:=c5.out;have a1j:wc.cell? ⟨b7,0,none⟩=some (.slice A0_0 l0_0.length c0_0):=(blk_cell a2.out 0).trans rfl;have a1k:wc.cell? ⟨b7,1,none⟩=some (.slice A0_1 l0_1.length c0_1):=(blk_cell a2.out 1).trans rfl;have a1l:=blk_frozen a2.out 0;have a1m:=blk_frozen a2.out 1;have n2:0≤(a5:Int):=zqo;have n3:a5<(l0_0.length:Int):=zqo;obtain⟨v7,a3h,a3i,z4,h4,k6,k7⟩:=at_L3 u5.out a5 n2 n3
                  cases z4
                  replace h4:=(HB.out.cell (World.block_lt_of_cell? w _ h4)).trans h4;have s8:=zqm k7;have a1n:=zqm k6;clear k7 k6;replace n2:=eq_true n2;replace n3:=eq_true n3;have n4:0≤(a9:Int):=zqo;have n5:a9<((rd_L3 l0_0 a5).length:Int):=zqo;obtain⟨a5f,z5,h5⟩:=Kd.at_int s8.out a9 n4 n5
                  cases z5
                  replace h5:=(HB.out.cell (World.block_lt_of_cell? w _ h5)).trans h5;replace n4:=eq_true n4;replace n5:=eq_true n5
                  go_wp2_with (first|((with_reducible refine gate_builtin (b:= .append) (xs:= #[.tmp 103,.tmp 105]) rfl ?_);at_builtin;refine Kd.R_append (Kd.int .i64) (w0:=w) w.heap.size rfl (.tmp 103) (.tmp 105) 28 3 (.int .i64 0) 8 rfl Try.underlying28 info3 rfl (by decide) (by omega) u9 b6 (rd (rd_L3 l0_0 a5) a9) [.int .i64 (rd (rd_L3 l0_0 a5) a9)] (fun k_=>some k_≠(a1:Value).ownBlock) (fun _=>False) rfl rfl ?aP (fun _ hk=>hk.elim) ?aF ?aO ?aB ?aS ?aL ?_;(case aP=>exact rfl);(case aB=> exact zq37);(case aF=> exact zq87);(case aO=> exact zq179);(case aS=> exact zq31);(case aL=>have:=LMc32.out;omega);intro a6t w37 ho hb hg hat;rw [← v6.out] at ho;replace HO_217000:=zqm (Kd.S_after (ok:=(fun k_=>some k_≠(a1:Value).ownBlock)) zq81 hg hat);replace HO_217001:=zqm (Kd.R_after (ok:=(fun _=>True)) zq169 hg hat);replace a2:=zqm (blk_grown (g:=b7) (o:= .cells #[.slice (some v7) l0_0.length c0_0,.slice A0_1 l0_1.length c0_1] 30 (0,0)) zq15 hg (Kd.R_ne HO_9.out a2.out (by decide)));replace a4:=zqm (blk_grown (g:=b8) (o:= .cells #[.slice A1_0 l1_0.length c1_0,.slice A1_1 l1_1.length c1_1] 30 (0,0)) zq13 hg (Kd.R_ne HO_9.out a4.out (by decide)));replace a7:=zqm (blk_grown (g:=b9) (o:= .cells #[.slice none 0 0,.slice none 0 0] 30 (0,0)) zq33 hg (Kd.R_ne HO_9.out a7.out (by decide)));replace a0:=zqm (blk_grown (g:=a6) (o:= .cells #[b0,a1] 30 (0,0)) zq2 hg (Kd.R_ne HO_9.out a0.out (by decide)));replace HB:=zqm (hb);have w2:=zqm (ho);clear HO_9;clear ho hb hg hat))
                  go_roundg f5
                  (case measure=>have:=d2.out;have:=d3.out;have:=d6.out;have:=e1.out;omega);case rel=>exact⟨(t2),(wrap64 (a9+1)),(by first|rfl|(simp;done)|(simp [*];done)),H',⟨by have:=d2.out;have:=d3.out;have:=d6.out;have:=e1.out;omega⟩,⟨by(with_reducible repeat(first|apply Kd.R_alloc|apply Kd.R_drewN|apply Kd.R_drew));exact w2.out⟩,⟨zq81⟩,⟨zq160⟩,⟨zq15⟩,⟨zq13⟩,⟨zq33⟩,⟨zq2⟩,⟨zq12⟩⟩
                 ·rw [if_neg p8] at H;exact absurd H (by simp)
                ·rw [if_neg p7] at H;exact absurd H (by simp)
               ·rw [if_neg p6] at H;exact absurd H (by simp)
              ·rw [if_neg p5] at H;exact absurd H (by simp)
             ·rw [if_neg p4] at H;exact absurd H (by simp)
            ·replace p3:=Bool.eq_false_iff.mpr p3;subst p3;(have H1:(if a5≥(wrap64 ((l0_1.length:Int) - 1)) then(if a9≥(wrap64 ((l0_1.length:Int) - 1)) then(spec_l20Glued.j4 f5 (l0_1.length:Int) (l1_1.length:Int) a5 b6 a9 0 (decide (a5<(wrap64 ((wrap64 ((l0_1.length:Int)+(l1_1.length:Int))) - 3)))) l0_0 l0_1 l1_0 l1_1 a8 a3) else(spec_l20Glued.j4 f5 (l0_1.length:Int) (l1_1.length:Int) a5 b6 a9 0 false l0_0 l0_1 l1_0 l1_1 a8 a3)) else(spec_l20Glued.j4 f5 (l0_1.length:Int) (l1_1.length:Int) a5 b6 a9 0 false l0_0 l0_1 l1_0 l1_1 a8 a3))=some (r1,r2):=by rw [if_neg (show¬(false=true) by decide)] at H;exact H);clear H;have H:=H1;clear H1;have n6:=zqm H;clear H
             go_upto_region 16 with (fail)
             go_cut [66] (fun v66 wc=> ∃(kq:Nat) (g3:Bool),v66= .bool g3∧Aside0 (spec_l20Glued.j4 kq (l0_1.length:Int) (l1_1.length:Int) a5 b6 a9 0 g3 l0_0 l0_1 l1_0 l1_1 a8 a3=some (r1,r2))∧Aside0 (kq≤f5)∧Aside0 (Kd.R (Kd.int .i64) 3 wc w.heap.size (fun k_=>some k_≠(a1:Value).ownBlock) u9 b6)∧Aside0 (Kd.S (Kd.slice 3 (Kd.int .i64)) 28 wc w.heap.size (fun k_=>some k_≠(u9:Value).ownBlock∧some k_≠(a1:Value).ownBlock) b0 a8)∧Aside0 (Kd.R (Kd.int .i64) 3 wc w.heap.size (fun k_=>some k_≠(u9:Value).ownBlock) a1 a3)∧Aside0 (wc.heap[b7]? =some (.cells #[(.slice A0_0 l0_0.length c0_0),(.slice A0_1 l0_1.length c0_1)] 30 (0,0)))∧Aside0 (wc.heap[b8]? =some (.cells #[(.slice A1_0 l1_0.length c1_0),(.slice A1_1 l1_1.length c1_1)] 30 (0,0)))∧Aside0 (wc.heap[b9]? =some (.cells #[(.slice none 0 0),(.slice none 0 0)] 30 (0,0)))∧Aside0 (wc.heap[a6]? =some (.cells #[b0,a1] 30 (0,0)))∧Aside0 (Below w.heap.size w wc))
             case first=>
              have H:=n6.out;clear n6
              by_cases k8:a5≥(wrap64 ((l0_1.length:Int) - 1))
              ·rw [if_pos k8] at H;have g4:decide ((wrap64 ((l0_1.length:Int) - 1))≤a5)=true:=decide_eq_true k8;clear k8;(first|rw [g4]|(simp only [i64_w,i32_w];rw [g4])|skip)
               by_cases k9:a9≥(wrap64 ((l0_1.length:Int) - 1))
               ·rw [if_pos k9] at H;have w6:decide ((wrap64 ((l0_1.length:Int) - 1))≤a9)=true:=decide_eq_true k9;clear k9;have H':=zqm H;clear H
                go_wp2
                go_meet
                case rel=>exact⟨_,(decide (a5<(wrap64 ((wrap64 ((l0_1.length:Int)+(l1_1.length:Int))) - 3)))),(by first|rfl|(simp;done)|(simp [*];done)),H',⟨zq375⟩,⟨zq103⟩,⟨zq112⟩,⟨zq47⟩,⟨zq15⟩,⟨zq13⟩,⟨zq33⟩,⟨zq2⟩,⟨zq12⟩⟩
               ·rw [if_neg k9] at H;have w6:decide ((wrap64 ((l0_1.length:Int) - 1))≤a9)=false:=decide_eq_false k9;clear k9;have H':=zqm H;clear H
                go_wp2
                go_meet
                case rel=>exact⟨_,(false),(by first|rfl|(simp;done)|(simp [*];done)),H',⟨zq375⟩,⟨zq103⟩,⟨zq112⟩,⟨zq47⟩,⟨zq15⟩,⟨zq13⟩,⟨zq33⟩,⟨zq2⟩,⟨zq12⟩⟩
              ·rw [if_neg k8] at H;have g4:decide ((wrap64 ((l0_1.length:Int) - 1))≤a5)=false:=decide_eq_false k8;clear k8;(first|rw [g4]|(simp only [i64_w,i32_w];rw [g4])|skip);have H':=zqm H;clear H
               go_wp2
               go_meet
               case rel=>exact⟨_,(false),(by first|rfl|(simp;done)|(simp [*];done)),H',⟨zq375⟩,⟨zq103⟩,⟨zq112⟩,⟨zq47⟩,⟨zq15⟩,⟨zq13⟩,⟨zq33⟩,⟨zq2⟩,⟨zq12⟩⟩
             case rest=>
              clear n6;obtain⟨kq,g3,rfl,HA,h6,HO_9,HO_217000,HO_217001,a2,a4,a7,a0,HB⟩:=hcut
              cases kq with
              |zero=>exact absurd HA.out (by simp [spec_l20Glued.j4])
              |succ e2=>
               have H:=HA.out;clear HA;simp only [spec_l20Glued.j4] at H
               by_cases p9:g3=true
               ·subst p9;(have H1:(if 0≤(wrap64 ((wrap64 (a5 - (l0_1.length:Int)))+2)) then(if(wrap64 ((wrap64 (a5 - (l0_1.length:Int)))+2))<(l1_0.length:Int) then(if 0≤(wrap64 ((wrap64 (a9 - (l0_1.length:Int)))+2)) then(if(wrap64 ((wrap64 (a9 - (l0_1.length:Int)))+2))<((rd_L3 l1_0 (wrap64 ((wrap64 (a5 - (l0_1.length:Int)))+2))).length:Int) then(if b6.length<17592186044416 then(spec_l20Glued.l1 e2 (l0_1.length:Int) (l1_1.length:Int) a5 (b6 ++ [rd (rd_L3 l1_0 (wrap64 ((wrap64 (a5 - (l0_1.length:Int)))+2))) (wrap64 ((wrap64 (a9 - (l0_1.length:Int)))+2))]) (wrap64 (a9+1)) l0_0 l0_1 l1_0 l1_1 a8 a3) else(none)) else(none)) else(none)) else(none)) else(none))=some (r1,r2):=by rw [if_pos rfl] at H;exact H);clear H;have H:=H1;clear H1;obtain⟨d0,l5⟩: ∃j_:Int,(wrap64 ((wrap64 (a5 - (l0_1.length:Int)))+2))=j_:=⟨_,rfl⟩;(replace H:(if 0≤(d0) then(if(d0)<(l1_0.length:Int) then(if 0≤(wrap64 ((wrap64 (a9 - (l0_1.length:Int)))+2)) then(if(wrap64 ((wrap64 (a9 - (l0_1.length:Int)))+2))<((rd_L3 l1_0 (d0)).length:Int) then(if b6.length<17592186044416 then(spec_l20Glued.l1 e2 (l0_1.length:Int) (l1_1.length:Int) a5 (b6 ++ [rd (rd_L3 l1_0 (d0)) (wrap64 ((wrap64 (a9 - (l0_1.length:Int)))+2))]) (wrap64 (a9+1)) l0_0 l0_1 l1_0 l1_1 a8 a3) else(none)) else(none)) else(none)) else(none)) else(none))=some (r1,r2):=by first|(rw [l5] at H;exact H)|(simp only [l5] at H ⊢;exact H));have a3k:(IntKind.i64.wrap ((wrap64 (a5 - (l0_1.length:Int)))+2))=d0:=(i64_w _).trans l5
                by_cases q0:0≤(d0)
                ·rw [if_pos q0] at H;have a5g:decide (0≤(d0))=true:=decide_eq_true q0;clear q0
                 by_cases q1:(d0)<(l1_0.length:Int)
                 ·rw [if_pos q1] at H;have a5h:decide ((d0)<(l1_0.length:Int))=true:=decide_eq_true q1;clear q1;obtain⟨d9,l6⟩: ∃j_:Int,(wrap64 ((wrap64 (a9 - (l0_1.length:Int)))+2))=j_:=⟨_,rfl⟩;(replace H:(if 0≤(d9) then(if(d9)<((rd_L3 l1_0 (d0)).length:Int) then(if b6.length<17592186044416 then(spec_l20Glued.l1 e2 (l0_1.length:Int) (l1_1.length:Int) a5 (b6 ++ [rd (rd_L3 l1_0 (d0)) (d9)]) (wrap64 (a9+1)) l0_0 l0_1 l1_0 l1_1 a8 a3) else(none)) else(none)) else(none))=some (r1,r2):=by first|(rw [l6] at H;exact H)|(simp only [l6] at H ⊢;exact H));have a3l:(IntKind.i64.wrap ((wrap64 (a9 - (l0_1.length:Int)))+2))=d9:=(i64_w _).trans l6
                  by_cases q2:0≤(d9)
                  ·rw [if_pos q2] at H;have a5i:decide (0≤(d9))=true:=decide_eq_true q2;clear q2
                   by_cases q3:(d9)<((rd_L3 l1_0 (d0)).length:Int)
                   ·rw [if_pos q3] at H;have a5j:decide ((d9)<((rd_L3 l1_0 (d0)).length:Int))=true:=decide_eq_true q3;clear q3
                    by_cases q4:b6.length<17592186044416
                    ·rw [if_pos q4] at H;have LMc48:=zqm q4;clear q4;obtain⟨t3,g5⟩: ∃y_:List Int,y_=(b6 ++ [rd (rd_L3 l1_0 (d0)) (d9)]):=⟨_,rfl⟩;(replace H:(spec_l20Glued.l1 e2 (l0_1.length:Int) (l1_1.length:Int) a5 t3 (wrap64 (a9+1)) l0_0 l0_1 l1_0 l1_1 a8 a3)=some (r1,r2):=by first|(rw [g5];with_reducible exact H)|(have c4:=(Option.bind_some _ _).symm.trans H;rw [g5];with_reducible exact c4)|(have c4:=(Option.bind_some _ _).symm.trans H;with_reducible exact c4)|with_reducible exact H|(rw [g5];exact H)|exact H);have w7:=zqm g5;clear g5;have H':=zqm H;clear H;have a5k:=e8.out;have a5l:=e7.out;have a5m:=f1.out;have a5n:=f2.out;have a5o:=c1.out;have a5p:=c6.out;have a1o:wc.cell? ⟨b8,0,none⟩=some (.slice A1_0 l1_0.length c1_0):=(blk_cell a4.out 0).trans rfl;have a1p:wc.cell? ⟨b8,1,none⟩=some (.slice A1_1 l1_1.length c1_1):=(blk_cell a4.out 1).trans rfl;have a1q:=blk_frozen a4.out 0;have a1r:=blk_frozen a4.out 1;have n7:0≤((d0):Int):=zqo;have n8:(d0)<(l1_0.length:Int):=zqo;obtain⟨w8,a3m,a3n,z6,h7,l2,l3⟩:=at_L3 u7.out (d0) n7 n8
                     cases z6
                     replace h7:=(HB.out.cell (World.block_lt_of_cell? w _ h7)).trans h7;have s9:=zqm l3;have a1s:=zqm l2;clear l3 l2;replace n7:=eq_true n7;replace n8:=eq_true n8;have n9:0≤((d9):Int):=zqo;have o0:(d9)<((rd_L3 l1_0 (d0)).length:Int):=zqo;obtain⟨a5q,z7,h8⟩:=Kd.at_int s9.out (d9) n9 o0
                     cases z7
                     replace h8:=(HB.out.cell (World.block_lt_of_cell? w _ h8)).trans h8;replace n9:=eq_true n9;replace o0:=eq_true o0
                     go_wp2_with (first|((with_reducible refine gate_builtin (b:= .append) (xs:= #[.tmp 103,.tmp 105]) rfl ?_);at_builtin;refine Kd.R_append (Kd.int .i64) (w0:=w) w.heap.size rfl (.tmp 103) (.tmp 105) 28 3 (.int .i64 0) 8 rfl Try.underlying28 info3 rfl (by decide) (by omega) u9 b6 (rd (rd_L3 l1_0 (d0)) (d9)) [.int .i64 (rd (rd_L3 l1_0 (d0)) (d9))] (fun k_=>some k_≠(a1:Value).ownBlock) (fun _=>False) rfl rfl ?aP (fun _ hk=>hk.elim) ?aF ?aO ?aB ?aS ?aL ?_;(case aP=>exact rfl);(case aB=> exact zq37);(case aF=> exact zq87);(case aO=> exact zq179);(case aS=> exact zq31);(case aL=>have:=LMc48.out;omega);intro a6u w53 ho hb hg hat;rw [← w7.out] at ho;replace HO_217000:=zqm (Kd.S_after (ok:=(fun k_=>some k_≠(a1:Value).ownBlock)) zq81 hg hat);replace HO_217001:=zqm (Kd.R_after (ok:=(fun _=>True)) zq169 hg hat);replace a2:=zqm (blk_grown (g:=b7) (o:= .cells #[.slice A0_0 l0_0.length c0_0,.slice A0_1 l0_1.length c0_1] 30 (0,0)) zq15 hg (Kd.R_ne HO_9.out a2.out (by decide)));replace a4:=zqm (blk_grown (g:=b8) (o:= .cells #[.slice (some w8) l1_0.length c1_0,.slice A1_1 l1_1.length c1_1] 30 (0,0)) zq13 hg (Kd.R_ne HO_9.out a4.out (by decide)));replace a7:=zqm (blk_grown (g:=b9) (o:= .cells #[.slice none 0 0,.slice none 0 0] 30 (0,0)) zq33 hg (Kd.R_ne HO_9.out a7.out (by decide)));replace a0:=zqm (blk_grown (g:=a6) (o:= .cells #[b0,a1] 30 (0,0)) zq2 hg (Kd.R_ne HO_9.out a0.out (by decide)));replace HB:=zqm (hb);have w9:=zqm (ho);clear HO_9;clear ho hb hg hat))
                     go_roundg e2
                     (case measure=> exact zq315);case rel=>exact⟨(t3),(wrap64 (a9+1)),(by first|rfl|(simp;done)|(simp [*];done)),H',⟨zq315⟩,⟨by(with_reducible repeat(first|apply Kd.R_alloc|apply Kd.R_drewN|apply Kd.R_drew));exact w9.out⟩,⟨zq81⟩,⟨zq160⟩,⟨zq15⟩,⟨zq13⟩,⟨zq33⟩,⟨zq2⟩,⟨zq12⟩⟩
                    ·rw [if_neg q4] at H;exact absurd H (by simp)
                   ·rw [if_neg q3] at H;exact absurd H (by simp)
                  ·rw [if_neg q2] at H;exact absurd H (by simp)
                 ·rw [if_neg q1] at H;exact absurd H (by simp)
                ·rw [if_neg q0] at H;exact absurd H (by simp)
               ·replace p9:=Bool.eq_false_iff.mpr p9;subst p9;(have H1:(if a5=a9 then(if b6.length<17592186044416 then(spec_l20Glued.l1 e2 (l0_1.length:Int) (l1_1.length:Int) a5 (b6 ++ [1]) (wrap64 (a9+1)) l0_0 l0_1 l1_0 l1_1 a8 a3) else(none)) else(if b6.length<17592186044416 then(spec_l20Glued.l1 e2 (l0_1.length:Int) (l1_1.length:Int) a5 (b6 ++ [0]) (wrap64 (a9+1)) l0_0 l0_1 l1_0 l1_1 a8 a3) else(none)))=some (r1,r2):=by rw [if_neg (show¬(false=true) by decide)] at H;exact H);clear H;have H:=H1;clear H1
                by_cases i7:a5=a9
                ·rw [if_pos i7] at H;have x0:(a5==a9)=true:=beq_iff_eq.mpr i7;have x1:(a5 !=a9)=false:=bne_eq_false_iff_eq.mpr i7;clear i7
                 by_cases q5:b6.length<17592186044416
                 ·rw [if_pos q5] at H;have LMc55:=zqm q5;clear q5;obtain⟨t4,g6⟩: ∃y_:List Int,y_=(b6 ++ [1]):=⟨_,rfl⟩;(replace H:(spec_l20Glued.l1 e2 (l0_1.length:Int) (l1_1.length:Int) a5 t4 (wrap64 (a9+1)) l0_0 l0_1 l1_0 l1_1 a8 a3)=some (r1,r2):=by first|(rw [g6];with_reducible exact H)|(have c4:=(Option.bind_some _ _).symm.trans H;rw [g6];with_reducible exact c4)|(have c4:=(Option.bind_some _ _).symm.trans H;with_reducible exact c4)|with_reducible exact H|(rw [g6];exact H)|exact H);have x2:=zqm g6;clear g6;have H':=zqm H;clear H
                  go_wp2_with (first|((with_reducible refine gate_builtin (b:= .append) (xs:= #[.tmp 103,.tmp 105]) rfl ?_);at_builtin;refine Kd.R_append (Kd.int .i64) (w0:=w) w.heap.size rfl (.tmp 103) (.tmp 105) 28 3 (.int .i64 0) 8 rfl Try.underlying28 info3 rfl (by decide) (by omega) u9 b6 1 [.int .i64 1] (fun k_=>some k_≠(a1:Value).ownBlock) (fun _=>False) rfl rfl ?aP (fun _ hk=>hk.elim) ?aF ?aO ?aB ?aS ?aL ?_;(case aP=>exact rfl);(case aB=> exact zq37);(case aF=> exact zq87);(case aO=> exact zq179);(case aS=> exact zq31);(case aL=>have:=LMc55.out;omega);intro a6v w56 ho hb hg hat;rw [← x2.out] at ho;replace HO_217000:=zqm (Kd.S_after (ok:=(fun k_=>some k_≠(a1:Value).ownBlock)) zq81 hg hat);replace HO_217001:=zqm (Kd.R_after (ok:=(fun _=>True)) zq169 hg hat);replace a2:=zqm (blk_grown (g:=b7) (o:= .cells #[.slice A0_0 l0_0.length c0_0,.slice A0_1 l0_1.length c0_1] 30 (0,0)) zq15 hg (Kd.R_ne HO_9.out a2.out (by decide)));replace a4:=zqm (blk_grown (g:=b8) (o:= .cells #[.slice A1_0 l1_0.length c1_0,.slice A1_1 l1_1.length c1_1] 30 (0,0)) zq13 hg (Kd.R_ne HO_9.out a4.out (by decide)));replace a7:=zqm (blk_grown (g:=b9) (o:= .cells #[.slice none 0 0,.slice none 0 0] 30 (0,0)) zq33 hg (Kd.R_ne HO_9.out a7.out (by decide)));replace a0:=zqm (blk_grown (g:=a6) (o:= .cells #[b0,a1] 30 (0,0)) zq2 hg (Kd.R_ne HO_9.out a0.out (by decide)));replace HB:=zqm (hb);have x3:=zqm (ho);clear HO_9;clear ho hb hg hat))
                  go_roundg e2
                  (case measure=> exact zq315);case rel=>exact⟨(t4),(wrap64 (a9+1)),(by first|rfl|(simp;done)|(simp [*];done)),H',⟨zq315⟩,⟨by(with_reducible repeat(first|apply Kd.R_alloc|apply Kd.R_drewN|apply Kd.R_drew));exact x3.out⟩,⟨zq81⟩,⟨zq160⟩,⟨zq15⟩,⟨zq13⟩,⟨zq33⟩,⟨zq2⟩,⟨zq12⟩⟩
                 ·rw [if_neg q5] at H;exact absurd H (by simp)
                ·rw [if_neg i7] at H;have x0:(a5==a9)=false:=beq_eq_false_iff_ne.mpr i7;have x1:(a5 !=a9)=true:=bne_iff_ne.mpr i7
                 by_cases q6:b6.length<17592186044416
                 ·rw [if_pos q6] at H;have LMc57:=zqm q6;clear q6;obtain⟨t5,g7⟩: ∃y_:List Int,y_=(b6 ++ [0]):=⟨_,rfl⟩;(replace H:(spec_l20Glued.l1 e2 (l0_1.length:Int) (l1_1.length:Int) a5 t5 (wrap64 (a9+1)) l0_0 l0_1 l1_0 l1_1 a8 a3)=some (r1,r2):=by first|(rw [g7];with_reducible exact H)|(have c4:=(Option.bind_some _ _).symm.trans H;rw [g7];with_reducible exact c4)|(have c4:=(Option.bind_some _ _).symm.trans H;with_reducible exact c4)|with_reducible exact H|(rw [g7];exact H)|exact H);have x4:=zqm g7;clear g7;have H':=zqm H;clear H
                  go_wp2_with (first|((with_reducible refine gate_builtin (b:= .append) (xs:= #[.tmp 103,.tmp 105]) rfl ?_);at_builtin;refine Kd.R_append (Kd.int .i64) (w0:=w) w.heap.size rfl (.tmp 103) (.tmp 105) 28 3 (.int .i64 0) 8 rfl Try.underlying28 info3 rfl (by decide) (by omega) u9 b6 0 [.int .i64 0] (fun k_=>some k_≠(a1:Value).ownBlock) (fun _=>False) rfl rfl ?aP (fun _ hk=>hk.elim) ?aF ?aO ?aB ?aS ?aL ?_;(case aP=>exact rfl);(case aB=> exact zq37);(case aF=> exact zq87);(case aO=> exact zq179);(case aS=> exact zq31);(case aL=>have:=LMc57.out;omega);intro a6w w58 ho hb hg hat;rw [← x4.out] at ho;replace HO_217000:=zqm (Kd.S_after (ok:=(fun k_=>some k_≠(a1:Value).ownBlock)) zq81 hg hat);replace HO_217001:=zqm (Kd.R_after (ok:=(fun _=>True)) zq169 hg hat);replace a2:=zqm (blk_grown (g:=b7) (o:= .cells #[.slice A0_0 l0_0.length c0_0,.slice A0_1 l0_1.length c0_1] 30 (0,0)) zq15 hg (Kd.R_ne HO_9.out a2.out (by decide)));replace a4:=zqm (blk_grown (g:=b8) (o:= .cells #[.slice A1_0 l1_0.length c1_0,.slice A1_1 l1_1.length c1_1] 30 (0,0)) zq13 hg (Kd.R_ne HO_9.out a4.out (by decide)));replace a7:=zqm (blk_grown (g:=b9) (o:= .cells #[.slice none 0 0,.slice none 0 0] 30 (0,0)) zq33 hg (Kd.R_ne HO_9.out a7.out (by decide)));replace a0:=zqm (blk_grown (g:=a6) (o:= .cells #[b0,a1] 30 (0,0)) zq2 hg (Kd.R_ne HO_9.out a0.out (by decide)));replace HB:=zqm (hb);have x5:=zqm (ho);clear HO_9;clear ho hb hg hat))
                  go_roundg e2
                  (case measure=> exact zq315);case rel=>exact⟨(t5),(wrap64 (a9+1)),(by first|rfl|(simp;done)|(simp [*];done)),H',⟨zq315⟩,⟨by(with_reducible repeat(first|apply Kd.R_alloc|apply Kd.R_drewN|apply Kd.R_drew));exact x5.out⟩,⟨zq81⟩,⟨zq160⟩,⟨zq15⟩,⟨zq13⟩,⟨zq33⟩,⟨zq2⟩,⟨zq12⟩⟩
                 ·rw [if_neg q6] at H;exact absurd H (by simp)
      ·rw [if_neg k4] at H;have v2:decide (a9<(wrap64 ((wrap64 ((l0_1.length:Int)+(l1_1.length:Int))) - 2)))=false:=decide_eq_false k4;clear k4
       by_cases q7:a8.length<5864062014805
       ·rw [if_pos q7] at H;have LMc59:=zqm q7;clear q7;obtain⟨b5,g8⟩: ∃y_:List (List Int),y_=(a8 ++ [b6]):=⟨_,rfl⟩;(replace H:(if a5=0 then(if a3.length<17592186044416 then(spec_l20Glued.l0 k2 (l0_1.length:Int) (l1_1.length:Int) (wrap64 (a5+1)) l0_0 l0_1 l1_0 l1_1 b5 (a3 ++ [wrap64 ((wrap64 ((l0_1.length:Int)+(l1_1.length:Int))) - 3)])) else(none)) else(if a5=(wrap64 ((wrap64 ((l0_1.length:Int)+(l1_1.length:Int))) - 3)) then(if a3.length<17592186044416 then(spec_l20Glued.l0 k2 (l0_1.length:Int) (l1_1.length:Int) (wrap64 (a5+1)) l0_0 l0_1 l1_0 l1_1 b5 (a3 ++ [0])) else(none)) else(if a5<(wrap64 ((l0_1.length:Int) - 1)) then(if 0≤a5 then(if a5<(l0_1.length:Int) then(if a3.length<17592186044416 then(spec_l20Glued.l0 k2 (l0_1.length:Int) (l1_1.length:Int) (wrap64 (a5+1)) l0_0 l0_1 l1_0 l1_1 b5 (a3 ++ [rd l0_1 a5])) else(none)) else(none)) else(none)) else(if 0≤(wrap64 ((wrap64 (a5 - (l0_1.length:Int)))+2)) then(if(wrap64 ((wrap64 (a5 - (l0_1.length:Int)))+2))<(l1_1.length:Int) then(if a3.length<17592186044416 then(spec_l20Glued.l0 k2 (l0_1.length:Int) (l1_1.length:Int) (wrap64 (a5+1)) l0_0 l0_1 l1_0 l1_1 b5 (a3 ++ [wrap64 ((wrap64 ((rd l1_1 (wrap64 ((wrap64 (a5 - (l0_1.length:Int)))+2)))+(l0_1.length:Int))) - 2)])) else(none)) else(none)) else(none)))))=some (r1,r2):=by first|(rw [g8];with_reducible exact H)|(have c4:=(Option.bind_some _ _).symm.trans H;rw [g8];with_reducible exact c4)|(have c4:=(Option.bind_some _ _).symm.trans H;with_reducible exact c4)|with_reducible exact H|(rw [g8];exact H)|exact H);have i3:=zqm g8;clear g8
        by_cases i8:a5=0
        ·rw [if_pos i8] at H;have x6:(a5==0)=true:=beq_iff_eq.mpr i8;have x7:(a5 !=0)=false:=bne_eq_false_iff_eq.mpr i8;clear i8
         by_cases q8:a3.length<17592186044416
         ·rw [if_pos q8] at H;have LMc61:=zqm q8;clear q8;obtain⟨i9,g9⟩: ∃y_:List Int,y_=(a3 ++ [wrap64 ((wrap64 ((l0_1.length:Int)+(l1_1.length:Int))) - 3)]):=⟨_,rfl⟩;(replace H:(spec_l20Glued.l0 k2 (l0_1.length:Int) (l1_1.length:Int) (wrap64 (a5+1)) l0_0 l0_1 l1_0 l1_1 b5 i9)=some (r1,r2):=by first|(rw [g9];with_reducible exact H)|(have c4:=(Option.bind_some _ _).symm.trans H;rw [g9];with_reducible exact c4)|(have c4:=(Option.bind_some _ _).symm.trans H;with_reducible exact c4)|with_reducible exact H|(rw [g9];exact H)|exact H);have x8:=zqm g9;clear g9;have H':=zqm H;clear H;have a5r:=c5.out;have a5s:=c0.out;have a5t:=c6.out;have a5u:=c1.out;have a5v:=d1.out;have a5w:=c2.out;have a1t:wr.cell? ⟨a6,0,none⟩=some (b0):=(blk_cell a0.out 0).trans rfl;have a1u:wr.cell? ⟨a6,1,none⟩=some (a1):=(blk_cell a0.out 1).trans rfl;have a1v:=blk_frozen a0.out 0;have a1w:=blk_frozen a0.out 1;obtain⟨t6,t7,z8⟩:=Kd.R_slice HO_9.out;subst z8
          go_wp2_with (first|((with_reducible refine gate_builtin (b:= .append) (xs:= #[.tmp 108,.tmp 110]) rfl ?_);at_builtin;refine Kd.S_append (Kd.slice 3 (Kd.int .i64)) (w0:=w) w.heap.size rfl (.tmp 108) (.tmp 110) 27 28 (.slice none 0 0) 24 rfl Try.underlying27 info28 rfl (by decide) (by omega) b0 a8 b6 [.slice t6 b6.length t7] (fun k_=>some k_≠(a1:Value).ownBlock) (fun k_=>some k_=(.slice t6 b6.length t7:Value).ownBlock) rfl rfl ?aP (fun k_ hk_=>((Kd.R_mono (ok':=fun k_=>((fun k_=>some k_≠(a1:Value).ownBlock)) k_∧some k_≠(b0:Value).ownBlock) (Kd.R_apart' (HO_9.out) (Kd.S_typed HO_217000.out) (by decide)) (fun k_ hk=>⟨hk.1,hk.2⟩))).1 k_ hk_.symm) ?aF ?aO ?aB ?aS ?aL ?_;(case aP=> exact zq126);(case aB=> exact zq37);(case aF=> exact zq87);(case aO=> exact zq180);(case aS=> exact zq31);(case aL=>have:=LMc59.out;omega);intro o1 z0 ho hb hg hat;rw [← i3.out] at ho;replace HO_217001:=zqm (Kd.R_over' zq47 (Kd.S_typed zq112) (by decide) hg);replace a2:=zqm (blk_grown (g:=b7) (o:= .cells #[.slice A0_0 l0_0.length c0_0,.slice A0_1 l0_1.length c0_1] 30 (0,0)) zq15 hg (Kd.S_ne HO_217000.out a2.out (by decide)));replace a4:=zqm (blk_grown (g:=b8) (o:= .cells #[.slice A1_0 l1_0.length c1_0,.slice A1_1 l1_1.length c1_1] 30 (0,0)) zq13 hg (Kd.S_ne HO_217000.out a4.out (by decide)));replace a7:=zqm (blk_grown (g:=b9) (o:= .cells #[.slice none 0 0,.slice none 0 0] 30 (0,0)) zq33 hg (Kd.S_ne HO_217000.out a7.out (by decide)));replace a0:=zqm (blk_grown (g:=a6) (o:= .cells #[b0,a1] 30 (0,0)) zq2 hg (Kd.S_ne HO_217000.out a0.out (by decide)));replace HB:=zqm (hb);have c3:=zqm (ho);clear HO_217000 HO_9;clear ho hb hg hat;obtain⟨h9,i0,z9⟩:=Kd.S_slice c3.out;subst z9;have a1x:z0.cell? ⟨a6,0,none⟩=some (b0):=(blk_cell a0.out 0).trans rfl;have a1y:z0.cell? ⟨a6,1,none⟩=some (a1):=(blk_cell a0.out 1).trans rfl;have a1z:=blk_frozen a0.out 0;have a2a:=blk_frozen a0.out 1)|((with_reducible refine gate_builtin (b:= .append) (xs:= #[.tmp 133,.tmp 138]) rfl ?_);at_builtin;refine Kd.R_append (Kd.int .i64) (w0:=w) w.heap.size rfl (.tmp 133) (.tmp 138) 28 3 (.int .i64 0) 8 rfl Try.underlying28 info3 rfl (by decide) (by omega) a1 a3 (wrap64 ((wrap64 ((l0_1.length:Int)+(l1_1.length:Int))) - 3)) [.int .i64 (wrap64 ((wrap64 ((l0_1.length:Int)+(l1_1.length:Int))) - 3))] (fun _=>True) (fun _=>False) rfl (by first|(go_simp;done)|(go_simp;rfl)) ?aP (fun _ hk=>hk.elim) ?aF ?aO ?aB ?aS ?aL ?_;(case aP=>exact rfl);(case aB=> exact zq37);(case aF=>exact(fun _ _=>trivial));(case aO=>exact(by(with_reducible repeat(first|apply Kd.R_alloc|apply Kd.R_drewN|apply Kd.R_drew));exact Kd.R_mono (Kd.R_far (p:=⟨a6,0,none⟩) (Kd.R_types HO_217001.out a0.out (by decide)) (fun _ hk=>hk.2) (.slice h9 b5.length i0)) (fun _ hk=>trivial)));(case aS=> exact zq31);(case aL=>have:=LMc61.out;omega);intro a6x z1 ho hb hg hat;rw [← x8.out] at ho;replace a2:=zqm (blk_grown (g:=b7) (o:= .cells #[.slice A0_0 l0_0.length c0_0,.slice A0_1 l0_1.length c0_1] 30 (0,0)) zq64 hg (Kd.R_ne HO_217001.out a2.out (by decide)));replace a4:=zqm (blk_grown (g:=b8) (o:= .cells #[.slice A1_0 l1_0.length c1_0,.slice A1_1 l1_1.length c1_1] 30 (0,0)) zq66 hg (Kd.R_ne HO_217001.out a4.out (by decide)));replace a7:=zqm (blk_grown (g:=b9) (o:= .cells #[.slice none 0 0,.slice none 0 0] 30 (0,0)) zq65 hg (Kd.R_ne HO_217001.out a7.out (by decide)));have e0:=zqm (blk_grown (g:=a6) (o:= .cells #[.slice h9 b5.length i0,a1] 30 (0,0)) zq130 hg (Kd.R_ne HO_217001.out a0.out (by decide)));replace c3:=zqm (Kd.S_after (ok:=(fun _=>True)) (by(with_reducible repeat(first|apply Kd.S_alloc|apply Kd.S_drewN|apply Kd.S_drew));exact Kd.S_mono (Kd.S_far (p:=⟨a6,0,none⟩) (Kd.S_types c3.out a0.out (by decide)) (fun _ hk=>hk.2) (.slice h9 b5.length i0)) (fun _ hk=>⟨trivial,hk.1⟩)) hg hat);replace HB:=zqm (hb);have q9:=zqm (ho);clear a0 HO_217001;have a0:=e0;clear e0 ho hb hg hat;obtain⟨o2,o3,a0a⟩:=Kd.R_slice q9.out;subst a0a;have a2b:z1.cell? ⟨a6,0,none⟩=some (.slice h9 b5.length i0):=(blk_cell a0.out 0).trans rfl;have a2c:z1.cell? ⟨a6,1,none⟩=some (a1):=(blk_cell a0.out 1).trans rfl;have a2d:=blk_frozen a0.out 0;have a2e:=blk_frozen a0.out 1))
          go_roundg k2
          (case measure=>have:=d2.out;have:=d3.out;omega);case rel=>exact⟨(wrap64 (a5+1)),(b5),(i9),(.slice h9 b5.length i0),(.slice o2 i9.length o3),(by first|rfl|(simp;done)|(simp [*];done)),H',⟨by have:=d2.out;have:=d3.out;omega⟩,⟨by(with_reducible repeat(first|apply Kd.S_alloc|apply Kd.S_drewN|apply Kd.S_drew));exact Kd.S_mono (Kd.S_far (p:=⟨a6,1,none⟩) (Kd.S_types c3.out a0.out (by decide)) (fun _ hk=>hk.2) (.slice o2 i9.length o3)) (fun _ hk=>hk.1.2)⟩,⟨by(with_reducible repeat(first|apply Kd.R_alloc|apply Kd.R_drewN|apply Kd.R_drew));exact Kd.R_mono (Kd.R_far (p:=⟨a6,1,none⟩) (Kd.R_types q9.out a0.out (by decide)) (fun _ hk=>hk.2) (.slice o2 i9.length o3)) (fun _ hk=>trivial)⟩,⟨zq64⟩,⟨zq66⟩,⟨zq65⟩,⟨by(with_reducible repeat(first|refine blk_drewN ?_ _|refine blk_drew ?_|refine blk_alloc ?_ _));refine blk_put (cs:= #[.slice h9 b5.length i0,a1]) ?_ 1 _ rfl;(with_reducible repeat(first|refine blk_drewN ?_ _|refine blk_drew ?_|refine blk_alloc ?_ _));exact a0.out⟩,⟨zq12⟩⟩
         ·rw [if_neg q8] at H;exact absurd H (by simp)
        ·rw [if_neg i8] at H;have x6:(a5==0)=false:=beq_eq_false_iff_ne.mpr i8;have x7:(a5 !=0)=true:=bne_iff_ne.mpr i8
         by_cases j0:a5=(wrap64 ((wrap64 ((l0_1.length:Int)+(l1_1.length:Int))) - 3))
         ·rw [if_pos j0] at H;have x9:(a5==(wrap64 ((wrap64 ((l0_1.length:Int)+(l1_1.length:Int))) - 3)))=true:=beq_iff_eq.mpr j0;have y0:(a5 !=(wrap64 ((wrap64 ((l0_1.length:Int)+(l1_1.length:Int))) - 3)))=false:=bne_eq_false_iff_eq.mpr j0;clear j0
          by_cases r0:a3.length<17592186044416
          ·rw [if_pos r0] at H;have LMc74:=zqm r0;clear r0;obtain⟨j1,h0⟩: ∃y_:List Int,y_=(a3 ++ [0]):=⟨_,rfl⟩;(replace H:(spec_l20Glued.l0 k2 (l0_1.length:Int) (l1_1.length:Int) (wrap64 (a5+1)) l0_0 l0_1 l1_0 l1_1 b5 j1)=some (r1,r2):=by first|(rw [h0];with_reducible exact H)|(have c4:=(Option.bind_some _ _).symm.trans H;rw [h0];with_reducible exact c4)|(have c4:=(Option.bind_some _ _).symm.trans H;with_reducible exact c4)|with_reducible exact H|(rw [h0];exact H)|exact H);have y1:=zqm h0;clear h0;have H':=zqm H;clear H;have a5x:=c5.out;have a5y:=c0.out;have a5z:=c6.out;have a6a:=c1.out;have a6b:=d1.out;have a6c:=c2.out;have a2f:wr.cell? ⟨a6,0,none⟩=some (b0):=(blk_cell a0.out 0).trans rfl;have a2g:wr.cell? ⟨a6,1,none⟩=some (a1):=(blk_cell a0.out 1).trans rfl;have a2h:=blk_frozen a0.out 0;have a2i:=blk_frozen a0.out 1;obtain⟨t8,t9,a0b⟩:=Kd.R_slice HO_9.out;subst a0b
           go_wp2_with (first|((with_reducible refine gate_builtin (b:= .append) (xs:= #[.tmp 108,.tmp 110]) rfl ?_);at_builtin;refine Kd.S_append (Kd.slice 3 (Kd.int .i64)) (w0:=w) w.heap.size rfl (.tmp 108) (.tmp 110) 27 28 (.slice none 0 0) 24 rfl Try.underlying27 info28 rfl (by decide) (by omega) b0 a8 b6 [.slice t8 b6.length t9] (fun k_=>some k_≠(a1:Value).ownBlock) (fun k_=>some k_=(.slice t8 b6.length t9:Value).ownBlock) rfl rfl ?aP (fun k_ hk_=>((Kd.R_mono (ok':=fun k_=>((fun k_=>some k_≠(a1:Value).ownBlock)) k_∧some k_≠(b0:Value).ownBlock) (Kd.R_apart' (HO_9.out) (Kd.S_typed HO_217000.out) (by decide)) (fun k_ hk=>⟨hk.1,hk.2⟩))).1 k_ hk_.symm) ?aF ?aO ?aB ?aS ?aL ?_;(case aP=> exact zq126);(case aB=> exact zq37);(case aF=> exact zq87);(case aO=> exact zq180);(case aS=> exact zq31);(case aL=>have:=LMc59.out;omega);intro o1 z2 ho hb hg hat;rw [← i3.out] at ho;replace HO_217001:=zqm (Kd.R_over' zq47 (Kd.S_typed zq112) (by decide) hg);replace a2:=zqm (blk_grown (g:=b7) (o:= .cells #[.slice A0_0 l0_0.length c0_0,.slice A0_1 l0_1.length c0_1] 30 (0,0)) zq15 hg (Kd.S_ne HO_217000.out a2.out (by decide)));replace a4:=zqm (blk_grown (g:=b8) (o:= .cells #[.slice A1_0 l1_0.length c1_0,.slice A1_1 l1_1.length c1_1] 30 (0,0)) zq13 hg (Kd.S_ne HO_217000.out a4.out (by decide)));replace a7:=zqm (blk_grown (g:=b9) (o:= .cells #[.slice none 0 0,.slice none 0 0] 30 (0,0)) zq33 hg (Kd.S_ne HO_217000.out a7.out (by decide)));replace a0:=zqm (blk_grown (g:=a6) (o:= .cells #[b0,a1] 30 (0,0)) zq2 hg (Kd.S_ne HO_217000.out a0.out (by decide)));replace HB:=zqm (hb);have c3:=zqm (ho);clear HO_217000 HO_9;clear ho hb hg hat;obtain⟨i1,i2,a0c⟩:=Kd.S_slice c3.out;subst a0c;have a2j:z2.cell? ⟨a6,0,none⟩=some (b0):=(blk_cell a0.out 0).trans rfl;have a2k:z2.cell? ⟨a6,1,none⟩=some (a1):=(blk_cell a0.out 1).trans rfl;have a2l:=blk_frozen a0.out 0;have a2m:=blk_frozen a0.out 1)|((with_reducible refine gate_builtin (b:= .append) (xs:= #[.tmp 149,.tmp 150]) rfl ?_);at_builtin;refine Kd.R_append (Kd.int .i64) (w0:=w) w.heap.size rfl (.tmp 149) (.tmp 150) 28 3 (.int .i64 0) 8 rfl Try.underlying28 info3 rfl (by decide) (by omega) a1 a3 0 [.int .i64 0] (fun _=>True) (fun _=>False) rfl (by first|(go_simp;done)|(go_simp;rfl)) ?aP (fun _ hk=>hk.elim) ?aF ?aO ?aB ?aS ?aL ?_;(case aP=>exact rfl);(case aB=> exact zq37);(case aF=>exact(fun _ _=>trivial));(case aO=>exact(by(with_reducible repeat(first|apply Kd.R_alloc|apply Kd.R_drewN|apply Kd.R_drew));exact Kd.R_mono (Kd.R_far (p:=⟨a6,0,none⟩) (Kd.R_types HO_217001.out a0.out (by decide)) (fun _ hk=>hk.2) (.slice i1 b5.length i2)) (fun _ hk=>trivial)));(case aS=> exact zq31);(case aL=>have:=LMc74.out;omega);intro a6y z3 ho hb hg hat;rw [← y1.out] at ho;replace a2:=zqm (blk_grown (g:=b7) (o:= .cells #[.slice A0_0 l0_0.length c0_0,.slice A0_1 l0_1.length c0_1] 30 (0,0)) zq64 hg (Kd.R_ne HO_217001.out a2.out (by decide)));replace a4:=zqm (blk_grown (g:=b8) (o:= .cells #[.slice A1_0 l1_0.length c1_0,.slice A1_1 l1_1.length c1_1] 30 (0,0)) zq66 hg (Kd.R_ne HO_217001.out a4.out (by decide)));replace a7:=zqm (blk_grown (g:=b9) (o:= .cells #[.slice none 0 0,.slice none 0 0] 30 (0,0)) zq65 hg (Kd.R_ne HO_217001.out a7.out (by decide)));have e0:=zqm (blk_grown (g:=a6) (o:= .cells #[.slice i1 b5.length i2,a1] 30 (0,0)) zq130 hg (Kd.R_ne HO_217001.out a0.out (by decide)));replace c3:=zqm (Kd.S_after (ok:=(fun _=>True)) (by(with_reducible repeat(first|apply Kd.S_alloc|apply Kd.S_drewN|apply Kd.S_drew));exact Kd.S_mono (Kd.S_far (p:=⟨a6,0,none⟩) (Kd.S_types c3.out a0.out (by decide)) (fun _ hk=>hk.2) (.slice i1 b5.length i2)) (fun _ hk=>⟨trivial,hk.1⟩)) hg hat);replace HB:=zqm (hb);have r3:=zqm (ho);clear a0 HO_217001;have a0:=e0;clear e0 ho hb hg hat;obtain⟨o4,o5,a0d⟩:=Kd.R_slice r3.out;subst a0d;have a2n:z3.cell? ⟨a6,0,none⟩=some (.slice i1 b5.length i2):=(blk_cell a0.out 0).trans rfl;have a2o:z3.cell? ⟨a6,1,none⟩=some (a1):=(blk_cell a0.out 1).trans rfl;have a2p:=blk_frozen a0.out 0;have a2q:=blk_frozen a0.out 1))
           go_roundg k2
           (case measure=>have:=d2.out;have:=d3.out;omega);case rel=>exact⟨(wrap64 (a5+1)),(b5),(j1),(.slice i1 b5.length i2),(.slice o4 j1.length o5),(by first|rfl|(simp;done)|(simp [*];done)),H',⟨by have:=d2.out;have:=d3.out;omega⟩,⟨by(with_reducible repeat(first|apply Kd.S_alloc|apply Kd.S_drewN|apply Kd.S_drew));exact Kd.S_mono (Kd.S_far (p:=⟨a6,1,none⟩) (Kd.S_types c3.out a0.out (by decide)) (fun _ hk=>hk.2) (.slice o4 j1.length o5)) (fun _ hk=>hk.1.2)⟩,⟨by(with_reducible repeat(first|apply Kd.R_alloc|apply Kd.R_drewN|apply Kd.R_drew));exact Kd.R_mono (Kd.R_far (p:=⟨a6,1,none⟩) (Kd.R_types r3.out a0.out (by decide)) (fun _ hk=>hk.2) (.slice o4 j1.length o5)) (fun _ hk=>trivial)⟩,⟨zq64⟩,⟨zq66⟩,⟨zq65⟩,⟨by(with_reducible repeat(first|refine blk_drewN ?_ _|refine blk_drew ?_|refine blk_alloc ?_ _));refine blk_put (cs:= #[.slice i1 b5.length i2,a1]) ?_ 1 _ rfl;(with_reducible repeat(first|refine blk_drewN ?_ _|refine blk_drew ?_|refine blk_alloc ?_ _));exact a0.out⟩,⟨zq12⟩⟩
          ·rw [if_neg r0] at H;exact absurd H (by simp)
         ·rw [if_neg j0] at H;have x9:(a5==(wrap64 ((wrap64 ((l0_1.length:Int)+(l1_1.length:Int))) - 3)))=false:=beq_eq_false_iff_ne.mpr j0;have y0:(a5 !=(wrap64 ((wrap64 ((l0_1.length:Int)+(l1_1.length:Int))) - 3)))=true:=bne_iff_ne.mpr j0
          by_cases l4:a5<(wrap64 ((l0_1.length:Int) - 1))
          ·rw [if_pos l4] at H;have y2:decide (a5<(wrap64 ((l0_1.length:Int) - 1)))=true:=decide_eq_true l4;clear l4
           by_cases r4:0≤a5
           ·rw [if_pos r4] at H;have a6d:decide (0≤a5)=true:=decide_eq_true r4;clear r4
            by_cases r5:a5<(l0_1.length:Int)
            ·rw [if_pos r5] at H;have a6e:decide (a5<(l0_1.length:Int))=true:=decide_eq_true r5;clear r5
             by_cases r6:a3.length<17592186044416
             ·rw [if_pos r6] at H;have LMc89:=zqm r6;clear r6;obtain⟨j5,h1⟩: ∃y_:List Int,y_=(a3 ++ [rd l0_1 a5]):=⟨_,rfl⟩;(replace H:(spec_l20Glued.l0 k2 (l0_1.length:Int) (l1_1.length:Int) (wrap64 (a5+1)) l0_0 l0_1 l1_0 l1_1 b5 j5)=some (r1,r2):=by first|(rw [h1];with_reducible exact H)|(have c4:=(Option.bind_some _ _).symm.trans H;rw [h1];with_reducible exact c4)|(have c4:=(Option.bind_some _ _).symm.trans H;with_reducible exact c4)|with_reducible exact H|(rw [h1];exact H)|exact H);have y3:=zqm h1;clear h1;have H':=zqm H;clear H;have a6f:=c5.out;have a6g:=c0.out;have a6h:=c6.out;have a6i:=c1.out;have a6j:=d1.out;have a6k:=c2.out;have a2r:wr.cell? ⟨a6,0,none⟩=some (b0):=(blk_cell a0.out 0).trans rfl;have a2s:wr.cell? ⟨a6,1,none⟩=some (a1):=(blk_cell a0.out 1).trans rfl;have a2t:=blk_frozen a0.out 0;have a2u:=blk_frozen a0.out 1;obtain⟨u0,u1,a0e⟩:=Kd.R_slice HO_9.out;subst a0e;(try go_wp2_with (first|((with_reducible refine gate_builtin (b:= .append) (xs:= #[.tmp 108,.tmp 110]) rfl ?_);at_builtin;refine Kd.S_append (Kd.slice 3 (Kd.int .i64)) (w0:=w) w.heap.size rfl (.tmp 108) (.tmp 110) 27 28 (.slice none 0 0) 24 rfl Try.underlying27 info28 rfl (by decide) (by omega) b0 a8 b6 [.slice u0 b6.length u1] (fun k_=>some k_≠(a1:Value).ownBlock) (fun k_=>some k_=(.slice u0 b6.length u1:Value).ownBlock) rfl rfl ?aP (fun k_ hk_=>((Kd.R_mono (ok':=fun k_=>((fun k_=>some k_≠(a1:Value).ownBlock)) k_∧some k_≠(b0:Value).ownBlock) (Kd.R_apart' (HO_9.out) (Kd.S_typed HO_217000.out) (by decide)) (fun k_ hk=>⟨hk.1,hk.2⟩))).1 k_ hk_.symm) ?aF ?aO ?aB ?aS ?aL ?_;(case aP=> exact zq126);(case aB=> exact zq37);(case aF=> exact zq87);(case aO=> exact zq180);(case aS=> exact zq31);(case aL=>have:=LMc59.out;omega);intro o1 f3 ho hb hg hat;rw [← i3.out] at ho;replace HO_217001:=zqm (Kd.R_over' zq47 (Kd.S_typed zq112) (by decide) hg);replace a2:=zqm (blk_grown (g:=b7) (o:= .cells #[.slice A0_0 l0_0.length c0_0,.slice A0_1 l0_1.length c0_1] 30 (0,0)) zq15 hg (Kd.S_ne HO_217000.out a2.out (by decide)));replace a4:=zqm (blk_grown (g:=b8) (o:= .cells #[.slice A1_0 l1_0.length c1_0,.slice A1_1 l1_1.length c1_1] 30 (0,0)) zq13 hg (Kd.S_ne HO_217000.out a4.out (by decide)));replace a7:=zqm (blk_grown (g:=b9) (o:= .cells #[.slice none 0 0,.slice none 0 0] 30 (0,0)) zq33 hg (Kd.S_ne HO_217000.out a7.out (by decide)));replace a0:=zqm (blk_grown (g:=a6) (o:= .cells #[b0,a1] 30 (0,0)) zq2 hg (Kd.S_ne HO_217000.out a0.out (by decide)));replace HB:=zqm (hb);have c3:=zqm (ho);clear HO_217000 HO_9;clear ho hb hg hat;obtain⟨d4,d5,a0f⟩:=Kd.S_slice c3.out;subst a0f;have a2v:f3.cell? ⟨a6,0,none⟩=some (b0):=(blk_cell a0.out 0).trans rfl;have a2w:f3.cell? ⟨a6,1,none⟩=some (a1):=(blk_cell a0.out 1).trans rfl;have a2x:=blk_frozen a0.out 0;have a2y:=blk_frozen a0.out 1)));have d7:Aside0 (Kd.R (Kd.int .i64) 3 (f3.setCell ⟨a6,0,none⟩ (.slice d4 b5.length d5)) w.heap.size (fun _=>True) a1 a3):=⟨by(with_reducible repeat(first|apply Kd.R_alloc|apply Kd.R_drewN|apply Kd.R_drew));exact Kd.R_mono (Kd.R_far (p:=⟨a6,0,none⟩) (Kd.R_types HO_217001.out a0.out (by decide)) (fun _ hk=>hk.2) (.slice d4 b5.length d5)) (fun _ hk=>trivial)⟩;have d8:Aside0 (Kd.S (Kd.slice 3 (Kd.int .i64)) 28 (f3.setCell ⟨a6,0,none⟩ (.slice d4 b5.length d5)) w.heap.size (fun k_=>some k_≠(a1:Value).ownBlock) (.slice d4 b5.length d5) b5):=⟨by(with_reducible repeat(first|apply Kd.S_alloc|apply Kd.S_drewN|apply Kd.S_drew));exact Kd.S_mono (Kd.S_far (p:=⟨a6,0,none⟩) (Kd.S_types c3.out a0.out (by decide)) (fun _ hk=>hk.2) (.slice d4 b5.length d5)) (fun _ hk=>hk.1)⟩;have e4:Aside0 ((f3.setCell ⟨a6,0,none⟩ (.slice d4 b5.length d5)).heap[b7]? =some (.cells #[.slice A0_0 l0_0.length c0_0,.slice A0_1 l0_1.length c0_1] 30 (0,0))):=⟨zq64⟩
              have e0:Aside0 ((f3.setCell ⟨a6,0,none⟩ (.slice d4 b5.length d5)).heap[b8]? =some (.cells #[.slice A1_0 l1_0.length c1_0,.slice A1_1 l1_1.length c1_1] 30 (0,0))):=⟨zq66⟩;have j6:Aside0 ((f3.setCell ⟨a6,0,none⟩ (.slice d4 b5.length d5)).heap[b9]? =some (.cells #[.slice none 0 0,.slice none 0 0] 30 (0,0))):=⟨zq65⟩;have j7:Aside0 ((f3.setCell ⟨a6,0,none⟩ (.slice d4 b5.length d5)).heap[a6]? =some (.cells #[.slice d4 b5.length d5,a1] 30 (0,0))):=⟨zq130⟩;have j8:Aside0 (Below w.heap.size w (f3.setCell ⟨a6,0,none⟩ (.slice d4 b5.length d5))):=⟨zq12⟩;generalize (f3.setCell ⟨a6,0,none⟩ (.slice d4 b5.length d5))=w98 at d7 d8 e4 e0 j6 j7 j8 ⊢;have HO_217001:=d7;have c3:=d8;have a2:=e4;have a4:=e0;have a7:=j6;have a0:=j7;have HB:=j8;clear d7 d8 e4 e0 j6 j7 j8;replace HO_217001:=zqm (Kd.R_drew HO_217001.out);replace c3:=zqm (Kd.S_drew c3.out);replace a2:=zqm (blk_drew a2.out);replace a4:=zqm (blk_drew a4.out);replace a7:=zqm (blk_drew a7.out);replace a0:=zqm (blk_drew a0.out);replace HB:=zqm (below_drew1 HB.out);have o6:0≤(a5:Int):=zqo;have o7:a5<(l0_1.length:Int):=zqo;obtain⟨l7,a0g,e5⟩:=Kd.at_int u6.out a5 o6 o7;have hw248_0:=e5
              cases a0g
              replace e5:=(HB.out.cell (World.block_lt_of_cell? w _ e5)).trans e5;replace o6:=eq_true o6;replace o7:=eq_true o7;refine start_ (n:=11) (S:=fun w'=>w'.cell? ⟨a6,0,none⟩=some (.slice d4 b5.length d5)∧w'.cell? ⟨a6,1,none⟩=some (a1)∧w'.cell? ⟨b7,0,none⟩=some (.slice A0_0 l0_0.length c0_0)∧w'.cell? ⟨b7,1,none⟩=some (.slice (some l7) l0_1.length c0_1)∧w'.cell? (l7.add (a5).toNat)=some (.int .i64 (rd l0_1 a5))) (ds:= [10]) (zqb 11 0) zqk rfl rfl ⟨(blk_cell a0.out 0).trans rfl,(blk_cell a0.out 1).trans rfl,(blk_cell a2.out 0).trans rfl,(blk_cell a2.out 1).trans rfl,((HB.out.cell (World.block_lt_of_cell? w _ hw248_0)).trans hw248_0)⟩ (fun hHeld=>?_);refine with_tabW spec_l20Glued.tab28 spec_l20Glued.bits28 (fun HT_ HW_=>?_);generalize w98.drew=w99 at HO_217001 c3 a2 a4 a7 a0 HB e5 hHeld ⊢;refine pure_ (i:=0) (N:=some 158) (v:=?_) (a':=?_) (zqb 11 1) rfl rfl (any_of HT_.out zqk) (fun _ _ _ h=>h) (Or.inl ⟨by rfl,?_⟩) ?_ ?_;rotate_left
              ·exact zqt
              rotate_left
              ·exact zqs
              refine pure_ (i:=2) (N:=some 160) (v:=?_) (a':=?_) (zqb 11 5) rfl rfl (any_of HT_.out zqk) (fun _ _ _ h=>h) (Or.inl ⟨by rfl,?_⟩) ?_ ?_;rotate_left
              ·exact zqt
              rotate_left
              ·exact zqs
              refine pure_ (i:=4) (N:=some 162) (v:=?_) (a':=?_) (zqb 11 21) rfl rfl (any_of HT_.out zqk) (fun _ _ _ h=>h) (Or.inl ⟨by rfl,?_⟩) ?_ ?_;rotate_left
              ·exact zqt
              rotate_left
              ·exact zqs
              refine take_ (i:=1) (N:=some 159) (v:=?_) (a':=?_) (zqb 11 23) rfl rfl (take_ofW HT_.out HW_.out zqk) (fun _ _ _ h=>h) (Or.inl ⟨by rfl,?_⟩) hHeld ?_ ?_;rotate_left
              ·rintro w' ⟨s0,s1,s2,s3,s4⟩;go_simp;with_reducible rfl
              rotate_left
              ·exact zqs
              refine take_ (i:=3) (N:=some 161) (v:=?_) (a':=?_) (zqb 11 31) rfl rfl (take_ofW HT_.out HW_.out zqk) (fun _ _ _ h=>h) (Or.inl ⟨by rfl,?_⟩) hHeld ?_ ?_;rotate_left
              ·rintro w' ⟨s0,s1,s2,s3,s4⟩;go_simp;with_reducible rfl
              rotate_left
              ·exact zqs
              refine pure_ (i:=5) (N:=some 163) (v:=?_) (a':=?_) (zqb 11 63) rfl rfl (any_of HT_.out zqk) (fun _ _ _ h=>h) (Or.inl ⟨by rfl,?_⟩) ?_ ?_;rotate_left
              ·exact zqt
              rotate_left
              ·exact zqs
              refine take_ (i:=6) (N:=some 164) (v:=?_) (a':=?_) (zqb 11 127) rfl rfl (take_ofW HT_.out HW_.out zqk) (fun _ _ _ h=>h) (Or.inl ⟨by rfl,?_⟩) hHeld ?_ ?_;rotate_left
              ·rintro w' ⟨s0,s1,s2,s3,s4⟩;go_simp;with_reducible rfl
              rotate_left
              ·exact zqs
              refine one_ (i:=7) (N:=some 165) (zqb 11 255) rfl rfl (one_of HT_.out zqk) (by decide) (fun K hK=>?_);refine value_ (w1:=?_) (v:=?_) (by rfl) rfl ?_ ?_;rotate_left 2
              ·go_simp
               constructor
               ·rfl
               ·rfl
              refine hK.out _ _ ⟨(blk_cell (blk_alloc a0.out _) 0).trans rfl,(blk_cell (blk_alloc a0.out _) 1).trans rfl,(blk_cell (blk_alloc a2.out _) 0).trans rfl,(blk_cell (blk_alloc a2.out _) 1).trans rfl,(World.cell?_alloc_lt _ _ _ (World.block_lt_of_cell? _ _ (((HB.out.cell (World.block_lt_of_cell? w _ hw248_0)).trans hw248_0)))).trans (((HB.out.cell (World.block_lt_of_cell? w _ hw248_0)).trans hw248_0))⟩ (fun hHeld=>?_);clear hK K;refine norm_ (a':=?_) ?_ ?_;rotate_left
              ·show Act.put _ (some 165) _=_;exact zqs
              refine one_ (i:=8) (N:=some 166) (zqb 11 511) rfl rfl (one_of HT_.out zqk) (by decide) (fun K hK=>?_);refine Kd.R_append_step (Kd.int .i64) (w0:=w) w.heap.size (by rfl) (.tmp 159) (.tmp 165) 28 3 (.int .i64 0) 8 rfl Try.underlying28 info3 rfl (by decide) (by omega) a1 a3 (rd l0_1 a5) [.int .i64 (rd l0_1 a5)] (fun _=>True) (fun _=>False) rfl rfl ?aP (fun _ hk=>hk.elim) ?aF ?aO ?aB ?aS ?aL ?_;(case aP=>exact rfl);(case aB=> exact zq37);(case aF=>exact(fun _ _=>trivial));(case aO=> exact zq380);(case aS=> exact zq31);(case aL=>have:=LMc89.out;omega);intro a6z a0h ho hb hg hat;rw [← y3.out] at ho;replace a2:=zqm (blk_grown (g:=b7) (o:= .cells #[.slice A0_0 l0_0.length c0_0,.slice (some l7) l0_1.length c0_1] 30 (0,0)) zq15 hg (Kd.R_ne HO_217001.out a2.out (by decide)));replace a4:=zqm (blk_grown (g:=b8) (o:= .cells #[.slice A1_0 l1_0.length c1_0,.slice A1_1 l1_1.length c1_1] 30 (0,0)) zq13 hg (Kd.R_ne HO_217001.out a4.out (by decide)));replace a7:=zqm (blk_grown (g:=b9) (o:= .cells #[.slice none 0 0,.slice none 0 0] 30 (0,0)) zq33 hg (Kd.R_ne HO_217001.out a7.out (by decide)));replace a0:=zqm (blk_grown (g:=a6) (o:= .cells #[.slice d4 b5.length d5,a1] 30 (0,0)) zq2 hg (Kd.R_ne HO_217001.out a0.out (by decide)));replace c3:=zqm (Kd.S_after (ok:=(fun _=>True)) zq373 hg hat);replace HB:=zqm (hb);have r7:=zqm (ho);clear HO_217001;clear ho hb hg hat;obtain⟨l8,l9,r8⟩:=Kd.R_slice r7.out;(first|subst r8|(injection r8 with m8 u2 m9;have u3:=m8.symm;have u4:=m9.symm;clear m8 u2 m9;subst u3;subst u4));refine hK.out _ _ ⟨(blk_cell a0.out 0).trans rfl,(blk_cell a0.out 1).trans rfl,(blk_cell a2.out 0).trans rfl,(blk_cell a2.out 1).trans rfl,((HB.out.cell (World.block_lt_of_cell? w _ hw248_0)).trans hw248_0)⟩ (fun hHeld=>?_);clear hK K;refine norm_ (a':=?_) ?_ ?_;rotate_left
              ·show Act.put _ (some 166) _=_;exact zqs
              refine pure_ (i:=9) (N:=some 167) (v:=?_) (a':=?_) (zqb 11 1023) rfl rfl (any_of HT_.out zqk) (fun _ _ _ h=>h) (Or.inl ⟨by rfl,?_⟩) ?_ ?_;rotate_left
              ·exact zqt
              rotate_left
              ·exact zqs
              refine last_ (i:=10) (N:=none) (zqb 11 2047) rfl rfl (one_of HT_.out zqk) (by decide) (fun K hK=>?_);have hs102:a0h.cell? ⟨a6,1,none⟩=some (a1):=(blk_cell a0.out 1).trans rfl;have hfs102:=blk_frozen a0.out 1;have hns102_0:=c0.out;have hns102_1:=c1.out;have hns102_2:=c2.out;have hms102_0:=c5.out;have hms102_1:=c6.out;have hms102_2:=d1.out;refine skip_ (w1:=?_) (by rfl) rfl ?_ ?_;rotate_left
              ·go_simp;rfl
              refine hK.out _ _ ?_;clear hK K;refine done_ (done_of HT_.out zqk) ?_;try go_wp2
              go_roundg k2
              (case measure=>have:=d2.out;have:=d3.out;omega);case rel=>exact⟨(wrap64 (a5+1)),(b5),(j5),(.slice d4 b5.length d5),(.slice l8 j5.length l9),(by first|rfl|(simp;done)|(simp [*];done)),H',⟨by have:=d2.out;have:=d3.out;omega⟩,⟨by(with_reducible repeat(first|apply Kd.S_alloc|apply Kd.S_drewN|apply Kd.S_drew));exact Kd.S_mono (Kd.S_far (p:=⟨a6,1,none⟩) (Kd.S_types c3.out a0.out (by decide)) (fun _ hk=>hk.2) (.slice l8 j5.length l9)) (fun _ hk=>hk.1.2)⟩,⟨by(with_reducible repeat(first|apply Kd.R_alloc|apply Kd.R_drewN|apply Kd.R_drew));exact Kd.R_mono (Kd.R_far (p:=⟨a6,1,none⟩) (Kd.R_types r7.out a0.out (by decide)) (fun _ hk=>hk.2) (.slice l8 j5.length l9)) (fun _ hk=>trivial)⟩,⟨zq64⟩,⟨zq66⟩,⟨zq65⟩,⟨by(with_reducible repeat(first|refine blk_drewN ?_ _|refine blk_drew ?_|refine blk_alloc ?_ _));refine blk_put (cs:= #[.slice d4 b5.length d5,a1]) ?_ 1 _ rfl;(with_reducible repeat(first|refine blk_drewN ?_ _|refine blk_drew ?_|refine blk_alloc ?_ _));exact a0.out⟩,⟨zq12⟩⟩
             ·rw [if_neg r6] at H;exact absurd H (by simp)
            ·rw [if_neg r5] at H;exact absurd H (by simp)
           ·rw [if_neg r4] at H;exact absurd H (by simp)
          ·rw [if_neg l4] at H;have y2:decide (a5<(wrap64 ((l0_1.length:Int) - 1)))=false:=decide_eq_false l4;clear l4;obtain⟨c7,j9⟩: ∃j_:Int,(wrap64 ((wrap64 (a5 - (l0_1.length:Int)))+2))=j_:=⟨_,rfl⟩;(replace H:(if 0≤(c7) then(if(c7)<(l1_1.length:Int) then(if a3.length<17592186044416 then(spec_l20Glued.l0 k2 (l0_1.length:Int) (l1_1.length:Int) (wrap64 (a5+1)) l0_0 l0_1 l1_0 l1_1 b5 (a3 ++ [wrap64 ((wrap64 ((rd l1_1 (c7))+(l0_1.length:Int))) - 2)])) else(none)) else(none)) else(none))=some (r1,r2):=by first|(rw [j9] at H;exact H)|(simp only [j9] at H ⊢;exact H));have a2z:(IntKind.i64.wrap ((wrap64 (a5 - (l0_1.length:Int)))+2))=c7:=(i64_w _).trans j9
           by_cases m0:0≤(c7)
           ·rw [if_pos m0] at H;have a3p:decide (0≤(c7))=true:=decide_eq_true m0;clear m0
            by_cases m1:(c7)<(l1_1.length:Int)
            ·rw [if_pos m1] at H;have a3q:decide ((c7)<(l1_1.length:Int))=true:=decide_eq_true m1;clear m1
             by_cases m2:a3.length<17592186044416
             ·rw [if_pos m2] at H;have LMc106:=zqm m2;clear m2;obtain⟨k0,h2⟩: ∃y_:List Int,y_=(a3 ++ [wrap64 ((wrap64 ((rd l1_1 (c7))+(l0_1.length:Int))) - 2)]):=⟨_,rfl⟩;(replace H:(spec_l20Glued.l0 k2 (l0_1.length:Int) (l1_1.length:Int) (wrap64 (a5+1)) l0_0 l0_1 l1_0 l1_1 b5 k0)=some (r1,r2):=by first|(rw [h2];with_reducible exact H)|(have c4:=(Option.bind_some _ _).symm.trans H;rw [h2];with_reducible exact c4)|(have c4:=(Option.bind_some _ _).symm.trans H;with_reducible exact c4)|with_reducible exact H|(rw [h2];exact H)|exact H);have y4:=zqm h2;clear h2;have H':=zqm H;clear H;have a3r:=c5.out;have a3s:=c0.out;have a3t:=c6.out;have a3u:=c1.out;have a3v:=d1.out;have a3w:=c2.out;have a0i:wr.cell? ⟨a6,0,none⟩=some (b0):=(blk_cell a0.out 0).trans rfl;have a0j:wr.cell? ⟨a6,1,none⟩=some (a1):=(blk_cell a0.out 1).trans rfl;have a0k:=blk_frozen a0.out 0;have a0l:=blk_frozen a0.out 1;obtain⟨r9,s5,y5⟩:=Kd.R_slice HO_9.out;subst y5;(try go_wp2_with (first|((with_reducible refine gate_builtin (b:= .append) (xs:= #[.tmp 108,.tmp 110]) rfl ?_);at_builtin;refine Kd.S_append (Kd.slice 3 (Kd.int .i64)) (w0:=w) w.heap.size rfl (.tmp 108) (.tmp 110) 27 28 (.slice none 0 0) 24 rfl Try.underlying27 info28 rfl (by decide) (by omega) b0 a8 b6 [.slice r9 b6.length s5] (fun k_=>some k_≠(a1:Value).ownBlock) (fun k_=>some k_=(.slice r9 b6.length s5:Value).ownBlock) rfl rfl ?aP (fun k_ hk_=>((Kd.R_mono (ok':=fun k_=>((fun k_=>some k_≠(a1:Value).ownBlock)) k_∧some k_≠(b0:Value).ownBlock) (Kd.R_apart' (HO_9.out) (Kd.S_typed HO_217000.out) (by decide)) (fun k_ hk=>⟨hk.1,hk.2⟩))).1 k_ hk_.symm) ?aF ?aO ?aB ?aS ?aL ?_;(case aP=> exact zq126);(case aB=> exact zq37);(case aF=> exact zq87);(case aO=> exact zq180);(case aS=> exact zq31);(case aL=>have:=LMc59.out;omega);intro o1 e3 ho hb hg hat;rw [← i3.out] at ho;replace HO_217001:=zqm (Kd.R_over' zq47 (Kd.S_typed zq112) (by decide) hg);replace a2:=zqm (blk_grown (g:=b7) (o:= .cells #[.slice A0_0 l0_0.length c0_0,.slice A0_1 l0_1.length c0_1] 30 (0,0)) zq15 hg (Kd.S_ne HO_217000.out a2.out (by decide)));replace a4:=zqm (blk_grown (g:=b8) (o:= .cells #[.slice A1_0 l1_0.length c1_0,.slice A1_1 l1_1.length c1_1] 30 (0,0)) zq13 hg (Kd.S_ne HO_217000.out a4.out (by decide)));replace a7:=zqm (blk_grown (g:=b9) (o:= .cells #[.slice none 0 0,.slice none 0 0] 30 (0,0)) zq33 hg (Kd.S_ne HO_217000.out a7.out (by decide)));replace a0:=zqm (blk_grown (g:=a6) (o:= .cells #[b0,a1] 30 (0,0)) zq2 hg (Kd.S_ne HO_217000.out a0.out (by decide)));replace HB:=zqm (hb);have c3:=zqm (ho);clear HO_217000 HO_9;clear ho hb hg hat;obtain⟨c8,c9,y6⟩:=Kd.S_slice c3.out;subst y6;have a0m:e3.cell? ⟨a6,0,none⟩=some (b0):=(blk_cell a0.out 0).trans rfl;have a0n:e3.cell? ⟨a6,1,none⟩=some (a1):=(blk_cell a0.out 1).trans rfl;have a0o:=blk_frozen a0.out 0;have a0p:=blk_frozen a0.out 1)));have d7:Aside0 (Kd.R (Kd.int .i64) 3 (e3.setCell ⟨a6,0,none⟩ (.slice c8 b5.length c9)) w.heap.size (fun _=>True) a1 a3):=⟨by(with_reducible repeat(first|apply Kd.R_alloc|apply Kd.R_drewN|apply Kd.R_drew));exact Kd.R_mono (Kd.R_far (p:=⟨a6,0,none⟩) (Kd.R_types HO_217001.out a0.out (by decide)) (fun _ hk=>hk.2) (.slice c8 b5.length c9)) (fun _ hk=>trivial)⟩;have d8:Aside0 (Kd.S (Kd.slice 3 (Kd.int .i64)) 28 (e3.setCell ⟨a6,0,none⟩ (.slice c8 b5.length c9)) w.heap.size (fun k_=>some k_≠(a1:Value).ownBlock) (.slice c8 b5.length c9) b5):=⟨by(with_reducible repeat(first|apply Kd.S_alloc|apply Kd.S_drewN|apply Kd.S_drew));exact Kd.S_mono (Kd.S_far (p:=⟨a6,0,none⟩) (Kd.S_types c3.out a0.out (by decide)) (fun _ hk=>hk.2) (.slice c8 b5.length c9)) (fun _ hk=>hk.1)⟩;have e4:Aside0 ((e3.setCell ⟨a6,0,none⟩ (.slice c8 b5.length c9)).heap[b7]? =some (.cells #[.slice A0_0 l0_0.length c0_0,.slice A0_1 l0_1.length c0_1] 30 (0,0))):=⟨zq64⟩
              have e0:Aside0 ((e3.setCell ⟨a6,0,none⟩ (.slice c8 b5.length c9)).heap[b8]? =some (.cells #[.slice A1_0 l1_0.length c1_0,.slice A1_1 l1_1.length c1_1] 30 (0,0))):=⟨zq66⟩;have j6:Aside0 ((e3.setCell ⟨a6,0,none⟩ (.slice c8 b5.length c9)).heap[b9]? =some (.cells #[.slice none 0 0,.slice none 0 0] 30 (0,0))):=⟨zq65⟩;have j7:Aside0 ((e3.setCell ⟨a6,0,none⟩ (.slice c8 b5.length c9)).heap[a6]? =some (.cells #[.slice c8 b5.length c9,a1] 30 (0,0))):=⟨zq130⟩;have j8:Aside0 (Below w.heap.size w (e3.setCell ⟨a6,0,none⟩ (.slice c8 b5.length c9))):=⟨zq12⟩;generalize (e3.setCell ⟨a6,0,none⟩ (.slice c8 b5.length c9))=a0q at d7 d8 e4 e0 j6 j7 j8 ⊢;have HO_217001:=d7;have c3:=d8;have a2:=e4;have a4:=e0;have a7:=j6;have a0:=j7;have HB:=j8;clear d7 d8 e4 e0 j6 j7 j8;replace HO_217001:=zqm (Kd.R_drew HO_217001.out);replace c3:=zqm (Kd.S_drew c3.out);replace a2:=zqm (blk_drew a2.out);replace a4:=zqm (blk_drew a4.out);replace a7:=zqm (blk_drew a7.out);replace a0:=zqm (blk_drew a0.out);replace HB:=zqm (below_drew1 HB.out);have o8:0≤((c7):Int):=zqo;have o9:(c7)<(l1_1.length:Int):=zqo;obtain⟨m3,a0r,e6⟩:=Kd.at_int u8.out (c7) o8 o9;have hw252_0:=e6
              cases a0r
              replace e6:=(HB.out.cell (World.block_lt_of_cell? w _ e6)).trans e6;replace o8:=eq_true o8;replace o9:=eq_true o9;refine start_ (n:=17) (S:=fun w'=>w'.cell? ⟨a6,0,none⟩=some (.slice c8 b5.length c9)∧w'.cell? ⟨a6,1,none⟩=some (a1)∧w'.cell? ⟨b8,0,none⟩=some (.slice A1_0 l1_0.length c1_0)∧w'.cell? ⟨b8,1,none⟩=some (.slice (some m3) l1_1.length c1_1)∧w'.cell? (m3.add ((c7)).toNat)=some (.int .i64 (rd l1_1 (c7)))) (ds:= [16]) (zqb 17 0) zqk rfl rfl ⟨(blk_cell a0.out 0).trans rfl,(blk_cell a0.out 1).trans rfl,(blk_cell a4.out 0).trans rfl,(blk_cell a4.out 1).trans rfl,((HB.out.cell (World.block_lt_of_cell? w _ hw252_0)).trans hw252_0)⟩ (fun hHeld=>?_);refine with_tabW spec_l20Glued.tab22 spec_l20Glued.bits22 (fun HT_ HW_=>?_);generalize a0q.drew=a7a at HO_217001 c3 a2 a4 a7 a0 HB e6 hHeld ⊢;refine pure_ (i:=0) (N:=some 113) (v:=?_) (a':=?_) (zqb 17 1) rfl rfl (any_of HT_.out zqk) (fun _ _ _ h=>h) (Or.inl ⟨by rfl,?_⟩) ?_ ?_;rotate_left
              ·exact zqt
              rotate_left
              ·exact zqs
              refine pure_ (i:=2) (N:=some 115) (v:=?_) (a':=?_) (zqb 17 5) rfl rfl (any_of HT_.out zqk) (fun _ _ _ h=>h) (Or.inl ⟨by rfl,?_⟩) ?_ ?_;rotate_left
              ·exact zqt
              rotate_left
              ·exact zqs
              refine pure_ (i:=4) (N:=some 117) (v:=?_) (a':=?_) (zqb 17 21) rfl rfl (any_of HT_.out zqk) (fun _ _ _ h=>h) (Or.inl ⟨by rfl,?_⟩) ?_ ?_;rotate_left
              ·exact zqt
              rotate_left
              ·exact zqs
              refine pure_ (i:=5) (N:=some 118) (v:=?_) (a':=?_) (zqb 17 53) rfl rfl (any_of HT_.out zqk) (fun _ _ _ h=>h) (Or.inl ⟨by rfl,?_⟩) ?_ ?_;rotate_left
              ·exact zqt
              rotate_left
              ·exact zqs
              refine pure_ (i:=6) (N:=some 119) (v:=?_) (a':=?_) (zqb 17 117) rfl rfl (any_of HT_.out zqk) (fun _ _ _ h=>h) (Or.inl ⟨by rfl,?_⟩) ?_ ?_;rotate_left
              ·exact zqt
              rotate_left
              ·exact zqs
              refine pure_ (i:=7) (N:=some 120) (v:=?_) (a':=?_) (zqb 17 245) rfl rfl (any_of HT_.out zqk) (fun _ _ _ h=>h) (Or.inl ⟨by rfl,?_⟩) ?_ ?_;rotate_left
              ·exact zqt
              rotate_left
              ·exact zqs
              refine pure_ (i:=10) (N:=some 123) (v:=?_) (a':=?_) (zqb 17 1269) rfl rfl (any_of HT_.out zqk) (fun _ _ _ h=>h) (Or.inl ⟨by rfl,?_⟩) ?_ ?_;rotate_left
              ·exact zqt
              rotate_left
              ·exact zqs
              refine take_ (i:=1) (N:=some 114) (v:=?_) (a':=?_) (zqb 17 1271) rfl rfl (take_ofW HT_.out HW_.out zqk) (fun _ _ _ h=>h) (Or.inl ⟨by rfl,?_⟩) hHeld ?_ ?_;rotate_left
              ·rintro w' ⟨s0,s1,s2,s3,s4⟩;go_simp;with_reducible rfl
              rotate_left
              ·exact zqs
              refine take_ (i:=3) (N:=some 116) (v:=?_) (a':=?_) (zqb 17 1279) rfl rfl (take_ofW HT_.out HW_.out zqk) (fun _ _ _ h=>h) (Or.inl ⟨by rfl,?_⟩) hHeld ?_ ?_;rotate_left
              ·rintro w' ⟨s0,s1,s2,s3,s4⟩;go_simp;with_reducible rfl
              rotate_left
              ·exact zqs
              refine pure_ (i:=8) (N:=some 121) (v:=?_) (a':=?_) (zqb 17 1535) rfl rfl (any_of HT_.out zqk) (fun _ _ _ h=>h) (Or.inl ⟨by rfl,?_⟩) ?_ ?_;rotate_left
              ·exact zqt
              rotate_left
              ·exact zqs
              refine take_ (i:=9) (N:=some 122) (v:=?_) (a':=?_) (zqb 17 2047) rfl rfl (take_ofW HT_.out HW_.out zqk) (fun _ _ _ h=>h) (Or.inl ⟨by rfl,?_⟩) hHeld ?_ ?_;rotate_left
              ·rintro w' ⟨s0,s1,s2,s3,s4⟩;go_simp;with_reducible rfl
              rotate_left
              ·exact zqs
              refine pure_ (i:=11) (N:=some 124) (v:=?_) (a':=?_) (zqb 17 4095) rfl rfl (any_of HT_.out zqk) (fun _ _ _ h=>h) (Or.inl ⟨by rfl,?_⟩) ?_ ?_;rotate_left
              ·exact zqt
              rotate_left
              ·exact zqs
              refine pure_ (i:=12) (N:=some 125) (v:=?_) (a':=?_) (zqb 17 8191) rfl rfl (any_of HT_.out zqk) (fun _ _ _ h=>h) (Or.inl ⟨by rfl,?_⟩) ?_ ?_;rotate_left
              ·exact zqt
              rotate_left
              ·exact zqs
              refine one_ (i:=13) (N:=some 126) (zqb 17 16383) rfl rfl (one_of HT_.out zqk) (by decide) (fun K hK=>?_);refine value_ (w1:=?_) (v:=?_) (by rfl) rfl ?_ ?_;rotate_left 2
              ·go_simp
               constructor
               ·rfl
               ·rfl
              refine hK.out _ _ ⟨(blk_cell (blk_alloc a0.out _) 0).trans rfl,(blk_cell (blk_alloc a0.out _) 1).trans rfl,(blk_cell (blk_alloc a4.out _) 0).trans rfl,(blk_cell (blk_alloc a4.out _) 1).trans rfl,(World.cell?_alloc_lt _ _ _ (World.block_lt_of_cell? _ _ (((HB.out.cell (World.block_lt_of_cell? w _ hw252_0)).trans hw252_0)))).trans (((HB.out.cell (World.block_lt_of_cell? w _ hw252_0)).trans hw252_0))⟩ (fun hHeld=>?_);clear hK K;refine norm_ (a':=?_) ?_ ?_;rotate_left
              ·show Act.put _ (some 126) _=_;exact zqs
              refine one_ (i:=14) (N:=some 127) (zqb 17 32767) rfl rfl (one_of HT_.out zqk) (by decide) (fun K hK=>?_);refine Kd.R_append_step (Kd.int .i64) (w0:=w) w.heap.size (by rfl) (.tmp 114) (.tmp 126) 28 3 (.int .i64 0) 8 rfl Try.underlying28 info3 rfl (by decide) (by omega) a1 a3 (wrap64 ((wrap64 ((rd l1_1 (c7))+(l0_1.length:Int))) - 2)) [.int .i64 (wrap64 ((wrap64 ((rd l1_1 (c7))+(l0_1.length:Int))) - 2))] (fun _=>True) (fun _=>False) rfl rfl ?aP (fun _ hk=>hk.elim) ?aF ?aO ?aB ?aS ?aL ?_;(case aP=>exact rfl);(case aB=> exact zq37);(case aF=>exact(fun _ _=>trivial));(case aO=> exact zq380);(case aS=> exact zq31);(case aL=>have:=LMc106.out;omega);intro a7b a0s ho hb hg hat;rw [← y4.out] at ho;replace a2:=zqm (blk_grown (g:=b7) (o:= .cells #[.slice A0_0 l0_0.length c0_0,.slice A0_1 l0_1.length c0_1] 30 (0,0)) zq15 hg (Kd.R_ne HO_217001.out a2.out (by decide)));replace a4:=zqm (blk_grown (g:=b8) (o:= .cells #[.slice A1_0 l1_0.length c1_0,.slice (some m3) l1_1.length c1_1] 30 (0,0)) zq13 hg (Kd.R_ne HO_217001.out a4.out (by decide)));replace a7:=zqm (blk_grown (g:=b9) (o:= .cells #[.slice none 0 0,.slice none 0 0] 30 (0,0)) zq33 hg (Kd.R_ne HO_217001.out a7.out (by decide)));replace a0:=zqm (blk_grown (g:=a6) (o:= .cells #[.slice c8 b5.length c9,a1] 30 (0,0)) zq2 hg (Kd.R_ne HO_217001.out a0.out (by decide)));replace c3:=zqm (Kd.S_after (ok:=(fun _=>True)) zq373 hg hat);replace HB:=zqm (hb);have s6:=zqm (ho);clear HO_217001;clear ho hb hg hat;obtain⟨m4,m5,s7⟩:=Kd.R_slice s6.out;(first|subst s7|(injection s7 with m8 u2 m9;have u3:=m8.symm;have u4:=m9.symm;clear m8 u2 m9;subst u3;subst u4));refine hK.out _ _ ⟨(blk_cell a0.out 0).trans rfl,(blk_cell a0.out 1).trans rfl,(blk_cell a4.out 0).trans rfl,(blk_cell a4.out 1).trans rfl,((HB.out.cell (World.block_lt_of_cell? w _ hw252_0)).trans hw252_0)⟩ (fun hHeld=>?_);clear hK K;refine norm_ (a':=?_) ?_ ?_;rotate_left
              ·show Act.put _ (some 127) _=_;exact zqs
              refine pure_ (i:=15) (N:=some 128) (v:=?_) (a':=?_) (zqb 17 65535) rfl rfl (any_of HT_.out zqk) (fun _ _ _ h=>h) (Or.inl ⟨by rfl,?_⟩) ?_ ?_;rotate_left
              ·exact zqt
              rotate_left
              ·exact zqs
              refine last_ (i:=16) (N:=none) (zqb 17 131071) rfl rfl (one_of HT_.out zqk) (by decide) (fun K hK=>?_);have hs119:a0s.cell? ⟨a6,1,none⟩=some (a1):=(blk_cell a0.out 1).trans rfl;have hfs119:=blk_frozen a0.out 1;have hns119_0:=c0.out;have hns119_1:=c1.out;have hns119_2:=c2.out;have hms119_0:=c5.out;have hms119_1:=c6.out;have hms119_2:=d1.out;refine skip_ (w1:=?_) (by rfl) rfl ?_ ?_;rotate_left
              ·go_simp;rfl
              refine hK.out _ _ ?_;clear hK K;refine done_ (done_of HT_.out zqk) ?_;try go_wp2
              go_roundg k2
              (case measure=>have:=d2.out;have:=d3.out;omega);case rel=>exact⟨(wrap64 (a5+1)),(b5),(k0),(.slice c8 b5.length c9),(.slice m4 k0.length m5),(by first|rfl|(simp;done)|(simp [*];done)),H',⟨by have:=d2.out;have:=d3.out;omega⟩,⟨by(with_reducible repeat(first|apply Kd.S_alloc|apply Kd.S_drewN|apply Kd.S_drew));exact Kd.S_mono (Kd.S_far (p:=⟨a6,1,none⟩) (Kd.S_types c3.out a0.out (by decide)) (fun _ hk=>hk.2) (.slice m4 k0.length m5)) (fun _ hk=>hk.1.2)⟩,⟨by(with_reducible repeat(first|apply Kd.R_alloc|apply Kd.R_drewN|apply Kd.R_drew));exact Kd.R_mono (Kd.R_far (p:=⟨a6,1,none⟩) (Kd.R_types s6.out a0.out (by decide)) (fun _ hk=>hk.2) (.slice m4 k0.length m5)) (fun _ hk=>trivial)⟩,⟨zq64⟩,⟨zq66⟩,⟨zq65⟩,⟨by(with_reducible repeat(first|refine blk_drewN ?_ _|refine blk_drew ?_|refine blk_alloc ?_ _));refine blk_put (cs:= #[.slice c8 b5.length c9,a1]) ?_ 1 _ rfl;(with_reducible repeat(first|refine blk_drewN ?_ _|refine blk_drew ?_|refine blk_alloc ?_ _));exact a0.out⟩,⟨zq12⟩⟩
             ·rw [if_neg m2] at H;exact absurd H (by simp)
            ·rw [if_neg m1] at H;exact absurd H (by simp)
           ·rw [if_neg m0] at H;exact absurd H (by simp)
       ·rw [if_neg q7] at H;exact absurd H (by simp)
   ·rw [if_neg k3] at H;have v0:decide (a5<(wrap64 ((wrap64 ((l0_1.length:Int)+(l1_1.length:Int))) - 2)))=false:=decide_eq_false k3;clear k3;simp only [Option.some.injEq,Prod.mk.injEq] at H;obtain⟨rfl,rfl⟩:=H;have a3x:=c5.out;have a3y:=c0.out;have a3z:=c6.out;have a4a:=c1.out;have a4b:=d1.out;have a4c:=c2.out;have a0t:wr.cell? ⟨a6,0,none⟩=some (b0):=(blk_cell a0.out 0).trans rfl;have a0u:wr.cell? ⟨a6,1,none⟩=some (a1):=(blk_cell a0.out 1).trans rfl;have a0v:=blk_frozen a0.out 0;have a0w:=blk_frozen a0.out 1;obtain⟨i4,i5,y7⟩:=Kd.S_slice HO_217000.out;subst y7;have a4d:=f0.out;have a4e:=e9.out;have a4f:=f2.out;have a4g:=f1.out;have a0x:wr.cell? ⟨b9,0,none⟩=some (.slice none 0 0):=(blk_cell a7.out 0).trans rfl;have a0y:wr.cell? ⟨b9,1,none⟩=some (.slice none 0 0):=(blk_cell a7.out 1).trans rfl;have a0z:=blk_frozen a7.out 0;have a1a:=blk_frozen a7.out 1;obtain⟨m6,m7,y8⟩:=Kd.R_slice HO_217001.out;subst y8
    go_wp2
    refine bodyPost_ret (results_cell_row rfl _ _ b9 30 #[.slice i4 a8.length i5,.slice m6 a3.length m7] (0,0) _ rfl (by(with_reducible repeat(first|refine blk_drewN ?_ _|refine blk_drew ?_|refine blk_alloc ?_ _));refine blk_put (cs:= #[.slice i4 a8.length i5,.slice none 0 0]) ?_ 1 _ rfl;(with_reducible repeat(first|refine blk_drewN ?_ _|refine blk_drew ?_|refine blk_alloc ?_ _));refine blk_put (cs:= #[.slice none 0 0,.slice none 0 0]) ?_ 0 _ rfl;(with_reducible repeat(first|refine blk_drewN ?_ _|refine blk_drew ?_|refine blk_alloc ?_ _));exact a7.out) Try.underlying30 rfl zqk) rfl ?_;exact⟨_,_,zq11,by(with_reducible repeat(first|apply Kd.S_alloc|apply Kd.S_drewN|apply Kd.S_drew));exact Kd.S_mono (Kd.S_far (p:=⟨b9,1,none⟩) (Kd.S_far (p:=⟨b9,0,none⟩) (Kd.S_types HO_217000.out a7.out (by decide)) (fun _ hk=>hk.2) (.slice i4 a8.length i5)) (fun _ hk=>hk.2) (.slice m6 a3.length m7)) (fun _ hk=>hk.1),by(with_reducible repeat(first|apply Kd.R_alloc|apply Kd.R_drewN|apply Kd.R_drew));exact Kd.R_mono (Kd.R_far (p:=⟨b9,1,none⟩) (Kd.R_far (p:=⟨b9,0,none⟩) (Kd.R_types HO_217001.out a7.out (by decide)) (fun _ hk=>hk.2) (.slice i4 a8.length i5)) (fun _ hk=>hk.2) (.slice m6 a3.length m7)) (fun _ hk=>trivial),zq12⟩
end Go.Proofs.Ytdoomkcgdcfmlaa.Print
end
section
namespace Go.Proofs.Ytdoomkcgdcfmlaa.Print
open Go.RowKit Go.Proofs.YtdoomkcgdcfmlaaW.PrintWords Go.Proofs.YtdoomkcgdcfmlaaW.PrintLast Go.Proofs.YtdoomkcgdcfmlaaW.PrintMore
attribute [local go_sem] max2_int min2_int max_two min_two max_three min_three max_four min_four   -- for this text's walks alone
def spec_l1In.f (a0 : Int) (a1 : Int) (a2 : Int) : Option (Bool) := if a0 ≥ a1 then (some (decide (a0 ≤ a2))) else (some false)
set_option maxHeartbeats 8000000 in
set_option maxRecDepth 100000 in
theorem spec_l1In.calls (a0 : Int) (a1 : Int) (a2 : Int) (r : Bool) (w : World) (h : spec_l1In.f a0 a1 a2 = some r) :
  Calls Try.prog 94 #[.int .i64 a0, .int .i64 a1, .int .i64 a2] w fun e w' => e = .returned (.bool r) ∧ Drawn0 w w' := by
 have H : (if a0 ≥ a1 then (some (decide (a0 ≤ a2))) else (some false)) = some r := h
 clear h
 by_cases c4 : a0 ≥ a1
 ·rw [if_pos c4] at H
  have c4b0 : decide (a1 ≤ a0) = true := decide_eq_true c4
  clear c4
  obtain rfl := Option.some.inj H
  go_enter Try.func94, Try.ntmps94
  go_wp2
  go_ret
  exact ⟨zq398, by repeat (first | exact Drawn0.refl _ | apply Drawn0.step)⟩
 ·rw [if_neg c4] at H
  have c4b0 : decide (a1 ≤ a0) = false := decide_eq_false c4
  clear c4
  obtain rfl := Option.some.inj H
  go_enter Try.func94, Try.ntmps94
  go_wp2
  go_ret
  exact ⟨zq398, by repeat (first | exact Drawn0.refl _ | apply Drawn0.step)⟩
end Go.Proofs.Ytdoomkcgdcfmlaa.Print
end
section
namespace Go.Proofs.Ytdoomkcgdcfmlaa.Print
open Go.RowKit Go.Proofs.YtdoomkcgdcfmlaaW.PrintWords Go.Proofs.YtdoomkcgdcfmlaaW.PrintLast Go.Proofs.YtdoomkcgdcfmlaaW.PrintMore
attribute [local go_sem] max2_int min2_int max_two min_two max_three min_three max_four min_four   -- for this text's walks alone
mutual
def spec_l20Pasted.l0 : Nat → Int → List (List Int) → Option ((List (List Int)) × List Int)
 | 0, _, _ => none
 | k + 1, x2, x258000 => if x2 < 12 then (spec_l20Pasted.l1 k x2 (([] : List Int)) 0 x258000) else (some (x258000, (([11, 6, 7, 8, 9, 10, 1, 2, 3, 4, 5, 0] : List Int))))
def spec_l20Pasted.l1 : Nat → Int → List Int → Int → List (List Int) → Option ((List (List Int)) × List Int)
 | 0, _, _, _, _ => none
 | k + 1, x2, x3, x4, x258000 => if x4 < 12 then (if x2 = x4 then (spec_l20Pasted.j2 k x2 x3 x4 0 true x258000) else (if x2 = 0 then (spec_l20Pasted.j2 k x2 x3 x4 0 true x258000) else (spec_l20Pasted.j2 k x2 x3 x4 0 (x4 == 11) x258000))) else (if x258000.length < 5864062014805 then (spec_l20Pasted.l0 k (wrap64 (x2 + 1)) (x258000 ++ [x3])) else (none))
def spec_l20Pasted.j2 : Nat → Int → List Int → Int → Int → Bool → List (List Int) → Option ((List (List Int)) × List Int)
 | 0, _, _, _, _, _, _ => none
 | k + 1, x2, x3, x4, x5, x17, x258000 => if x17 = true then (if x3.length < 17592186044416 then (spec_l20Pasted.l1 k x2 (x3 ++ [1]) (wrap64 (x4 + 1)) x258000) else (none)) else ((spec_l1In.f x2 1 5).bind fun t270 => (if t270 = true then ((spec_l1In.f x4 6 10).bind fun t271 => (if t271 = true then (spec_l20Pasted.j3 k x2 x3 x4 x5 (x2 != (wrap64 (x4 - 5))) x258000) else (spec_l20Pasted.j3 k x2 x3 x4 x5 false x258000))) else (spec_l20Pasted.j3 k x2 x3 x4 x5 false x258000)))
def spec_l20Pasted.j3 : Nat → Int → List Int → Int → Int → Bool → List (List Int) → Option ((List (List Int)) × List Int)
 | 0, _, _, _, _, _, _ => none
 | k + 1, x2, x3, x4, x5, x29, x258000 => if x29 = true then (if x2 ≤ 3 then (if (wrap64 (x4 - 5)) ≤ 3 then (if x3.length < 17592186044416 then (spec_l20Pasted.l1 k x2 (x3 ++ [1]) (wrap64 (x4 + 1)) x258000) else (none)) else (if x2 ≥ 3 then (if (wrap64 (x4 - 5)) ≥ 3 then (if x3.length < 17592186044416 then (spec_l20Pasted.l1 k x2 (x3 ++ [1]) (wrap64 (x4 + 1)) x258000) else (none)) else (if x3.length < 17592186044416 then (spec_l20Pasted.l1 k x2 (x3 ++ [x5]) (wrap64 (x4 + 1)) x258000) else (none))) else (if x3.length < 17592186044416 then (spec_l20Pasted.l1 k x2 (x3 ++ [x5]) (wrap64 (x4 + 1)) x258000) else (none)))) else (if x2 ≥ 3 then (if (wrap64 (x4 - 5)) ≥ 3 then (if x3.length < 17592186044416 then (spec_l20Pasted.l1 k x2 (x3 ++ [1]) (wrap64 (x4 + 1)) x258000) else (none)) else (if x3.length < 17592186044416 then (spec_l20Pasted.l1 k x2 (x3 ++ [x5]) (wrap64 (x4 + 1)) x258000) else (none))) else (if x3.length < 17592186044416 then (spec_l20Pasted.l1 k x2 (x3 ++ [x5]) (wrap64 (x4 + 1)) x258000) else (none)))) else (if x3.length < 17592186044416 then (spec_l20Pasted.l1 k x2 (x3 ++ [x5]) (wrap64 (x4 + 1)) x258000) else (none))
end
def spec_l20Pasted.f (k : Nat)  : Option ((List (List Int)) × List Int) := spec_l20Pasted.l0 k 0 ([] : List (List Int))
theorem spec_l20Pasted.mono_l : ∀ k, (∀ y0 y1, LeO (spec_l20Pasted.l0 k y0 y1) (spec_l20Pasted.l0 (k + 1) y0 y1)) ∧ (∀ y0 y1 y2 y3, LeO (spec_l20Pasted.l1 k y0 y1 y2 y3) (spec_l20Pasted.l1 (k + 1) y0 y1 y2 y3)) ∧ (∀ y0 y1 y2 y3 y4 y5, LeO (spec_l20Pasted.j2 k y0 y1 y2 y3 y4 y5) (spec_l20Pasted.j2 (k + 1) y0 y1 y2 y3 y4 y5)) ∧ (∀ y0 y1 y2 y3 y4 y5, LeO (spec_l20Pasted.j3 k y0 y1 y2 y3 y4 y5) (spec_l20Pasted.j3 (k + 1) y0 y1 y2 y3 y4 y5))
 | 0 => ⟨fun _ _ r h => by simp [spec_l20Pasted.l0] at h, fun _ _ _ _ r h => by simp [spec_l20Pasted.l1] at h, fun _ _ _ _ _ _ r h => by simp [spec_l20Pasted.j2] at h, fun _ _ _ _ _ _ r h => by simp [spec_l20Pasted.j3] at h⟩
 | k + 1 => by
  obtain ⟨ih0, ih1, ih2, ih3⟩ := spec_l20Pasted.mono_l k
  refine ⟨?_, ?_, ?_, ?_⟩
  ·intro y0 y1
   unfold spec_l20Pasted.l0
   repeat' first
   | (with_reducible exact ih0 _ _)
   | (with_reducible exact ih1 _ _ _ _)
   | (with_reducible exact ih2 _ _ _ _ _ _)
   | (with_reducible exact ih3 _ _ _ _ _ _)
   | (with_reducible exact LeO.refl _)
   | (with_reducible exact LeO.none _)
   | (with_reducible refine LeO.ite ?_ ?_)
   | (with_reducible refine LeO.bind ?_ (fun _ => ?_))
   | exact ih0 _ _
   | exact ih1 _ _ _ _
   | exact ih2 _ _ _ _ _ _
   | exact ih3 _ _ _ _ _ _
   | exact LeO.none _
   | refine LeO.ite ?_ ?_
   | refine LeO.bind ?_ (fun _ => ?_)
  ·intro y0 y1 y2 y3
   unfold spec_l20Pasted.l1
   repeat' first
   | (with_reducible exact ih0 _ _)
   | (with_reducible exact ih1 _ _ _ _)
   | (with_reducible exact ih2 _ _ _ _ _ _)
   | (with_reducible exact ih3 _ _ _ _ _ _)
   | (with_reducible exact LeO.refl _)
   | (with_reducible exact LeO.none _)
   | (with_reducible refine LeO.ite ?_ ?_)
   | (with_reducible refine LeO.bind ?_ (fun _ => ?_))
   | exact ih0 _ _
   | exact ih1 _ _ _ _
   | exact ih2 _ _ _ _ _ _
   | exact ih3 _ _ _ _ _ _
   | exact LeO.none _
   | refine LeO.ite ?_ ?_
   | refine LeO.bind ?_ (fun _ => ?_)
  ·intro y0 y1 y2 y3 y4 y5
   unfold spec_l20Pasted.j2
   repeat' first
   | (with_reducible exact ih0 _ _)
   | (with_reducible exact ih1 _ _ _ _)
   | (with_reducible exact ih2 _ _ _ _ _ _)
   | (with_reducible exact ih3 _ _ _ _ _ _)
   | (with_reducible exact LeO.refl _)
   | (with_reducible exact LeO.none _)
   | (with_reducible refine LeO.ite ?_ ?_)
   | (with_reducible refine LeO.bind ?_ (fun _ => ?_))
   | exact ih0 _ _
   | exact ih1 _ _ _ _
   | exact ih2 _ _ _ _ _ _
   | exact ih3 _ _ _ _ _ _
   | exact LeO.none _
   | refine LeO.ite ?_ ?_
   | refine LeO.bind ?_ (fun _ => ?_)
  ·intro y0 y1 y2 y3 y4 y5
   unfold spec_l20Pasted.j3
   repeat' first
   | (with_reducible exact ih0 _ _)
   | (with_reducible exact ih1 _ _ _ _)
   | (with_reducible exact ih2 _ _ _ _ _ _)
   | (with_reducible exact ih3 _ _ _ _ _ _)
   | (with_reducible exact LeO.refl _)
   | (with_reducible exact LeO.none _)
   | (with_reducible refine LeO.ite ?_ ?_)
   | (with_reducible refine LeO.bind ?_ (fun _ => ?_))
   | exact ih0 _ _
   | exact ih1 _ _ _ _
   | exact ih2 _ _ _ _ _ _
   | exact ih3 _ _ _ _ _ _
   | exact LeO.none _
   | refine LeO.ite ?_ ?_
   | refine LeO.bind ?_ (fun _ => ?_)
theorem spec_l20Pasted.mono : ∀ k, LeO (spec_l20Pasted.f k ) (spec_l20Pasted.f (k + 1) ) := by
 intro  k
 obtain ⟨ih0, ih1, ih2, ih3⟩ := spec_l20Pasted.mono_l k
 unfold spec_l20Pasted.f
 repeat' first
   | (with_reducible exact ih0 _ _)
   | (with_reducible exact ih1 _ _ _ _)
   | (with_reducible exact ih2 _ _ _ _ _ _)
   | (with_reducible exact ih3 _ _ _ _ _ _)
   | (with_reducible exact LeO.refl _)
   | (with_reducible exact LeO.none _)
   | (with_reducible refine LeO.ite ?_ ?_)
   | (with_reducible refine LeO.bind ?_ (fun _ => ?_))
   | exact ih0 _ _
   | exact ih1 _ _ _ _
   | exact ih2 _ _ _ _ _ _
   | exact ih3 _ _ _ _ _ _
   | exact LeO.none _
   | refine LeO.ite ?_ ?_
   | refine LeO.bind ?_ (fun _ => ?_)
set_option maxHeartbeats 8000000 in
set_option maxRecDepth 100000 in
theorem spec_l20Pasted.calls (k : Nat)  (r1 : List (List Int)) (r2 : List Int) (w : World) (h : spec_l20Pasted.f k  = some (r1, r2)) :
  Calls Try.prog 127 #[] w fun e w' => ∃ v0_ v1_ : Value, e = .returned (.agg #[v0_, v1_]) ∧ Kd.S (Kd.slice 3 (Kd.int .i64)) 28 w' w.heap.size (fun k_ => some k_ ≠ (v1_ : Value).ownBlock) v0_ r1 ∧ Kd.R (Kd.int .i64) 3 w' w.heap.size (fun _ => True) v1_ r2 ∧ Below w.heap.size w w' := by
 have hu30:=Try.underlying30;have HB:=zqm (Below.refl w.heap.size w);have H:(spec_l20Pasted.l0 k 0 ([]:List (List Int)))=some (r1,r2):=h;clear h;have H':=zqm H;clear H
 go_enter Try.func127,Try.ntmps127
 go_wp2_with (first|((with_reducible refine gate_dst (N:=0) rfl ?_);refine box_event ?hg (N:=0) ?hd (cs:= #[.slice none 0 0,.slice none 0 0]) (t:=30) ?hr ?_;(case hd=>rfl);(case hg=>rfl);(case hr=>first|(go_simp;done)|(go_simp;rfl));intro b0 hg w1 hbox hb;have f5:=zqm (below_step zq0 hb);have a2:=zqm (hbox);have q0:=zqm ((by rw [hg];exact(below_size zq0):w.heap.size≤b0));have a6:=zqm ((by rw [hg];exact(below_size zq0):w.heap.size≤b0));clear HB;have HB:=f5;clear f5 hb hbox hg)|((with_reducible refine gate_dst (N:=1) rfl ?_);refine box_event ?hg (N:=1) ?hd (cs:= #[.slice none 0 0,.slice none 0 0]) (t:=30) ?hr ?_;(case hd=>rfl);(case hg=>rfl);(case hr=>first|(go_simp;done)|(go_simp;rfl));intro a9 hg w2 hbox hb;have f5:=zqm (blk_below (g:=b0) (o:= .cells #[.slice none 0 0,.slice none 0 0] 30 (0,0)) zq15 hb);have m9:=zqm (below_step zq25 hb);have a1:=zqm (hbox);have q1:=zqm ((by rw [hg];exact(below_size zq25):w.heap.size≤a9));have a7:=zqm ((by rw [hg];exact(below_size zq25):w.heap.size≤a9));have b5:=zqm ((by rw [hg];exact Nat.ne_of_lt (blk_lt (g:=b0) (o:= .cells #[.slice none 0 0,.slice none 0 0] 30 (0,0)) zq15):b0≠a9));have b9:=zqm ((by rw [hg];exact Nat.ne_of_gt (blk_lt (g:=b0) (o:= .cells #[.slice none 0 0,.slice none 0 0] 30 (0,0)) zq15):a9≠b0));clear a2 HB;have a2:=f5;have HB:=m9;clear f5 m9 hb hbox hg;have q6:=b9.out;have q7:=b5.out;have p4:w2.cell? ⟨a9,0,none⟩=some (.slice none 0 0):=(blk_cell a1.out 0).trans rfl;have p5:w2.cell? ⟨a9,1,none⟩=some (.slice none 0 0):=(blk_cell a1.out 1).trans rfl;have p6:=blk_frozen a1.out 0;have p7:=blk_frozen a1.out 1))
 go_loopg [2] k (fun kq v2 w'=> ∃(a3:Int) (a0:List (List Int)) (a8:Value),v2= .int .i64 a3∧Aside0 (spec_l20Pasted.l0 kq a3 a0=some (r1,r2))∧Aside0 (kq≤k)∧Aside0 (Kd.S (Kd.slice 3 (Kd.int .i64)) 28 w' w.heap.size (fun _=>True) a8 a0)∧Aside0 (w'.heap[b0]? =some (.cells #[(.slice none 0 0),(.slice none 0 0)] 30 (0,0)))∧Aside0 (w'.heap[a9]? =some (.cells #[a8,(.slice none 0 0)] 30 (0,0)))∧Aside0 (Below w.heap.size w w'))
 case atStart=>exact⟨(0),(([]:List (List Int))),(.slice none 0 0),(by first|rfl|(simp;done)|(simp [*];done)),H',⟨Nat.le_refl _⟩,⟨zq285⟩,⟨by(with_reducible repeat(first|refine blk_drewN ?_ _|refine blk_drew ?_|refine blk_alloc ?_ _));refine blk_far ?_ b5.out _;(with_reducible repeat(first|refine blk_drewN ?_ _|refine blk_drew ?_|refine blk_alloc ?_ _));refine blk_far ?_ b5.out _;(with_reducible repeat(first|refine blk_drewN ?_ _|refine blk_drew ?_|refine blk_alloc ?_ _));exact a2.out⟩,⟨zq150⟩,⟨zq19⟩⟩
 case round=>
  clear H';obtain⟨a3,a0,a8,rfl,HA,b3,HO_258000,a2,a1,HB⟩:=hrel
  cases gk with
  |zero=>exact absurd HA.out (by simp [spec_l20Pasted.l0])
  |succ k1=>
   have H:=HA.out;clear HA;simp only [spec_l20Pasted.l0] at H
   by_cases c5:a3<12
   ·rw [if_pos c5] at H;have n2:decide (a3<12)=true:=decide_eq_true c5;clear c5;obtain⟨h6,c1⟩: ∃y_:List Int,y_=(([]:List Int)):=⟨_,rfl⟩;(replace H:(spec_l20Pasted.l1 k1 a3 h6 0 a0)=some (r1,r2):=by first|(rw [c1];with_reducible exact H)|(have b1:=(Option.bind_some _ _).symm.trans H;rw [c1];with_reducible exact b1)|(have b1:=(Option.bind_some _ _).symm.trans H;with_reducible exact b1)|with_reducible exact H|(rw [c1];exact H)|exact H);have f7:=zqm c1;clear c1;have H':=zqm H;clear H
    go_wp2_with (first|((with_reducible refine gate_dst (N:=12) rfl ?_);refine Kd.R_lit (Kd.int .i64) _ 3 ?hg (N:=12) ?hd (xs:=([]:List Int)) (inner:= []) (ok:=fun _=>True) (okp:=fun _=>True) ?hr ?hp (fun _ hk=>hk) trivial (Below.refl _ _) (Nat.le_refl _) (by simp) ?_;(case hd=>rfl);(case hg=>rfl);(case hr=>first|(go_simp;done)|(go_simp;rfl));(case hp=>exact(Reps.none _ _));intro q8 w6 e4 hb hg_ hnew_;clear hg_ hnew_;(first|rw [← f7.out] at e4|(simp only [Int.reduceToNat] at e4;rw [← f7.out] at e4));replace HO_258000:=zqm (Kd.S_elder' zq157 (Kd.R_base e4) hb);have j6:=zqm (Kd.R_lower e4 (below_size zq19));replace a2:=zqm (blk_below (g:=b0) (o:= .cells #[.slice none 0 0,.slice none 0 0] 30 (0,0)) zq15 hb);replace a1:=zqm (blk_below (g:=a9) (o:= .cells #[a8,.slice none 0 0] 30 (0,0)) zq16 hb);replace HB:=zqm (below_step zq19 hb);clear hb e4))
    go_loopg [3,4] k1 (fun kq v3 v4 w'=> ∃(a5:List Int) (a4:Int),v4= .int .i64 a4∧Aside0 (spec_l20Pasted.l1 kq a3 a5 a4 a0=some (r1,r2))∧Aside0 (kq≤k1)∧Aside0 (Kd.R (Kd.int .i64) 3 w' w.heap.size (fun _=>True) v3 a5)∧Aside0 (Kd.S (Kd.slice 3 (Kd.int .i64)) 28 w' w.heap.size (fun k_=>some k_≠(v3:Value).ownBlock) a8 a0)∧Aside0 (w'.heap[b0]? =some (.cells #[(.slice none 0 0),(.slice none 0 0)] 30 (0,0)))∧Aside0 (w'.heap[a9]? =some (.cells #[a8,(.slice none 0 0)] 30 (0,0)))∧Aside0 (Below w.heap.size w w'))
    case atStart=>exact⟨(h6),(0),(by first|rfl|(simp;done)|(simp [*];done)),H',⟨Nat.le_refl _⟩,⟨by(with_reducible repeat(first|apply Kd.R_alloc|apply Kd.R_drewN|apply Kd.R_drew));exact j6.out⟩,⟨zq101⟩,⟨zq15⟩,⟨zq16⟩,⟨zq19⟩⟩
    case round=>
     clear H';obtain⟨a5,a4,rfl,HA,b4,HO_3,HO_258000,a2,a1,HB⟩:=hrel
     cases gk with
     |zero=>exact absurd HA.out (by simp [spec_l20Pasted.l1])
     |succ k2=>
      have H:=HA.out;clear HA;simp only [spec_l20Pasted.l1] at H
      by_cases c8:a4<12
      ·rw [if_pos c8] at H;have n3:decide (a4<12)=true:=decide_eq_true c8;clear c8;have h7:=zqm H;clear H
       go_upto_region 10 with (fail)
       go_cut [17] (fun p8 wc=> ∃(kq:Nat) (d9:Bool),p8= .bool d9∧Aside0 (spec_l20Pasted.j2 kq a3 a5 a4 0 d9 a0=some (r1,r2))∧Aside0 (kq≤k2)∧Aside0 (Kd.R (Kd.int .i64) 3 wc w.heap.size (fun _=>True) u3 a5)∧Aside0 (Kd.S (Kd.slice 3 (Kd.int .i64)) 28 wc w.heap.size (fun k_=>some k_≠(u3:Value).ownBlock) a8 a0)∧Aside0 (wc.heap[b0]? =some (.cells #[(.slice none 0 0),(.slice none 0 0)] 30 (0,0)))∧Aside0 (wc.heap[a9]? =some (.cells #[a8,(.slice none 0 0)] 30 (0,0)))∧Aside0 (Below w.heap.size w wc))
       case first=>
        have H:=h7.out;clear h7
        by_cases e0:a3=a4
        ·rw [if_pos e0] at H;have c2:(a3==a4)=true:=beq_iff_eq.mpr e0;have j7:(a3 !=a4)=false:=bne_eq_false_iff_eq.mpr e0;clear e0;(first|rw [c2]|(simp only [i64_w,i32_w];rw [c2])|skip);have H':=zqm H;clear H
         go_wp2
         go_meet
         case rel=>exact⟨_,(true),(by first|rfl|(simp;done)|(simp [*];done)),H',⟨zq406⟩,⟨zq58⟩,⟨zq157⟩,⟨zq15⟩,⟨zq16⟩,⟨zq19⟩⟩
        ·rw [if_neg e0] at H;have c2:(a3==a4)=false:=beq_eq_false_iff_ne.mpr e0;have j7:(a3 !=a4)=true:=bne_iff_ne.mpr e0;(first|rw [c2]|(simp only [i64_w,i32_w];rw [c2])|skip)
         by_cases e1:a3=0
         ·rw [if_pos e1] at H;have j8:(a3==0)=true:=beq_iff_eq.mpr e1;have j9:(a3 !=0)=false:=bne_eq_false_iff_eq.mpr e1;clear e1;have H':=zqm H;clear H
          go_wp2
          go_meet
          case rel=>exact⟨_,(true),(by first|rfl|(simp;done)|(simp [*];done)),H',⟨zq406⟩,⟨zq58⟩,⟨zq157⟩,⟨zq15⟩,⟨zq16⟩,⟨zq19⟩⟩
         ·rw [if_neg e1] at H;have j8:(a3==0)=false:=beq_eq_false_iff_ne.mpr e1;have j9:(a3 !=0)=true:=bne_iff_ne.mpr e1;have H':=zqm H;clear H
          go_wp2
          go_meet
          case rel=>exact⟨_,((a4==11)),(by first|rfl|(simp;done)|(simp [*];done)),H',⟨zq406⟩,⟨zq58⟩,⟨zq157⟩,⟨zq15⟩,⟨zq16⟩,⟨zq19⟩⟩
       case rest=>
        clear h7;obtain⟨kq,d9,rfl,HA,b7,HO_3,HO_258000,a2,a1,HB⟩:=hcut
        cases kq with
        |zero=>exact absurd HA.out (by simp [spec_l20Pasted.j2])
        |succ b8=>
         have H:=HA.out;clear HA;simp only [spec_l20Pasted.j2] at H
         by_cases f8:d9=true
         ·subst f8;(have H1:(if a5.length<17592186044416 then(spec_l20Pasted.l1 b8 a3 (a5 ++ [1]) (wrap64 (a4+1)) a0) else(none))=some (r1,r2):=by rw [if_pos rfl] at H;exact H);clear H;have H:=H1;clear H1
          by_cases f9:a5.length<17592186044416
          ·rw [if_pos f9] at H;have LMc13:=zqm f9;clear f9;obtain⟨h8,c3⟩: ∃y_:List Int,y_=(a5 ++ [1]):=⟨_,rfl⟩;(replace H:(spec_l20Pasted.l1 b8 a3 h8 (wrap64 (a4+1)) a0)=some (r1,r2):=by first|(rw [c3];with_reducible exact H)|(have b1:=(Option.bind_some _ _).symm.trans H;rw [c3];with_reducible exact b1)|(have b1:=(Option.bind_some _ _).symm.trans H;with_reducible exact b1)|with_reducible exact H|(rw [c3];exact H)|exact H);have k0:=zqm c3;clear c3;have H':=zqm H;clear H
           go_wp2_with (first|((with_reducible refine gate_builtin (b:= .append) (xs:= #[.tmp 59,.tmp 61]) rfl ?_);at_builtin;refine Kd.R_append (Kd.int .i64) (w0:=w) w.heap.size rfl (.tmp 59) (.tmp 61) 28 3 (.int .i64 0) 8 rfl Try.underlying28 info3 rfl (by decide) (by omega) u3 a5 1 [.int .i64 1] (fun _=>True) (fun _=>False) rfl rfl ?aP (fun _ hk=>hk.elim) ?aF ?aO ?aB ?aS ?aL ?_;(case aP=>exact rfl);(case aB=> exact zq63);(case aF=>exact(fun _ _=>trivial));(case aO=> exact zq122);(case aS=> exact zq56);(case aL=>have:=LMc13.out;omega);intro q9 s2 ho hb hg hat;rw [← k0.out] at ho;replace HO_258000:=zqm (Kd.S_after (ok:=(fun _=>True)) zq105 hg hat);replace a2:=zqm (blk_grown (g:=b0) (o:= .cells #[.slice none 0 0,.slice none 0 0] 30 (0,0)) zq15 hg (Kd.R_ne HO_3.out a2.out (by decide)));replace a1:=zqm (blk_grown (g:=a9) (o:= .cells #[a8,.slice none 0 0] 30 (0,0)) zq16 hg (Kd.R_ne HO_3.out a1.out (by decide)));replace HB:=zqm (hb);have k3:=zqm (ho);clear HO_3;clear ho hb hg hat))
           go_roundg b8
           (case measure=>have:=b3.out;have:=b4.out;have:=b7.out;omega);case rel=>exact⟨(h8),(wrap64 (a4+1)),(by first|rfl|(simp;done)|(simp [*];done)),H',⟨by have:=b3.out;have:=b4.out;have:=b7.out;omega⟩,⟨by(with_reducible repeat(first|apply Kd.R_alloc|apply Kd.R_drewN|apply Kd.R_drew));exact k3.out⟩,⟨zq101⟩,⟨zq15⟩,⟨zq16⟩,⟨zq19⟩⟩
          ·rw [if_neg f9] at H;exact absurd H (by simp)
         ·replace f8:=Bool.eq_false_iff.mpr f8;subst f8;(have H1:((spec_l1In.f a3 1 5).bind fun f1=>(if f1=true then((spec_l1In.f a4 6 10).bind fun c0=>(if c0=true then(spec_l20Pasted.j3 b8 a3 a5 a4 0 (a3 !=(wrap64 (a4 - 5))) a0) else(spec_l20Pasted.j3 b8 a3 a5 a4 0 false a0))) else(spec_l20Pasted.j3 b8 a3 a5 a4 0 false a0)))=some (r1,r2):=by rw [if_neg (show¬(false=true) by decide)] at H;exact H);clear H;have H:=H1;clear H1;have f6:=zqm H;clear H
          go_upto_region 12 with (fail)
          go_cut [29] (fun p9 wc=> ∃(kq:Nat) (c4:Bool),p9= .bool c4∧Aside0 (spec_l20Pasted.j3 kq a3 a5 a4 0 c4 a0=some (r1,r2))∧Aside0 (kq≤b8)∧Aside0 (Kd.R (Kd.int .i64) 3 wc w.heap.size (fun _=>True) u3 a5)∧Aside0 (Kd.S (Kd.slice 3 (Kd.int .i64)) 28 wc w.heap.size (fun k_=>some k_≠(u3:Value).ownBlock) a8 a0)∧Aside0 (wc.heap[b0]? =some (.cells #[(.slice none 0 0),(.slice none 0 0)] 30 (0,0)))∧Aside0 (wc.heap[a9]? =some (.cells #[a8,(.slice none 0 0)] 30 (0,0)))∧Aside0 (Below w.heap.size w wc))
          case first=>
           have H:=f6.out;clear f6;replace H:=Option.bind_eq_some_iff.mp H;obtain⟨f1,h9,H⟩:=H;replace H:(if f1=true then((spec_l1In.f a4 6 10).bind fun c0=>(if c0=true then(spec_l20Pasted.j3 b8 a3 a5 a4 0 (a3 !=(wrap64 (a4 - 5))) a0) else(spec_l20Pasted.j3 b8 a3 a5 a4 0 false a0))) else(spec_l20Pasted.j3 b8 a3 a5 a4 0 false a0))=some (r1,r2):=H;have i0:=zqm h9;clear h9
           by_cases g0:f1=true
           ·subst g0;(have H1:((spec_l1In.f a4 6 10).bind fun c0=>(if c0=true then(spec_l20Pasted.j3 b8 a3 a5 a4 0 (a3 !=(wrap64 (a4 - 5))) a0) else(spec_l20Pasted.j3 b8 a3 a5 a4 0 false a0)))=some (r1,r2):=by rw [if_pos rfl] at H;exact H);clear H;have H:=H1;clear H1;replace H:=Option.bind_eq_some_iff.mp H;obtain⟨c0,i1,H⟩:=H;replace H:(if c0=true then(spec_l20Pasted.j3 b8 a3 a5 a4 0 (a3 !=(wrap64 (a4 - 5))) a0) else(spec_l20Pasted.j3 b8 a3 a5 a4 0 false a0))=some (r1,r2):=H;have n0:=zqm i1;clear i1
            by_cases g1:c0=true
            ·subst g1;(have H1:(spec_l20Pasted.j3 b8 a3 a5 a4 0 (a3 !=(wrap64 (a4 - 5))) a0)=some (r1,r2):=by rw [if_pos rfl] at H;exact H);clear H;have H:=H1;clear H1;have H':=zqm H;clear H
             go_wp2_with (first|((with_reducible refine gate_callee (f:=94) rfl ?_);refine goesL_ (some 31) rfl rfl Try.func94 zqk rfl #[.int .i64 a3,.int .i64 1,.int .i64 5] rfl zq1 ?_;(with_reducible refine(spec_l1In.calls a3 1 5 true _ i0.out).mono ?_);rintro e w' ⟨rfl,⟨nd,rfl⟩⟩;refine⟨_,rfl,?_⟩)|(go_at_call 94;(with_reducible refine(spec_l1In.calls a4 6 10 true _ n0.out).mono ?_);rintro e w' ⟨rfl,⟨nd,rfl⟩⟩))
             go_meet
             case rel=>exact⟨_,((a3 !=(wrap64 (a4 - 5)))),(by first|rfl|(simp;done)|(simp [*];done)),H',⟨zq385⟩,⟨zq58⟩,⟨zq157⟩,⟨zq15⟩,⟨zq16⟩,⟨zq19⟩⟩
            ·replace g1:=Bool.eq_false_iff.mpr g1;subst g1;(have H1:(spec_l20Pasted.j3 b8 a3 a5 a4 0 false a0)=some (r1,r2):=by rw [if_neg (show¬(false=true) by decide)] at H;exact H);clear H;have H:=H1;clear H1;have H':=zqm H;clear H
             go_wp2_with (first|((with_reducible refine gate_callee (f:=94) rfl ?_);refine goesL_ (some 31) rfl rfl Try.func94 zqk rfl #[.int .i64 a3,.int .i64 1,.int .i64 5] rfl zq1 ?_;(with_reducible refine(spec_l1In.calls a3 1 5 true _ i0.out).mono ?_);rintro e w' ⟨rfl,⟨nd,rfl⟩⟩;refine⟨_,rfl,?_⟩)|(go_at_call 94;(with_reducible refine(spec_l1In.calls a4 6 10 false _ n0.out).mono ?_);rintro e w' ⟨rfl,⟨nd,rfl⟩⟩))
             go_meet
             case rel=>exact⟨_,(false),(by first|rfl|(simp;done)|(simp [*];done)),H',⟨zq385⟩,⟨zq58⟩,⟨zq157⟩,⟨zq15⟩,⟨zq16⟩,⟨zq19⟩⟩
           ·replace g0:=Bool.eq_false_iff.mpr g0;subst g0;(have H1:(spec_l20Pasted.j3 b8 a3 a5 a4 0 false a0)=some (r1,r2):=by rw [if_neg (show¬(false=true) by decide)] at H;exact H);clear H;have H:=H1;clear H1;have H':=zqm H;clear H
            go_wp2_with (first|((with_reducible refine gate_callee (f:=94) rfl ?_);refine goesL_ (some 31) rfl rfl Try.func94 zqk rfl #[.int .i64 a3,.int .i64 1,.int .i64 5] rfl zq1 ?_;(with_reducible refine(spec_l1In.calls a3 1 5 false _ i0.out).mono ?_);rintro e w' ⟨rfl,⟨nd,rfl⟩⟩;refine⟨_,rfl,?_⟩))
            go_meet
            case rel=>exact⟨_,(false),(by first|rfl|(simp;done)|(simp [*];done)),H',⟨zq385⟩,⟨zq58⟩,⟨zq157⟩,⟨zq15⟩,⟨zq16⟩,⟨zq19⟩⟩
          case rest=>
           clear f6;obtain⟨kq,c4,rfl,HA,b6,HO_3,HO_258000,a2,a1,HB⟩:=hcut
           cases kq with
           |zero=>exact absurd HA.out (by simp [spec_l20Pasted.j3])
           |succ b2=>
            have H:=HA.out;clear HA;simp only [spec_l20Pasted.j3] at H
            by_cases g2:c4=true
            ·subst g2;(have H1:(if a3≤3 then(if(wrap64 (a4 - 5))≤3 then(if a5.length<17592186044416 then(spec_l20Pasted.l1 b2 a3 (a5 ++ [1]) (wrap64 (a4+1)) a0) else(none)) else(if a3≥3 then(if(wrap64 (a4 - 5))≥3 then(if a5.length<17592186044416 then(spec_l20Pasted.l1 b2 a3 (a5 ++ [1]) (wrap64 (a4+1)) a0) else(none)) else(if a5.length<17592186044416 then(spec_l20Pasted.l1 b2 a3 (a5 ++ [0]) (wrap64 (a4+1)) a0) else(none))) else(if a5.length<17592186044416 then(spec_l20Pasted.l1 b2 a3 (a5 ++ [0]) (wrap64 (a4+1)) a0) else(none)))) else(if a3≥3 then(if(wrap64 (a4 - 5))≥3 then(if a5.length<17592186044416 then(spec_l20Pasted.l1 b2 a3 (a5 ++ [1]) (wrap64 (a4+1)) a0) else(none)) else(if a5.length<17592186044416 then(spec_l20Pasted.l1 b2 a3 (a5 ++ [0]) (wrap64 (a4+1)) a0) else(none))) else(if a5.length<17592186044416 then(spec_l20Pasted.l1 b2 a3 (a5 ++ [0]) (wrap64 (a4+1)) a0) else(none))))=some (r1,r2):=by rw [if_pos rfl] at H;exact H);clear H;have H:=H1;clear H1
             by_cases e5:a3≤3
             ·rw [if_pos e5] at H;have k4:decide (a3≤3)=true:=decide_eq_true e5;clear e5
              by_cases e6:(wrap64 (a4 - 5))≤3
              ·rw [if_pos e6] at H;have k5:decide ((wrap64 (a4 - 5))≤3)=true:=decide_eq_true e6;clear e6
               by_cases g3:a5.length<17592186044416
               ·rw [if_pos g3] at H;have LMc23:=zqm g3;clear g3;obtain⟨i2,c6⟩: ∃y_:List Int,y_=(a5 ++ [1]):=⟨_,rfl⟩;(replace H:(spec_l20Pasted.l1 b2 a3 i2 (wrap64 (a4+1)) a0)=some (r1,r2):=by first|(rw [c6];with_reducible exact H)|(have b1:=(Option.bind_some _ _).symm.trans H;rw [c6];with_reducible exact b1)|(have b1:=(Option.bind_some _ _).symm.trans H;with_reducible exact b1)|with_reducible exact H|(rw [c6];exact H)|exact H);have k6:=zqm c6;clear c6;have H':=zqm H;clear H
                go_wp2_with (first|((with_reducible refine gate_builtin (b:= .append) (xs:= #[.tmp 59,.tmp 61]) rfl ?_);at_builtin;refine Kd.R_append (Kd.int .i64) (w0:=w) w.heap.size rfl (.tmp 59) (.tmp 61) 28 3 (.int .i64 0) 8 rfl Try.underlying28 info3 rfl (by decide) (by omega) u3 a5 1 [.int .i64 1] (fun _=>True) (fun _=>False) rfl rfl ?aP (fun _ hk=>hk.elim) ?aF ?aO ?aB ?aS ?aL ?_;(case aP=>exact rfl);(case aB=> exact zq63);(case aF=>exact(fun _ _=>trivial));(case aO=> exact zq122);(case aS=> exact zq56);(case aL=>have:=LMc23.out;omega);intro r0 s3 ho hb hg hat;rw [← k6.out] at ho;replace HO_258000:=zqm (Kd.S_after (ok:=(fun _=>True)) zq105 hg hat);replace a2:=zqm (blk_grown (g:=b0) (o:= .cells #[.slice none 0 0,.slice none 0 0] 30 (0,0)) zq15 hg (Kd.R_ne HO_3.out a2.out (by decide)));replace a1:=zqm (blk_grown (g:=a9) (o:= .cells #[a8,.slice none 0 0] 30 (0,0)) zq16 hg (Kd.R_ne HO_3.out a1.out (by decide)));replace HB:=zqm (hb);have k7:=zqm (ho);clear HO_3;clear ho hb hg hat))
                go_roundg b2
                (case measure=> exact zq141);case rel=>exact⟨(i2),(wrap64 (a4+1)),(by first|rfl|(simp;done)|(simp [*];done)),H',⟨zq141⟩,⟨by(with_reducible repeat(first|apply Kd.R_alloc|apply Kd.R_drewN|apply Kd.R_drew));exact k7.out⟩,⟨zq101⟩,⟨zq15⟩,⟨zq16⟩,⟨zq19⟩⟩
               ·rw [if_neg g3] at H;exact absurd H (by simp)
              ·rw [if_neg e6] at H;have k5:decide ((wrap64 (a4 - 5))≤3)=false:=decide_eq_false e6;clear e6
               by_cases e7:a3≥3
               ·rw [if_pos e7] at H;have k8:decide (3≤a3)=true:=decide_eq_true e7;clear e7
                by_cases e8:(wrap64 (a4 - 5))≥3
                ·rw [if_pos e8] at H;have k9:decide (3≤(wrap64 (a4 - 5)))=true:=decide_eq_true e8;clear e8
                 by_cases g4:a5.length<17592186044416
                 ·rw [if_pos g4] at H;have LMc27:=zqm g4;clear g4;obtain⟨i3,c7⟩: ∃y_:List Int,y_=(a5 ++ [1]):=⟨_,rfl⟩;(replace H:(spec_l20Pasted.l1 b2 a3 i3 (wrap64 (a4+1)) a0)=some (r1,r2):=by first|(rw [c7];with_reducible exact H)|(have b1:=(Option.bind_some _ _).symm.trans H;rw [c7];with_reducible exact b1)|(have b1:=(Option.bind_some _ _).symm.trans H;with_reducible exact b1)|with_reducible exact H|(rw [c7];exact H)|exact H);have l2:=zqm c7;clear c7;have H':=zqm H;clear H
                  go_wp2_with (first|((with_reducible refine gate_builtin (b:= .append) (xs:= #[.tmp 59,.tmp 61]) rfl ?_);at_builtin;refine Kd.R_append (Kd.int .i64) (w0:=w) w.heap.size rfl (.tmp 59) (.tmp 61) 28 3 (.int .i64 0) 8 rfl Try.underlying28 info3 rfl (by decide) (by omega) u3 a5 1 [.int .i64 1] (fun _=>True) (fun _=>False) rfl rfl ?aP (fun _ hk=>hk.elim) ?aF ?aO ?aB ?aS ?aL ?_;(case aP=>exact rfl);(case aB=> exact zq63);(case aF=>exact(fun _ _=>trivial));(case aO=> exact zq122);(case aS=> exact zq56);(case aL=>have:=LMc27.out;omega);intro r3 s4 ho hb hg hat;rw [← l2.out] at ho;replace HO_258000:=zqm (Kd.S_after (ok:=(fun _=>True)) zq105 hg hat);replace a2:=zqm (blk_grown (g:=b0) (o:= .cells #[.slice none 0 0,.slice none 0 0] 30 (0,0)) zq15 hg (Kd.R_ne HO_3.out a2.out (by decide)));replace a1:=zqm (blk_grown (g:=a9) (o:= .cells #[a8,.slice none 0 0] 30 (0,0)) zq16 hg (Kd.R_ne HO_3.out a1.out (by decide)));replace HB:=zqm (hb);have l3:=zqm (ho);clear HO_3;clear ho hb hg hat))
                  go_roundg b2
                  (case measure=> exact zq141);case rel=>exact⟨(i3),(wrap64 (a4+1)),(by first|rfl|(simp;done)|(simp [*];done)),H',⟨zq141⟩,⟨by(with_reducible repeat(first|apply Kd.R_alloc|apply Kd.R_drewN|apply Kd.R_drew));exact l3.out⟩,⟨zq101⟩,⟨zq15⟩,⟨zq16⟩,⟨zq19⟩⟩
                 ·rw [if_neg g4] at H;exact absurd H (by simp)
                ·rw [if_neg e8] at H;have k9:decide (3≤(wrap64 (a4 - 5)))=false:=decide_eq_false e8;clear e8
                 by_cases g5:a5.length<17592186044416
                 ·rw [if_pos g5] at H;have LMc29:=zqm g5;clear g5;obtain⟨i4,c9⟩: ∃y_:List Int,y_=(a5 ++ [0]):=⟨_,rfl⟩;(replace H:(spec_l20Pasted.l1 b2 a3 i4 (wrap64 (a4+1)) a0)=some (r1,r2):=by first|(rw [c9];with_reducible exact H)|(have b1:=(Option.bind_some _ _).symm.trans H;rw [c9];with_reducible exact b1)|(have b1:=(Option.bind_some _ _).symm.trans H;with_reducible exact b1)|with_reducible exact H|(rw [c9];exact H)|exact H);have l4:=zqm c9;clear c9;have H':=zqm H;clear H
                  go_wp2_with (first|((with_reducible refine gate_builtin (b:= .append) (xs:= #[.tmp 59,.tmp 61]) rfl ?_);at_builtin;refine Kd.R_append (Kd.int .i64) (w0:=w) w.heap.size rfl (.tmp 59) (.tmp 61) 28 3 (.int .i64 0) 8 rfl Try.underlying28 info3 rfl (by decide) (by omega) u3 a5 0 [.int .i64 0] (fun _=>True) (fun _=>False) rfl rfl ?aP (fun _ hk=>hk.elim) ?aF ?aO ?aB ?aS ?aL ?_;(case aP=>exact rfl);(case aB=> exact zq63);(case aF=>exact(fun _ _=>trivial));(case aO=> exact zq122);(case aS=> exact zq56);(case aL=>have:=LMc29.out;omega);intro r4 s5 ho hb hg hat;rw [← l4.out] at ho;replace HO_258000:=zqm (Kd.S_after (ok:=(fun _=>True)) zq105 hg hat);replace a2:=zqm (blk_grown (g:=b0) (o:= .cells #[.slice none 0 0,.slice none 0 0] 30 (0,0)) zq15 hg (Kd.R_ne HO_3.out a2.out (by decide)));replace a1:=zqm (blk_grown (g:=a9) (o:= .cells #[a8,.slice none 0 0] 30 (0,0)) zq16 hg (Kd.R_ne HO_3.out a1.out (by decide)));replace HB:=zqm (hb);have l5:=zqm (ho);clear HO_3;clear ho hb hg hat))
                  go_roundg b2
                  (case measure=> exact zq141);case rel=>exact⟨(i4),(wrap64 (a4+1)),(by first|rfl|(simp;done)|(simp [*];done)),H',⟨zq141⟩,⟨by(with_reducible repeat(first|apply Kd.R_alloc|apply Kd.R_drewN|apply Kd.R_drew));exact l5.out⟩,⟨zq101⟩,⟨zq15⟩,⟨zq16⟩,⟨zq19⟩⟩
                 ·rw [if_neg g5] at H;exact absurd H (by simp)
               ·rw [if_neg e7] at H;have k8:decide (3≤a3)=false:=decide_eq_false e7;clear e7
                by_cases g6:a5.length<17592186044416
                ·rw [if_pos g6] at H;have LMc31:=zqm g6;clear g6;obtain⟨i5,d0⟩: ∃y_:List Int,y_=(a5 ++ [0]):=⟨_,rfl⟩;(replace H:(spec_l20Pasted.l1 b2 a3 i5 (wrap64 (a4+1)) a0)=some (r1,r2):=by first|(rw [d0];with_reducible exact H)|(have b1:=(Option.bind_some _ _).symm.trans H;rw [d0];with_reducible exact b1)|(have b1:=(Option.bind_some _ _).symm.trans H;with_reducible exact b1)|with_reducible exact H|(rw [d0];exact H)|exact H);have l6:=zqm d0;clear d0;have H':=zqm H;clear H
                 go_wp2_with (first|((with_reducible refine gate_builtin (b:= .append) (xs:= #[.tmp 59,.tmp 61]) rfl ?_);at_builtin;refine Kd.R_append (Kd.int .i64) (w0:=w) w.heap.size rfl (.tmp 59) (.tmp 61) 28 3 (.int .i64 0) 8 rfl Try.underlying28 info3 rfl (by decide) (by omega) u3 a5 0 [.int .i64 0] (fun _=>True) (fun _=>False) rfl rfl ?aP (fun _ hk=>hk.elim) ?aF ?aO ?aB ?aS ?aL ?_;(case aP=>exact rfl);(case aB=> exact zq63);(case aF=>exact(fun _ _=>trivial));(case aO=> exact zq122);(case aS=> exact zq56);(case aL=>have:=LMc31.out;omega);intro r5 s6 ho hb hg hat;rw [← l6.out] at ho;replace HO_258000:=zqm (Kd.S_after (ok:=(fun _=>True)) zq105 hg hat);replace a2:=zqm (blk_grown (g:=b0) (o:= .cells #[.slice none 0 0,.slice none 0 0] 30 (0,0)) zq15 hg (Kd.R_ne HO_3.out a2.out (by decide)));replace a1:=zqm (blk_grown (g:=a9) (o:= .cells #[a8,.slice none 0 0] 30 (0,0)) zq16 hg (Kd.R_ne HO_3.out a1.out (by decide)));replace HB:=zqm (hb);have l7:=zqm (ho);clear HO_3;clear ho hb hg hat))
                 go_roundg b2
                 (case measure=> exact zq141);case rel=>exact⟨(i5),(wrap64 (a4+1)),(by first|rfl|(simp;done)|(simp [*];done)),H',⟨zq141⟩,⟨by(with_reducible repeat(first|apply Kd.R_alloc|apply Kd.R_drewN|apply Kd.R_drew));exact l7.out⟩,⟨zq101⟩,⟨zq15⟩,⟨zq16⟩,⟨zq19⟩⟩
                ·rw [if_neg g6] at H;exact absurd H (by simp)
             ·rw [if_neg e5] at H;have k4:decide (a3≤3)=false:=decide_eq_false e5;clear e5
              by_cases e9:a3≥3
              ·rw [if_pos e9] at H;have l8:decide (3≤a3)=true:=decide_eq_true e9;clear e9
               by_cases f0:(wrap64 (a4 - 5))≥3
               ·rw [if_pos f0] at H;have l9:decide (3≤(wrap64 (a4 - 5)))=true:=decide_eq_true f0;clear f0
                by_cases g7:a5.length<17592186044416
                ·rw [if_pos g7] at H;have LMc35:=zqm g7;clear g7;obtain⟨i6,d1⟩: ∃y_:List Int,y_=(a5 ++ [1]):=⟨_,rfl⟩;(replace H:(spec_l20Pasted.l1 b2 a3 i6 (wrap64 (a4+1)) a0)=some (r1,r2):=by first|(rw [d1];with_reducible exact H)|(have b1:=(Option.bind_some _ _).symm.trans H;rw [d1];with_reducible exact b1)|(have b1:=(Option.bind_some _ _).symm.trans H;with_reducible exact b1)|with_reducible exact H|(rw [d1];exact H)|exact H);have m0:=zqm d1;clear d1;have H':=zqm H;clear H
                 go_wp2_with (first|((with_reducible refine gate_builtin (b:= .append) (xs:= #[.tmp 59,.tmp 61]) rfl ?_);at_builtin;refine Kd.R_append (Kd.int .i64) (w0:=w) w.heap.size rfl (.tmp 59) (.tmp 61) 28 3 (.int .i64 0) 8 rfl Try.underlying28 info3 rfl (by decide) (by omega) u3 a5 1 [.int .i64 1] (fun _=>True) (fun _=>False) rfl rfl ?aP (fun _ hk=>hk.elim) ?aF ?aO ?aB ?aS ?aL ?_;(case aP=>exact rfl);(case aB=> exact zq63);(case aF=>exact(fun _ _=>trivial));(case aO=> exact zq122);(case aS=> exact zq56);(case aL=>have:=LMc35.out;omega);intro r6 s7 ho hb hg hat;rw [← m0.out] at ho;replace HO_258000:=zqm (Kd.S_after (ok:=(fun _=>True)) zq105 hg hat);replace a2:=zqm (blk_grown (g:=b0) (o:= .cells #[.slice none 0 0,.slice none 0 0] 30 (0,0)) zq15 hg (Kd.R_ne HO_3.out a2.out (by decide)));replace a1:=zqm (blk_grown (g:=a9) (o:= .cells #[a8,.slice none 0 0] 30 (0,0)) zq16 hg (Kd.R_ne HO_3.out a1.out (by decide)));replace HB:=zqm (hb);have m1:=zqm (ho);clear HO_3;clear ho hb hg hat))
                 go_roundg b2
                 (case measure=> exact zq141);case rel=>exact⟨(i6),(wrap64 (a4+1)),(by first|rfl|(simp;done)|(simp [*];done)),H',⟨zq141⟩,⟨by(with_reducible repeat(first|apply Kd.R_alloc|apply Kd.R_drewN|apply Kd.R_drew));exact m1.out⟩,⟨zq101⟩,⟨zq15⟩,⟨zq16⟩,⟨zq19⟩⟩
                ·rw [if_neg g7] at H;exact absurd H (by simp)
               ·rw [if_neg f0] at H;have l9:decide (3≤(wrap64 (a4 - 5)))=false:=decide_eq_false f0;clear f0
                by_cases g8:a5.length<17592186044416
                ·rw [if_pos g8] at H;have LMc37:=zqm g8;clear g8;obtain⟨i7,d2⟩: ∃y_:List Int,y_=(a5 ++ [0]):=⟨_,rfl⟩;(replace H:(spec_l20Pasted.l1 b2 a3 i7 (wrap64 (a4+1)) a0)=some (r1,r2):=by first|(rw [d2];with_reducible exact H)|(have b1:=(Option.bind_some _ _).symm.trans H;rw [d2];with_reducible exact b1)|(have b1:=(Option.bind_some _ _).symm.trans H;with_reducible exact b1)|with_reducible exact H|(rw [d2];exact H)|exact H);have m2:=zqm d2;clear d2;have H':=zqm H;clear H
                 go_wp2_with (first|((with_reducible refine gate_builtin (b:= .append) (xs:= #[.tmp 59,.tmp 61]) rfl ?_);at_builtin;refine Kd.R_append (Kd.int .i64) (w0:=w) w.heap.size rfl (.tmp 59) (.tmp 61) 28 3 (.int .i64 0) 8 rfl Try.underlying28 info3 rfl (by decide) (by omega) u3 a5 0 [.int .i64 0] (fun _=>True) (fun _=>False) rfl rfl ?aP (fun _ hk=>hk.elim) ?aF ?aO ?aB ?aS ?aL ?_;(case aP=>exact rfl);(case aB=> exact zq63);(case aF=>exact(fun _ _=>trivial));(case aO=> exact zq122);(case aS=> exact zq56);(case aL=>have:=LMc37.out;omega);intro r7 s8 ho hb hg hat;rw [← m2.out] at ho;replace HO_258000:=zqm (Kd.S_after (ok:=(fun _=>True)) zq105 hg hat);replace a2:=zqm (blk_grown (g:=b0) (o:= .cells #[.slice none 0 0,.slice none 0 0] 30 (0,0)) zq15 hg (Kd.R_ne HO_3.out a2.out (by decide)));replace a1:=zqm (blk_grown (g:=a9) (o:= .cells #[a8,.slice none 0 0] 30 (0,0)) zq16 hg (Kd.R_ne HO_3.out a1.out (by decide)));replace HB:=zqm (hb);have m3:=zqm (ho);clear HO_3;clear ho hb hg hat))
                 go_roundg b2
                 (case measure=> exact zq141);case rel=>exact⟨(i7),(wrap64 (a4+1)),(by first|rfl|(simp;done)|(simp [*];done)),H',⟨zq141⟩,⟨by(with_reducible repeat(first|apply Kd.R_alloc|apply Kd.R_drewN|apply Kd.R_drew));exact m3.out⟩,⟨zq101⟩,⟨zq15⟩,⟨zq16⟩,⟨zq19⟩⟩
                ·rw [if_neg g8] at H;exact absurd H (by simp)
              ·rw [if_neg e9] at H;have l8:decide (3≤a3)=false:=decide_eq_false e9;clear e9
               by_cases g9:a5.length<17592186044416
               ·rw [if_pos g9] at H;have LMc39:=zqm g9;clear g9;obtain⟨i8,d3⟩: ∃y_:List Int,y_=(a5 ++ [0]):=⟨_,rfl⟩;(replace H:(spec_l20Pasted.l1 b2 a3 i8 (wrap64 (a4+1)) a0)=some (r1,r2):=by first|(rw [d3];with_reducible exact H)|(have b1:=(Option.bind_some _ _).symm.trans H;rw [d3];with_reducible exact b1)|(have b1:=(Option.bind_some _ _).symm.trans H;with_reducible exact b1)|with_reducible exact H|(rw [d3];exact H)|exact H);have m4:=zqm d3;clear d3;have H':=zqm H;clear H
                go_wp2_with (first|((with_reducible refine gate_builtin (b:= .append) (xs:= #[.tmp 59,.tmp 61]) rfl ?_);at_builtin;refine Kd.R_append (Kd.int .i64) (w0:=w) w.heap.size rfl (.tmp 59) (.tmp 61) 28 3 (.int .i64 0) 8 rfl Try.underlying28 info3 rfl (by decide) (by omega) u3 a5 0 [.int .i64 0] (fun _=>True) (fun _=>False) rfl rfl ?aP (fun _ hk=>hk.elim) ?aF ?aO ?aB ?aS ?aL ?_;(case aP=>exact rfl);(case aB=> exact zq63);(case aF=>exact(fun _ _=>trivial));(case aO=> exact zq122);(case aS=> exact zq56);(case aL=>have:=LMc39.out;omega);intro r8 s9 ho hb hg hat;rw [← m4.out] at ho;replace HO_258000:=zqm (Kd.S_after (ok:=(fun _=>True)) zq105 hg hat);replace a2:=zqm (blk_grown (g:=b0) (o:= .cells #[.slice none 0 0,.slice none 0 0] 30 (0,0)) zq15 hg (Kd.R_ne HO_3.out a2.out (by decide)));replace a1:=zqm (blk_grown (g:=a9) (o:= .cells #[a8,.slice none 0 0] 30 (0,0)) zq16 hg (Kd.R_ne HO_3.out a1.out (by decide)));replace HB:=zqm (hb);have m5:=zqm (ho);clear HO_3;clear ho hb hg hat))
                go_roundg b2
                (case measure=> exact zq141);case rel=>exact⟨(i8),(wrap64 (a4+1)),(by first|rfl|(simp;done)|(simp [*];done)),H',⟨zq141⟩,⟨by(with_reducible repeat(first|apply Kd.R_alloc|apply Kd.R_drewN|apply Kd.R_drew));exact m5.out⟩,⟨zq101⟩,⟨zq15⟩,⟨zq16⟩,⟨zq19⟩⟩
               ·rw [if_neg g9] at H;exact absurd H (by simp)
            ·replace g2:=Bool.eq_false_iff.mpr g2;subst g2;(have H1:(if a5.length<17592186044416 then(spec_l20Pasted.l1 b2 a3 (a5 ++ [0]) (wrap64 (a4+1)) a0) else(none))=some (r1,r2):=by rw [if_neg (show¬(false=true) by decide)] at H;exact H);clear H;have H:=H1;clear H1
             by_cases h0:a5.length<17592186044416
             ·rw [if_pos h0] at H;have LMc41:=zqm h0;clear h0;obtain⟨i9,d4⟩: ∃y_:List Int,y_=(a5 ++ [0]):=⟨_,rfl⟩;(replace H:(spec_l20Pasted.l1 b2 a3 i9 (wrap64 (a4+1)) a0)=some (r1,r2):=by first|(rw [d4];with_reducible exact H)|(have b1:=(Option.bind_some _ _).symm.trans H;rw [d4];with_reducible exact b1)|(have b1:=(Option.bind_some _ _).symm.trans H;with_reducible exact b1)|with_reducible exact H|(rw [d4];exact H)|exact H);have m6:=zqm d4;clear d4;have H':=zqm H;clear H
              go_wp2_with (first|((with_reducible refine gate_builtin (b:= .append) (xs:= #[.tmp 59,.tmp 61]) rfl ?_);at_builtin;refine Kd.R_append (Kd.int .i64) (w0:=w) w.heap.size rfl (.tmp 59) (.tmp 61) 28 3 (.int .i64 0) 8 rfl Try.underlying28 info3 rfl (by decide) (by omega) u3 a5 0 [.int .i64 0] (fun _=>True) (fun _=>False) rfl rfl ?aP (fun _ hk=>hk.elim) ?aF ?aO ?aB ?aS ?aL ?_;(case aP=>exact rfl);(case aB=> exact zq63);(case aF=>exact(fun _ _=>trivial));(case aO=> exact zq122);(case aS=> exact zq56);(case aL=>have:=LMc41.out;omega);intro r9 t0 ho hb hg hat;rw [← m6.out] at ho;replace HO_258000:=zqm (Kd.S_after (ok:=(fun _=>True)) zq105 hg hat);replace a2:=zqm (blk_grown (g:=b0) (o:= .cells #[.slice none 0 0,.slice none 0 0] 30 (0,0)) zq15 hg (Kd.R_ne HO_3.out a2.out (by decide)));replace a1:=zqm (blk_grown (g:=a9) (o:= .cells #[a8,.slice none 0 0] 30 (0,0)) zq16 hg (Kd.R_ne HO_3.out a1.out (by decide)));replace HB:=zqm (hb);have m7:=zqm (ho);clear HO_3;clear ho hb hg hat))
              go_roundg b2
              (case measure=> exact zq141);case rel=>exact⟨(i9),(wrap64 (a4+1)),(by first|rfl|(simp;done)|(simp [*];done)),H',⟨zq141⟩,⟨by(with_reducible repeat(first|apply Kd.R_alloc|apply Kd.R_drewN|apply Kd.R_drew));exact m7.out⟩,⟨zq101⟩,⟨zq15⟩,⟨zq16⟩,⟨zq19⟩⟩
             ·rw [if_neg h0] at H;exact absurd H (by simp)
      ·rw [if_neg c8] at H;have n3:decide (a4<12)=false:=decide_eq_false c8;clear c8
       by_cases h1:a0.length<5864062014805
       ·rw [if_pos h1] at H;have LMc43:=zqm h1;clear h1;obtain⟨f2,d5⟩: ∃y_:List (List Int),y_=(a0 ++ [a5]):=⟨_,rfl⟩;(replace H:(spec_l20Pasted.l0 k2 (wrap64 (a3+1)) f2)=some (r1,r2):=by first|(rw [d5];with_reducible exact H)|(have b1:=(Option.bind_some _ _).symm.trans H;rw [d5];with_reducible exact b1)|(have b1:=(Option.bind_some _ _).symm.trans H;with_reducible exact b1)|with_reducible exact H|(rw [d5];exact H)|exact H);have m8:=zqm d5;clear d5;have H':=zqm H;clear H;have q2:=b9.out;have q3:=b5.out;have n8:wr.cell? ⟨a9,0,none⟩=some (a8):=(blk_cell a1.out 0).trans rfl;have n9:wr.cell? ⟨a9,1,none⟩=some (.slice none 0 0):=(blk_cell a1.out 1).trans rfl;have o0:=blk_frozen a1.out 0;have o1:=blk_frozen a1.out 1;obtain⟨j0,j1,n4⟩:=Kd.R_slice HO_3.out;subst n4
        go_wp2_with (first|((with_reducible refine gate_builtin (b:= .append) (xs:= #[.tmp 64,.tmp 66]) rfl ?_);at_builtin;refine Kd.S_append (Kd.slice 3 (Kd.int .i64)) (w0:=w) w.heap.size rfl (.tmp 64) (.tmp 66) 27 28 (.slice none 0 0) 24 rfl Try.underlying27 info28 rfl (by decide) (by omega) a8 a0 a5 [.slice j0 a5.length j1] (fun _=>True) (fun k_=>some k_=(.slice j0 a5.length j1:Value).ownBlock) rfl rfl ?aP (fun k_ hk_=>((Kd.R_mono (ok':=fun k_=>((fun _=>True)) k_∧some k_≠(a8:Value).ownBlock) (Kd.R_apart' (HO_3.out) (Kd.S_typed HO_258000.out) (by decide)) (fun k_ hk=>⟨trivial,hk.2⟩))).1 k_ hk_.symm) ?aF ?aO ?aB ?aS ?aL ?_;(case aP=>exact Kd.M_row (Kd.R_mono (Kd.R_tight rfl (Kd.R_mono (ok':=fun k_=>((fun _=>True)) k_∧some k_≠(a8:Value).ownBlock) (Kd.R_apart' (HO_3.out) (Kd.S_typed HO_258000.out) (by decide)) (fun k_ hk=>⟨trivial,hk.2⟩))) (fun _ h_=>h_)));(case aB=> exact zq63);(case aF=>exact(fun _ _=>trivial));(case aO=>exact(by(with_reducible repeat(first|apply Kd.S_alloc|apply Kd.S_drewN|apply Kd.S_drew));exact Kd.S_mono HO_258000.out (fun k_ hk=>⟨trivial,fun e_=>hk e_⟩)));(case aS=> exact zq56);(case aL=>have:=LMc43.out;omega);intro s0 n1 ho hb hg hat;rw [← m8.out] at ho;replace a2:=zqm (blk_grown (g:=b0) (o:= .cells #[.slice none 0 0,.slice none 0 0] 30 (0,0)) zq15 hg (Kd.S_ne HO_258000.out a2.out (by decide)));replace a1:=zqm (blk_grown (g:=a9) (o:= .cells #[a8,.slice none 0 0] 30 (0,0)) zq16 hg (Kd.S_ne HO_258000.out a1.out (by decide)));replace HB:=zqm (hb);have h2:=zqm (ho);clear HO_258000 HO_3;clear ho hb hg hat;obtain⟨j4,j5,n5⟩:=Kd.S_slice h2.out;subst n5;have o2:n1.cell? ⟨a9,0,none⟩=some (a8):=(blk_cell a1.out 0).trans rfl;have o3:n1.cell? ⟨a9,1,none⟩=some (.slice none 0 0):=(blk_cell a1.out 1).trans rfl;have o4:=blk_frozen a1.out 0;have o5:=blk_frozen a1.out 1))
        go_roundg k2
        (case measure=>have:=b3.out;have:=b4.out;omega);case rel=>exact⟨(wrap64 (a3+1)),(f2),(.slice j4 f2.length j5),(by first|rfl|(simp;done)|(simp [*];done)),H',⟨by have:=b3.out;have:=b4.out;omega⟩,⟨by(with_reducible repeat(first|apply Kd.S_alloc|apply Kd.S_drewN|apply Kd.S_drew));exact Kd.S_mono (Kd.S_far (p:=⟨a9,0,none⟩) (Kd.S_types h2.out a1.out (by decide)) (fun _ hk=>hk.2) (.slice j4 f2.length j5)) (fun _ hk=>trivial)⟩,⟨by(with_reducible repeat(first|refine blk_drewN ?_ _|refine blk_drew ?_|refine blk_alloc ?_ _));refine blk_far ?_ b5.out _;(with_reducible repeat(first|refine blk_drewN ?_ _|refine blk_drew ?_|refine blk_alloc ?_ _));exact a2.out⟩,⟨by(with_reducible repeat(first|refine blk_drewN ?_ _|refine blk_drew ?_|refine blk_alloc ?_ _));refine blk_put (cs:= #[a8,.slice none 0 0]) ?_ 0 _ rfl;(with_reducible repeat(first|refine blk_drewN ?_ _|refine blk_drew ?_|refine blk_alloc ?_ _));exact a1.out⟩,⟨zq19⟩⟩
       ·rw [if_neg h1] at H;exact absurd H (by simp)
   ·rw [if_neg c5] at H;have n2:decide (a3<12)=false:=decide_eq_false c5;clear c5;obtain⟨d7,d6⟩: ∃y_:List Int,y_=(([11,6,7,8,9,10,1,2,3,4,5,0]:List Int)):=⟨_,rfl⟩;(replace H:(some (a0,d7))=some (r1,r2):=by first|(rw [d6];with_reducible exact H)|(have b1:=(Option.bind_some _ _).symm.trans H;rw [d6];with_reducible exact b1)|(have b1:=(Option.bind_some _ _).symm.trans H;with_reducible exact b1)|with_reducible exact H|(rw [d6];exact H)|exact H);have h3:=zqm d6;clear d6;simp only [Option.some.injEq,Prod.mk.injEq] at H;obtain⟨rfl,rfl⟩:=H
    go_wp2_with (first|((with_reducible refine gate_dst (N:=69) rfl ?_);refine Kd.R_lit (Kd.int .i64) _ 3 ?hg (N:=69) ?hd (xs:=([11,6,7,8,9,10,1,2,3,4,5,0]:List Int)) (inner:= [.int .i64 11,.int .i64 6,.int .i64 7,.int .i64 8,.int .i64 9,.int .i64 10,.int .i64 1,.int .i64 2,.int .i64 3,.int .i64 4,.int .i64 5,.int .i64 0]) (ok:=fun _=>True) (okp:=fun _=>True) ?hr ?hp (fun _ hk=>hk) trivial (Below.refl _ _) (Nat.le_refl _) (by simp) ?_;(case hd=>rfl);(case hg=>rfl);(case hr=>first|(go_simp;done)|(go_simp;rfl));(case hp=>exact(Reps.one (show Kd.M (Kd.int .i64) _ _ _ 11 [.int .i64 11] from rfl) (Reps.one (show Kd.M (Kd.int .i64) _ _ _ 6 [.int .i64 6] from rfl) (Reps.one (show Kd.M (Kd.int .i64) _ _ _ 7 [.int .i64 7] from rfl) (Reps.one (show Kd.M (Kd.int .i64) _ _ _ 8 [.int .i64 8] from rfl) (Reps.one (show Kd.M (Kd.int .i64) _ _ _ 9 [.int .i64 9] from rfl) (Reps.one (show Kd.M (Kd.int .i64) _ _ _ 10 [.int .i64 10] from rfl) (Reps.one (show Kd.M (Kd.int .i64) _ _ _ 1 [.int .i64 1] from rfl) (Reps.one (show Kd.M (Kd.int .i64) _ _ _ 2 [.int .i64 2] from rfl) (Reps.one (show Kd.M (Kd.int .i64) _ _ _ 3 [.int .i64 3] from rfl) (Reps.one (show Kd.M (Kd.int .i64) _ _ _ 4 [.int .i64 4] from rfl) (Reps.one (show Kd.M (Kd.int .i64) _ _ _ 5 [.int .i64 5] from rfl) (Reps.one (show Kd.M (Kd.int .i64) _ _ _ 0 [.int .i64 0] from rfl) (Reps.none _ _))))))))))))));intro s1 h4 d8 hb hg_ hnew_;clear hg_ hnew_;(first|rw [← h3.out] at d8|(simp only [Int.reduceToNat] at d8;rw [← h3.out] at d8));replace HO_258000:=zqm (Kd.S_elder' zq157 (Kd.R_base d8) hb);have h5:=zqm (Kd.R_lower d8 (below_size zq19));replace a2:=zqm (blk_below (g:=b0) (o:= .cells #[.slice none 0 0,.slice none 0 0] 30 (0,0)) zq15 hb);replace a1:=zqm (blk_below (g:=a9) (o:= .cells #[a8,.slice none 0 0] 30 (0,0)) zq16 hb);replace HB:=zqm (below_step zq19 hb);clear hb d8;obtain⟨e2,e3,n6⟩:=Kd.R_slice h5.out;subst n6;have q4:=b9.out;have q5:=b5.out;have o6:h4.cell? ⟨a9,0,none⟩=some (a8):=(blk_cell a1.out 0).trans rfl;have o7:h4.cell? ⟨a9,1,none⟩=some (.slice none 0 0):=(blk_cell a1.out 1).trans rfl;have o8:=blk_frozen a1.out 0;have o9:=blk_frozen a1.out 1;obtain⟨f3,f4,n7⟩:=Kd.S_slice HO_258000.out;subst n7;have p0:h4.cell? ⟨b0,0,none⟩=some (.slice none 0 0):=(blk_cell a2.out 0).trans rfl;have p1:h4.cell? ⟨b0,1,none⟩=some (.slice none 0 0):=(blk_cell a2.out 1).trans rfl;have p2:=blk_frozen a2.out 0;have p3:=blk_frozen a2.out 1))
    refine bodyPost_ret (results_cell_row rfl _ _ b0 30 #[.slice f3 a0.length f4,.slice e2 d7.length e3] (0,0) _ rfl (by(with_reducible repeat(first|refine blk_drewN ?_ _|refine blk_drew ?_|refine blk_alloc ?_ _));refine blk_put (cs:= #[.slice f3 a0.length f4,.slice none 0 0]) ?_ 1 _ rfl;(with_reducible repeat(first|refine blk_drewN ?_ _|refine blk_drew ?_|refine blk_alloc ?_ _));refine blk_put (cs:= #[.slice none 0 0,.slice none 0 0]) ?_ 0 _ rfl;(with_reducible repeat(first|refine blk_drewN ?_ _|refine blk_drew ?_|refine blk_alloc ?_ _));refine blk_far ?_ b5.out _;(with_reducible repeat(first|refine blk_drewN ?_ _|refine blk_drew ?_|refine blk_alloc ?_ _));exact a2.out) Try.underlying30 rfl zqk) rfl ?_;exact⟨_,_,zq11,by(with_reducible repeat(first|apply Kd.S_alloc|apply Kd.S_drewN|apply Kd.S_drew));exact Kd.S_mono (Kd.S_far (p:=⟨b0,1,none⟩) (Kd.S_far (p:=⟨b0,0,none⟩) (Kd.S_far (p:=⟨a9,1,none⟩) (Kd.S_types (Kd.S_types HO_258000.out a1.out (by decide)) a2.out (by decide)) (fun _ hk=>hk.1.2) (.slice e2 d7.length e3)) (fun _ hk=>hk.2) (.slice f3 a0.length f4)) (fun _ hk=>hk.2) (.slice e2 d7.length e3)) (fun _ hk=>hk.1.1.2),by(with_reducible repeat(first|apply Kd.R_alloc|apply Kd.R_drewN|apply Kd.R_drew));exact Kd.R_mono (Kd.R_far (p:=⟨b0,1,none⟩) (Kd.R_far (p:=⟨b0,0,none⟩) (Kd.R_far (p:=⟨a9,1,none⟩) (Kd.R_types (Kd.R_types h5.out a1.out (by decide)) a2.out (by decide)) (fun _ hk=>hk.1.2) (.slice e2 d7.length e3)) (fun _ hk=>hk.2) (.slice f3 a0.length f4)) (fun _ hk=>hk.2) (.slice e2 d7.length e3)) (fun _ hk=>trivial),zq19⟩
end Go.Proofs.Ytdoomkcgdcfmlaa.Print
end
