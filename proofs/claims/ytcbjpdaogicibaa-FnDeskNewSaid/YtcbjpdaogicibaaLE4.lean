/- Part 4 of what is common to several claims of this seat: DeskNewL. -/
import Derived.Test.YtcbjpdaogicibaaLE3
import Derived.Below
import Derived.Deep.Draws
import Derived.Deep.AppendLies
import Derived.Maps.AppendAt
import Derived.OwnWalk
import Derived.Laws.BytesArg
import Derived.Laws.MakeOwn
import Derived.Laws.OwnMore
import Derived.Deep.OwnRows
import Derived.Tactics
import Derived.Lib.ConvBytes
import Derived.Laws.Slices
import Derived.WalkKit
import Derived.KernelRfl
import Derived.RowKit3
import Derived.Deep.LoopGhost
import Derived.Deep.QuietTactic
import Derived.BigQuiet
import Derived.WideLaws
import Derived.Deep.DeepCutAuto
import Derived.Deep.CutBlock
import Derived.Deep.RegionHeld3
import Derived.Laws.Rows
import Derived.Lib.AppendStr
import Derived.ArgAppend
import Derived.Laws.IdiomCopy
import Derived.RowKit
import Derived.OrdersHeld
import Derived.Laws.BitsLemmas
import Derived.Test.YtcbjpdaogicibaaProg
set_option linter.all false
section
namespace Go.Proofs.Ytcbjpdaogicibaa.Print
open Go.RowKit Go.Proofs.YtcbjpdaogicibaaW.PrintWords Go.Proofs.YtcbjpdaogicibaaW.PrintLast Go.Proofs.YtcbjpdaogicibaaW.PrintMore
section
attribute [local go_sem] max2_int min2_int max_two min_two max_three min_three max_four min_four
def impl_DeskNew.f (a0 : Int) : Option ((List (List Int)) × List Int × (List (S26)) × Bool) := (impl_SetsOf.f a0).bind fun bt1132 => (if bt1132.2.2 = true then (some (bt1132.1, bt1132.2.1, ([] : List (S26)), true)) else (some (([] : List (List Int)), ([] : List Int), ([] : List (S26)), false)))
set_option maxHeartbeats 8000000 in
set_option maxRecDepth 100000 in
theorem impl_DeskNew.calls (a0 : Int) (r1 : List (List Int)) (r2 : List Int) (r3 : List (S26)) (r4 : Bool) (w : World) (h : impl_DeskNew.f a0 = some (r1, r2, r3, r4)) :
  Calls Try.prog 63 #[.int .i64 a0] w fun e w' => ∃ v0_ v1_ v2_ : Value, e = .returned (.tuple #[.agg #[v0_, v1_, v2_], .bool r4]) ∧ Kd.S (Kd.slice 3 (Kd.int .i64)) 24 w' w.heap.size (fun k_ => some k_ ≠ (v1_ : Value).ownBlock) v0_ r1 ∧ Kd.R (Kd.int .i64) 3 w' w.heap.size (fun _ => True) v1_ r2 ∧ Kd.R k26 26 w' w.heap.size (fun k_ => some k_ ≠ (v0_ : Value).ownBlock ∧ some k_ ≠ (v1_ : Value).ownBlock) v2_ r3 ∧ Below w.heap.size w w' := by
 have hu56:=Try.underlying56;have hu26:=Try.underlying26;have HB:=zqm (Below.refl w.heap.size w);have H:((impl_SetsOf.f a0).bind fun b6=>(if b6.2.2=true then(some (b6.1,b6.2.1,([]:List (S26)),true)) else(some (([]:List (List Int)),([]:List Int),([]:List (S26)),false))))=some (r1,r2,r3,r4):=h;clear h;replace H:=Option.bind_eq_some_iff.mp H;obtain⟨⟨a7,a8,c5⟩,d0,H⟩:=H;replace H:(if c5=true then(some (a7,a8,([]:List (S26)),true)) else(some (([]:List (List Int)),([]:List Int),([]:List (S26)),false)))=some (r1,r2,r3,r4):=H;have A2:=zqm d0;clear d0
 by_cases c3:c5=true
 ·subst c3;(have H1:(some (a7,a8,([]:List (S26)),true))=some (r1,r2,r3,r4):=by rw [if_pos rfl] at H;exact H);clear H;have H:=H1;clear H1;simp only [Option.some.injEq,Prod.mk.injEq] at H;obtain⟨rfl,rfl,rfl,rfl⟩:=H
  go_enter Try.func63,Try.ntmps63
  go_wp2_with (first|((with_reducible refine gate_dst (N:=2) rfl ?_);refine box_event ?hg (N:=2) ?hd (cs:= #[.slice none 0 0,.slice none 0 0,.slice none 0 0]) (t:=56) ?hr ?_;(case hd=>rfl);(case hg=>rfl);(case hr=> exact zq10);intro a2 hg w4 hbox hb;have c0:=zqm (below_step zq0 hb);have a1:=zqm (hbox);have c6:=zqm ((by rw [hg];exact(below_size zq0):w.heap.size≤a2));have a4:=zqm ((by rw [hg];exact(below_size zq0):w.heap.size≤a2));clear HB;have HB:=c0;clear c0 hb hbox hg)|((with_reducible refine gate_callee (f:=46) rfl ?_);refine goesL_ (some 8) rfl rfl Try.func46 zqk rfl #[.int .i64 a0] rfl zq2 ?_;(with_reducible refine(impl_SetsOf.calls a0 a7 a8 true _ A2.out).mono ?_);rintro e w5 ⟨c8,c9,rfl,b8,b9,hb⟩;refine⟨_,rfl,?_⟩;have a9:=zqm (Kd.S_lower b8 (below_size zq3));have b0:=zqm (Kd.R_lower b9 (below_size zq3));replace a1:=zqm (blk_below (g:=a2) (o:= .cells #[.slice none 0 0,.slice none 0 0,.slice none 0 0] 56 (0,0)) (zqe a1.out) hb);replace HB:=zqm (below_step zq3 hb);clear hb b8 b9)|((with_reducible refine gate_dst (N:=4) rfl ?_);refine box_event ?hg (N:=4) ?hd (cs:= #[.slice none 0 0,.slice none 0 0]) (t:=26) ?hr ?_;(case hd=>rfl);(case hg=>rfl);(case hr=> exact zq10);intro a3 hg w6 hbox hb;replace a9:=zqm (Kd.S_below (zqfS a9.out) hb);replace b0:=zqm (Kd.R_below (zqfR b0.out) hb);have c1:=zqm (blk_below (g:=a2) (o:= .cells #[.slice none 0 0,.slice none 0 0,.slice none 0 0] 56 (0,0)) (zqe a1.out) hb);have c2:=zqm (below_step zq3 hb);have a6:=zqm (hbox);have c7:=zqm ((by rw [hg];exact(below_size zq3):w.heap.size≤a3));have b5:=zqm ((by rw [hg];exact(below_size zq3):w.heap.size≤a3));have a5:=zqm ((by rw [hg];exact Nat.ne_of_lt (blk_lt (g:=a2) (o:= .cells #[.slice none 0 0,.slice none 0 0,.slice none 0 0] 56 (0,0)) (zqe a1.out)):a2≠a3));have b1:=zqm ((by rw [hg];exact Nat.ne_of_gt (blk_lt (g:=a2) (o:= .cells #[.slice none 0 0,.slice none 0 0,.slice none 0 0] 56 (0,0)) (zqe a1.out)):a3≠a2));clear a1 HB;have a1:=c1;have HB:=c2;clear c1 c2 hb hbox hg;obtain⟨b4,b7,f0⟩:=Kd.S_slice a9.out;subst f0;have g1:=b1.out;have g2:=a5.out;have f1:w6.cell? ⟨a3,0,none⟩=some (.slice none 0 0):=(blk_cell a6.out 0).trans rfl;have f2:w6.cell? ⟨a3,1,none⟩=some (.slice none 0 0):=(blk_cell a6.out 1).trans rfl;have f3:=blk_frozen a6.out 0;have f4:=blk_frozen a6.out 1;obtain⟨b2,b3,d1⟩:=Kd.R_slice b0.out;subst d1;have d4:w6.cell? ⟨a2,0,none⟩=some (.slice none 0 0):=(blk_cell a1.out 0).trans rfl;have d5:w6.cell? ⟨a2,1,none⟩=some (.slice none 0 0):=(blk_cell a1.out 1).trans rfl;have d6:w6.cell? ⟨a2,2,none⟩=some (.slice none 0 0):=(blk_cell a1.out 2).trans rfl;have e2:=blk_frozen a1.out 0;have e3:=blk_frozen a1.out 1;have e4:=blk_frozen a1.out 2))
  refine bodyPost_ret (results_ct rfl _ _ a2 56 #[.slice b4 a7.length b7,.slice b2 a8.length b3,.slice none 0 0] (0,0) _ rfl zq36 Try.underlying56 rfl zqk) rfl ?_;exact⟨_,_,_,zq8,zq27,zq26,zq24,zq43⟩
 ·replace c3:=Bool.eq_false_iff.mpr c3;subst c3;(have H1:(some (([]:List (List Int)),([]:List Int),([]:List (S26)),false))=some (r1,r2,r3,r4):=by rw [if_neg (show¬(false=true) by decide)] at H;exact H);clear H;have H:=H1;clear H1;simp only [Option.some.injEq,Prod.mk.injEq] at H;obtain⟨rfl,rfl,rfl,rfl⟩:=H
  go_enter Try.func63,Try.ntmps63
  go_wp2_with (first|((with_reducible refine gate_dst (N:=2) rfl ?_);refine box_event ?hg (N:=2) ?hd (cs:= #[.slice none 0 0,.slice none 0 0,.slice none 0 0]) (t:=56) ?hr ?_;(case hd=>rfl);(case hg=>rfl);(case hr=> exact zq10);intro a2 hg g3 hbox hb;have c0:=zqm (below_step zq0 hb);have a1:=zqm (hbox);have c6:=zqm ((by rw [hg];exact(below_size zq0):w.heap.size≤a2));have a4:=zqm ((by rw [hg];exact(below_size zq0):w.heap.size≤a2));clear HB;have HB:=c0;clear c0 hb hbox hg)|((with_reducible refine gate_callee (f:=46) rfl ?_);refine goesL_ (some 8) rfl rfl Try.func46 zqk rfl #[.int .i64 a0] rfl zq2 ?_;(with_reducible refine(impl_SetsOf.calls a0 a7 a8 false _ A2.out).mono ?_);rintro e g4 ⟨c8,c9,rfl,b8,b9,hb⟩;refine⟨_,rfl,?_⟩;have a9:=zqm (Kd.S_lower b8 (below_size zq3));have b0:=zqm (Kd.R_lower b9 (below_size zq3));replace a1:=zqm (blk_below (g:=a2) (o:= .cells #[.slice none 0 0,.slice none 0 0,.slice none 0 0] 56 (0,0)) (zqe a1.out) hb);replace HB:=zqm (below_step zq3 hb);clear hb b8 b9)|((with_reducible refine gate_dst (N:=4) rfl ?_);refine box_event ?hg (N:=4) ?hd (cs:= #[.slice none 0 0,.slice none 0 0]) (t:=26) ?hr ?_;(case hd=>rfl);(case hg=>rfl);(case hr=> exact zq10);intro a3 hg c4 hbox hb;replace a9:=zqm (Kd.S_below (zqfS a9.out) hb);replace b0:=zqm (Kd.R_below (zqfR b0.out) hb);have c1:=zqm (blk_below (g:=a2) (o:= .cells #[.slice none 0 0,.slice none 0 0,.slice none 0 0] 56 (0,0)) (zqe a1.out) hb);have c2:=zqm (below_step zq3 hb);have a6:=zqm (hbox);have c7:=zqm ((by rw [hg];exact(below_size zq3):w.heap.size≤a3));have b5:=zqm ((by rw [hg];exact(below_size zq3):w.heap.size≤a3));have a5:=zqm ((by rw [hg];exact Nat.ne_of_lt (blk_lt (g:=a2) (o:= .cells #[.slice none 0 0,.slice none 0 0,.slice none 0 0] 56 (0,0)) (zqe a1.out)):a2≠a3));have b1:=zqm ((by rw [hg];exact Nat.ne_of_gt (blk_lt (g:=a2) (o:= .cells #[.slice none 0 0,.slice none 0 0,.slice none 0 0] 56 (0,0)) (zqe a1.out)):a3≠a2));clear a1 HB;have a1:=c1;have HB:=c2;clear c1 c2 hb hbox hg;obtain⟨f7,f9,d2⟩:=Kd.S_slice a9.out;subst d2;have f5:=b1.out;have f6:=a5.out;have d7:c4.cell? ⟨a3,0,none⟩=some (.slice none 0 0):=(blk_cell a6.out 0).trans rfl;have d8:c4.cell? ⟨a3,1,none⟩=some (.slice none 0 0):=(blk_cell a6.out 1).trans rfl;have e5:=blk_frozen a6.out 0;have e6:=blk_frozen a6.out 1;obtain⟨f8,g0,d3⟩:=Kd.R_slice b0.out;subst d3;have d9:c4.cell? ⟨a2,0,none⟩=some (.slice none 0 0):=(blk_cell a1.out 0).trans rfl;have e0:c4.cell? ⟨a2,1,none⟩=some (.slice none 0 0):=(blk_cell a1.out 1).trans rfl;have e1:c4.cell? ⟨a2,2,none⟩=some (.slice none 0 0):=(blk_cell a1.out 2).trans rfl;have e7:=blk_frozen a1.out 0;have e8:=blk_frozen a1.out 1;have e9:=blk_frozen a1.out 2))
  refine bodyPost_ret (results_ct rfl _ _ a2 56 #[.slice none 0 0,.slice none 0 0,.slice none 0 0] (0,0) _ rfl zq37 Try.underlying56 rfl zqk) rfl ?_;exact⟨_,_,_,zq8,zq53,zq24,zq24,zq43⟩
end
section
attribute [local go_sem] max2_int min2_int max_two min_two max_three min_three max_four min_four
def spec_l1In.f (a0 : Int) (a1 : Int) (a2 : Int) : Option (Bool) := if a0 ≥ a1 then (some (decide (a0 ≤ a2))) else (some false)
set_option maxHeartbeats 8000000 in
set_option maxRecDepth 100000 in
theorem spec_l1In.calls (a0 : Int) (a1 : Int) (a2 : Int) (r : Bool) (w : World) (h : spec_l1In.f a0 a1 a2 = some r) :
  Calls Try.prog 78 #[.int .i64 a0, .int .i64 a1, .int .i64 a2] w fun e w' => e = .returned (.bool r) ∧ Drawn0 w w' := by
 have H : (if a0 ≥ a1 then (some (decide (a0 ≤ a2))) else (some false)) = some r := h
 clear h
 by_cases c4 : a0 ≥ a1
 ·rw [if_pos c4] at H
  have c4b0 : decide (a1 ≤ a0) = true := decide_eq_true c4
  clear c4
  obtain rfl := Option.some.inj H
  go_enter Try.func78, Try.ntmps78
  go_wp2
  go_ret
  exact ⟨zq77, by repeat (first | exact Drawn0.refl _ | apply Drawn0.step)⟩
 ·rw [if_neg c4] at H
  have c4b0 : decide (a1 ≤ a0) = false := decide_eq_false c4
  clear c4
  obtain rfl := Option.some.inj H
  go_enter Try.func78, Try.ntmps78
  go_wp2
  go_ret
  exact ⟨zq77, by repeat (first | exact Drawn0.refl _ | apply Drawn0.step)⟩
end
section
attribute [local go_sem] max2_int min2_int max_two min_two max_three min_three max_four min_four
mutual
def spec_SetsOf.l0 : Nat → Int → Int → List (List Int) → List Int → Option ((List (List Int)) × List Int × Bool)
 | 0, _, _, _, _ => none
 | k + 1, x0, x5, x1142000, x1142001 => if 0 ≤ x0 then (if x5 < (shl .i64 1 x0) then (spec_SetsOf.l1 k x0 x5 (([] : List Int)) 0 x1142000 x1142001) else (some (x1142000, x1142001, true))) else (none)
def spec_SetsOf.l1 : Nat → Int → Int → List Int → Int → List (List Int) → List Int → Option ((List (List Int)) × List Int × Bool)
 | 0, _, _, _, _, _, _ => none
 | k + 1, x0, x5, x6, x7, x1142000, x1142001 => if 0 ≤ x0 then (if x7 < (shl .i64 1 x0) then (if (Go.bits .and .i64 x5 x7) = x5 then (if x6.length < 17592186044416 then (spec_SetsOf.l1 k x0 x5 (x6 ++ [1]) (wrap64 (x7 + 1)) x1142000 x1142001) else (none)) else (if x6.length < 17592186044416 then (spec_SetsOf.l1 k x0 x5 (x6 ++ [0]) (wrap64 (x7 + 1)) x1142000 x1142001) else (none))) else (if x1142000.length < 5864062014805 then (if x1142001.length < 17592186044416 then (spec_SetsOf.l0 k x0 (wrap64 (x5 + 1)) (x1142000 ++ [x6]) (x1142001 ++ [wrap64 ((wrap64 ((shl .i64 1 x0) - 1)) - x5)])) else (none)) else (none))) else (none)
end
def spec_SetsOf.f (k : Nat) (a0 : Int) : Option ((List (List Int)) × List Int × Bool) := (spec_l1In.f a0 0 3).bind fun t1142 => (if t1142 = true then (spec_SetsOf.l0 k a0 0 ([] : List (List Int)) ([] : List Int)) else (some (([] : List (List Int)), ([] : List Int), false)))
theorem spec_SetsOf.mono_l : ∀ k, (∀ y0 y1 y2 y3, LeO (spec_SetsOf.l0 k y0 y1 y2 y3) (spec_SetsOf.l0 (k + 1) y0 y1 y2 y3)) ∧ (∀ y0 y1 y2 y3 y4 y5, LeO (spec_SetsOf.l1 k y0 y1 y2 y3 y4 y5) (spec_SetsOf.l1 (k + 1) y0 y1 y2 y3 y4 y5))
 | 0 => ⟨fun _ _ _ _ r h => by simp [spec_SetsOf.l0] at h, fun _ _ _ _ _ _ r h => by simp [spec_SetsOf.l1] at h⟩
 | k + 1 => by
  obtain ⟨ih0, ih1⟩ := spec_SetsOf.mono_l k
  refine ⟨?_, ?_⟩
  ·intro y0 y1 y2 y3
   unfold spec_SetsOf.l0
   repeat' first
   | (with_reducible exact ih0 _ _ _ _)
   | (with_reducible exact ih1 _ _ _ _ _ _)
   | (with_reducible exact LeO.refl _)
   | (with_reducible exact LeO.none _)
   | (with_reducible refine LeO.ite ?_ ?_)
   | (with_reducible refine LeO.bind ?_ (fun _ => ?_))
   | exact ih0 _ _ _ _
   | exact ih1 _ _ _ _ _ _
   | exact LeO.none _
   | refine LeO.ite ?_ ?_
   | refine LeO.bind ?_ (fun _ => ?_)
  ·intro y0 y1 y2 y3 y4 y5
   unfold spec_SetsOf.l1
   repeat' first
   | (with_reducible exact ih0 _ _ _ _)
   | (with_reducible exact ih1 _ _ _ _ _ _)
   | (with_reducible exact LeO.refl _)
   | (with_reducible exact LeO.none _)
   | (with_reducible refine LeO.ite ?_ ?_)
   | (with_reducible refine LeO.bind ?_ (fun _ => ?_))
   | exact ih0 _ _ _ _
   | exact ih1 _ _ _ _ _ _
   | exact LeO.none _
   | refine LeO.ite ?_ ?_
   | refine LeO.bind ?_ (fun _ => ?_)
theorem spec_SetsOf.mono : ∀ a0 k, LeO (spec_SetsOf.f k a0) (spec_SetsOf.f (k + 1) a0) := by
 intro a0 k
 obtain ⟨ih0, ih1⟩ := spec_SetsOf.mono_l k
 unfold spec_SetsOf.f
 repeat' first
   | (with_reducible exact ih0 _ _ _ _)
   | (with_reducible exact ih1 _ _ _ _ _ _)
   | (with_reducible exact LeO.refl _)
   | (with_reducible exact LeO.none _)
   | (with_reducible refine LeO.ite ?_ ?_)
   | (with_reducible refine LeO.bind ?_ (fun _ => ?_))
   | exact ih0 _ _ _ _
   | exact ih1 _ _ _ _ _ _
   | exact LeO.none _
   | refine LeO.ite ?_ ?_
   | refine LeO.bind ?_ (fun _ => ?_)
def spec_SetsOf.T16 : Bool × List (List Nat × List Nat) := (true, [([], []), ([0], [0]), ([], []), ([2], [2]), ([3], [3]), ([], []), ([4, 5], [4, 5]), ([6], [6]), ([1, 7], [1, 7]), ([0, 1, 2, 3, 4, 5, 6, 7, 8], []), ([9, 8, 8, 0, 1, 2, 3, 4, 5, 6, 7, 8], [8, 9])])
def spec_SetsOf.B16 : List Nat := [0, 1, 0, 4, 12, 0, 60, 124, 255, 511, 1023]
theorem spec_SetsOf.tab16 : rtab .any (opsOf Try.f124 16) = spec_SetsOf.T16 := by kernel_rfl
theorem spec_SetsOf.bits16 : waitsOk spec_SetsOf.T16.2 spec_SetsOf.B16 = true := by kernel_rfl
set_option maxHeartbeats 8000000 in
set_option maxRecDepth 100000 in
theorem spec_SetsOf.calls (k : Nat) (a0 : Int) (r1 : List (List Int)) (r2 : List Int) (r3 : Bool) (w : World) (h : spec_SetsOf.f k a0 = some (r1, r2, r3)) :
  Calls Try.prog 124 #[.int .i64 a0] w fun e w' => ∃ v0_ v1_ : Value, e = .returned (.tuple #[.agg #[v0_, v1_], .bool r3]) ∧ Kd.S (Kd.slice 3 (Kd.int .i64)) 24 w' w.heap.size (fun k_ => some k_ ≠ (v1_ : Value).ownBlock) v0_ r1 ∧ Kd.R (Kd.int .i64) 3 w' w.heap.size (fun _ => True) v1_ r2 ∧ Below w.heap.size w w' := by
 have hu26:=Try.underlying26;have HB:=zqm (Below.refl w.heap.size w);have H:((spec_l1In.f a0 0 3).bind fun d4=>(if d4=true then(spec_SetsOf.l0 k a0 0 ([]:List (List Int)) ([]:List Int)) else(some (([]:List (List Int)),([]:List Int),false))))=some (r1,r2,r3):=h;clear h;replace H:=Option.bind_eq_some_iff.mp H;obtain⟨d4,i7,H⟩:=H;replace H:(if d4=true then(spec_SetsOf.l0 k a0 0 ([]:List (List Int)) ([]:List Int)) else(some (([]:List (List Int)),([]:List Int),false)))=some (r1,r2,r3):=H;have A2:=zqm i7;clear i7
 by_cases c3:d4=true
 ·subst c3;(have H1:(spec_SetsOf.l0 k a0 0 ([]:List (List Int)) ([]:List Int))=some (r1,r2,r3):=by rw [if_pos rfl] at H;exact H);clear H;have H:=H1;clear H1;have H':=zqm H;clear H
  go_enter Try.func124,Try.ntmps124
  go_wp2_with (first|((with_reducible refine gate_dst (N:=2) rfl ?_);refine box_event ?hg (N:=2) ?hd (cs:= #[.slice none 0 0,.slice none 0 0]) (t:=26) ?hr ?_;(case hd=>rfl);(case hg=>rfl);(case hr=> exact zq10);intro a7 hg w4 hbox hb;have c2:=zqm (below_step zq0 hb);have a2:=zqm (hbox);have h0:=zqm ((by rw [hg];exact(below_size zq0):w.heap.size≤a7));have a8:=zqm ((by rw [hg];exact(below_size zq0):w.heap.size≤a7));clear HB;have HB:=c2;clear c2 hb hbox hg)|((with_reducible refine gate_dst (N:=4) rfl ?_);refine box_event ?hg (N:=4) ?hd (cs:= #[.slice none 0 0,.slice none 0 0]) (t:=26) ?hr ?_;(case hd=>rfl);(case hg=>rfl);(case hr=> exact zq10);intro a4 hg w5 hbox hb;have c2:=zqm (blk_below (g:=a7) (o:= .cells #[.slice none 0 0,.slice none 0 0] 26 (0,0)) (zqe a2.out) hb);have c4:=zqm (below_step zq33 hb);have a1:=zqm (hbox);have h1:=zqm ((by rw [hg];exact(below_size zq33):w.heap.size≤a4));have b2:=zqm ((by rw [hg];exact(below_size zq33):w.heap.size≤a4));have b0:=zqm ((by rw [hg];exact Nat.ne_of_lt (blk_lt (g:=a7) (o:= .cells #[.slice none 0 0,.slice none 0 0] 26 (0,0)) (zqe a2.out)):a7≠a4));have b5:=zqm ((by rw [hg];exact Nat.ne_of_gt (blk_lt (g:=a7) (o:= .cells #[.slice none 0 0,.slice none 0 0] 26 (0,0)) (zqe a2.out)):a4≠a7));clear a2 HB;have a2:=c2;have HB:=c4;clear c2 c4 hb hbox hg;have o3:=b5.out;have o4:=b0.out;have f0:w5.cell? ⟨a4,0,none⟩=some (.slice none 0 0):=(blk_cell a1.out 0).trans rfl;have f1:w5.cell? ⟨a4,1,none⟩=some (.slice none 0 0):=(blk_cell a1.out 1).trans rfl;have f2:=blk_frozen a1.out 0;have f3:=blk_frozen a1.out 1)|((with_reducible refine gate_callee (f:=78) rfl ?_);refine goesL_ (some 11) rfl rfl Try.func78 zqk rfl #[.int .i64 a0,.int .i64 0,.int .i64 3] rfl zq2 ?_;(with_reducible refine(spec_l1In.calls a0 0 3 true _ A2.out).mono ?_);rintro e w' ⟨rfl,⟨nd,rfl⟩⟩;refine⟨_,rfl,?_⟩))
  go_loopg [5] k (fun kq v5 w'=> ∃(a9:Int) (a6:List (List Int)) (a5:List Int) (b1:Value) (a3:Value),v5= .int .i64 a9∧Aside0 (spec_SetsOf.l0 kq a0 a9 a6 a5=some (r1,r2,r3))∧Aside0 (kq≤k)∧Aside0 (Kd.S (Kd.slice 3 (Kd.int .i64)) 24 w' w.heap.size (fun k_=>some k_≠(a3:Value).ownBlock) b1 a6)∧Aside0 (Kd.R (Kd.int .i64) 3 w' w.heap.size (fun _=>True) a3 a5)∧Aside0 (w'.heap[a7]? =some (.cells #[(.slice none 0 0),(.slice none 0 0)] 26 (0,0)))∧Aside0 (w'.heap[a4]? =some (.cells #[b1,a3] 26 (0,0)))∧Aside0 (Below w.heap.size w w'))
  case atStart=>exact⟨(0),(([]:List (List Int))),(([]:List Int)),(.slice none 0 0),(.slice none 0 0),zq5,H',⟨Nat.le_refl _⟩,⟨zq53⟩,⟨zq24⟩,⟨by refine zqe ?_;refine blk_far ?_ b0.out _;refine zqe ?_;refine blk_far ?_ b0.out _;refine zqe ?_;exact a2.out⟩,⟨by refine zqe ?_;refine blk_put (cs:= #[.slice none 0 0,.slice none 0 0]) ?_ 1 _ rfl;refine zqe ?_;refine blk_put (cs:= #[.slice none 0 0,.slice none 0 0]) ?_ 0 _ rfl;refine zqe ?_;exact a1.out⟩,⟨zq4⟩⟩
  case round=>
   clear H';(try clear c1);(try clear p2);(try clear c3);(try clear c6);(try clear c7);(try clear f0);(try clear f1);(try clear f2);(try clear f3);obtain⟨a9,a6,a5,b1,a3,rfl,HA,e2,HO_1142000,HO_1142001,a2,a1,HB⟩:=hrel
   cases gk with
   |zero=>exact absurd HA.out (by simp [spec_SetsOf.l0])
   |succ k1=>
    have H:=HA.out;clear HA;simp only [spec_SetsOf.l0] at H
    by_cases c8:0≤a0
    ·rw [if_pos c8] at H;have j0:=eq_true c8;have j1:decide (0≤a0)=true:=decide_eq_true c8;clear c8;obtain⟨c5,d2⟩: ∃j_:Int,(shl .i64 1 a0)=j_:=⟨_,rfl⟩;(replace H:(if a9<(c5) then(spec_SetsOf.l1 k1 a0 a9 (([]:List Int)) 0 a6 a5) else(some (a6,a5,true)))=some (r1,r2,r3):=by first|(rw [d2] at H;exact H)|(simp only [d2] at H ⊢;exact H));have g4:(IntKind.i64.wrap (1*2 ^ min a0.toNat 64))=c5:=d2;have hji9z:a0≤64→(IntKind.i64.wrap (1*2 ^ a0.toNat))=c5:=shl_small d2;(have hji9u:(IntKind.i64.wrap (2 ^ min a0.toNat 64))=c5:=by have h_:=g4;rw [Int.one_mul] at h_;exact h_);(have hji9v:a0≤64→(IntKind.i64.wrap (2 ^ a0.toNat))=c5:=fun hle_=>by have h_:=hji9z hle_;rw [Int.one_mul] at h_;exact h_);have hji9y:(wrap64 (1*2 ^ min a0.toNat 64))=c5:=(i64_w _).symm.trans g4;have hji9x:a0≤64→(wrap64 (1*2 ^ a0.toNat))=c5:=fun h_=>(i64_w _).symm.trans (hji9z h_)
     by_cases d5:a9<(c5)
     ·rw [if_pos d5] at H;have f9:decide (a9<(c5))=true:=decide_eq_true d5;clear d5;obtain⟨g6,d7⟩: ∃y_:List Int,y_=(([]:List Int)):=⟨_,rfl⟩;replace H:(spec_SetsOf.l1 k1 a0 a9 g6 0 a6 a5)=some (r1,r2,r3):=zqy d7 H;have e8:=zqm d7;clear d7;have H':=zqm H;clear H
      go_wp2_with (first|((with_reducible refine gate_dst (N:=20) rfl ?_);refine Kd.R_lit (Kd.int .i64) _ 3 ?hg (N:=20) ?hd (xs:=([]:List Int)) (inner:= []) (ok:=fun _=>True) (okp:=fun _=>True) ?hr ?hp (fun _ hk=>hk) trivial (Below.refl _ _) (Nat.le_refl _) (by simp) ?_;(case hd=>rfl);(case hg=>rfl);(case hr=> exact zq10);(case hp=>exact(Reps.none _ _));intro n8 o6 c9 hb hg_ hnew_;clear hg_ hnew_;(first|rw [← e8.out] at c9|(simp only [Int.reduceToNat] at c9;rw [← e8.out] at c9));replace HO_1142000:=zqm (Kd.S_elder' (zqfS HO_1142000.out) (Kd.R_base c9) hb);have c4:=zqm (Kd.R_elder' (zqfR HO_1142001.out) (Kd.R_base c9) hb);have h2:=zqm (Kd.R_lower (Kd.R_new' c9 (Kd.R_lt (zqfR HO_1142001.out))) (below_size zq4));replace a2:=zqm (blk_below (g:=a7) (o:= .cells #[.slice none 0 0,.slice none 0 0] 26 (0,0)) (zqe a2.out) hb);replace a1:=zqm (blk_below (g:=a4) (o:= .cells #[b1,a3] 26 (0,0)) (zqe a1.out) hb);replace HB:=zqm (below_step zq4 hb);clear HO_1142001;have HO_1142001:=c4;clear c4 hb c9))
      go_loopg [6,7] k1 (fun kq v6 v7 w'=> ∃(b6:List Int) (b4:Int),v7= .int .i64 b4∧Aside0 (spec_SetsOf.l1 kq a0 a9 b6 b4 a6 a5=some (r1,r2,r3))∧Aside0 (kq≤k1)∧Aside0 (Kd.R (Kd.int .i64) 3 w' w.heap.size (fun k_=>some k_≠(a3:Value).ownBlock) v6 b6)∧Aside0 (Kd.S (Kd.slice 3 (Kd.int .i64)) 24 w' w.heap.size (fun k_=>some k_≠(v6:Value).ownBlock∧some k_≠(a3:Value).ownBlock) b1 a6)∧Aside0 (Kd.R (Kd.int .i64) 3 w' w.heap.size (fun k_=>some k_≠(v6:Value).ownBlock) a3 a5)∧Aside0 (w'.heap[a7]? =some (.cells #[(.slice none 0 0),(.slice none 0 0)] 26 (0,0)))∧Aside0 (w'.heap[a4]? =some (.cells #[b1,a3] 26 (0,0)))∧Aside0 (Below w.heap.size w w'))
      case atStart=>exact⟨(g6),(0),zq5,H',⟨Nat.le_refl _⟩,⟨by refine zqfR ?_;exact Kd.R_mono h2.out (fun _ hk=>hk.2)⟩,⟨zq82⟩,⟨zq112⟩,⟨zqe a2.out⟩,⟨zqe a1.out⟩,⟨zq4⟩⟩
      case round=>
       clear H';(try clear c1);(try clear p2);(try clear c3);(try clear c6);(try clear p6);(try clear c7);(try clear c8);(try clear j0);(try clear j1);(try clear d5);(try clear f9);(try clear o5);(try clear f0);(try clear f1);(try clear f2);(try clear f3);(try clear p2);obtain⟨b6,b4,rfl,HA,e3,HO_6,HO_1142000,HO_1142001,a2,a1,HB⟩:=hrel
       cases gk with
       |zero=>exact absurd HA.out (by simp [spec_SetsOf.l1])
       |succ k2=>
        have H:=HA.out;clear HA;simp only [spec_SetsOf.l1] at H
        by_cases e9:0≤a0
        ·rw [if_pos e9] at H;have m9:=eq_true e9;have n0:decide (0≤a0)=true:=decide_eq_true e9;clear e9;obtain⟨b7,d0⟩: ∃j_:Int,(shl .i64 1 a0)=j_:=⟨_,rfl⟩;(first|(obtain rfl:b7=c5:=d0.symm.trans d2)|skip);(replace H:(if b4<(b7) then(if(Go.bits .and .i64 a9 b4)=a9 then(if b6.length<17592186044416 then(spec_SetsOf.l1 k2 a0 a9 (b6 ++ [1]) (wrap64 (b4+1)) a6 a5) else(none)) else(if b6.length<17592186044416 then(spec_SetsOf.l1 k2 a0 a9 (b6 ++ [0]) (wrap64 (b4+1)) a6 a5) else(none))) else(if a6.length<5864062014805 then(if a5.length<17592186044416 then(spec_SetsOf.l0 k2 a0 (wrap64 (a9+1)) (a6 ++ [b6]) (a5 ++ [wrap64 ((wrap64 ((b7) - 1)) - a9)])) else(none)) else(none)))=some (r1,r2,r3):=by first|(rw [d0] at H;exact H)|(simp only [d0] at H ⊢;exact H));have f4:(IntKind.i64.wrap (1*2 ^ min a0.toNat 64))=b7:=d0;have hji14z:a0≤64→(IntKind.i64.wrap (1*2 ^ a0.toNat))=b7:=shl_small d0;(have hji14u:(IntKind.i64.wrap (2 ^ min a0.toNat 64))=b7:=by have h_:=f4;rw [Int.one_mul] at h_;exact h_);(have hji14v:a0≤64→(IntKind.i64.wrap (2 ^ a0.toNat))=b7:=fun hle_=>by have h_:=hji14z hle_;rw [Int.one_mul] at h_;exact h_);have hji14y:(wrap64 (1*2 ^ min a0.toNat 64))=b7:=(i64_w _).symm.trans f4;have hji14x:a0≤64→(wrap64 (1*2 ^ a0.toNat))=b7:=fun h_=>(i64_w _).symm.trans (hji14z h_)
         by_cases e4:b4<(b7)
         ·rw [if_pos e4] at H;have i4:decide (b4<(b7))=true:=decide_eq_true e4;clear e4
          by_cases d6:(Go.bits .and .i64 a9 b4)=a9
          ·rw [if_pos d6] at H;have i5:((Go.bits .and .i64 a9 b4)==a9)=true:=beq_iff_eq.mpr d6;have i6:((Go.bits .and .i64 a9 b4) !=a9)=false:=bne_eq_false_iff_eq.mpr d6;clear d6
           by_cases g0:b6.length<17592186044416
           ·rw [if_pos g0] at H;have LMc17:=zqm g0;clear g0;obtain⟨g7,d8⟩: ∃y_:List Int,y_=(b6 ++ [1]):=⟨_,rfl⟩;replace H:(spec_SetsOf.l1 k2 a0 a9 g7 (wrap64 (b4+1)) a6 a5)=some (r1,r2,r3):=zqy d8 H;have h5:=zqm d8;clear d8;have H':=zqm H;clear H
            go_wp2_with (first|((with_reducible refine gate_builtin (b:= .append) (xs:= #[.tmp 32,.tmp 34]) rfl ?_);at_builtin;refine Kd.R_append (Kd.int .i64) (w0:=w) w.heap.size rfl (.tmp 32) (.tmp 34) 24 3 (.int .i64 0) 8 rfl Try.underlying24 info3 rfl (by decide) (by omega) u6 b6 1 [.int .i64 1] (fun k_=>some k_≠(a3:Value).ownBlock) (fun _=>False) rfl rfl ?aP (fun _ hk=>hk.elim) ?aF ?aO ?aB ?aS ?aL ?_;(case aP=>exact rfl);(case aB=> exact zq41);(case aF=> exact zq106);(case aO=>exact(zqfR HO_6.out));(case aS=> exact zq39);(case aL=>have:=LMc17.out;omega);intro n9 o7 ho hb hg hat;rw [← h5.out] at ho;replace HO_1142000:=zqm (Kd.S_after (ok:=(fun k_=>some k_≠(a3:Value).ownBlock)) zq82 hg hat);replace HO_1142001:=zqm (Kd.R_after (ok:=(fun _=>True)) zq125 hg hat);replace a2:=zqm (blk_grown (g:=a7) (o:= .cells #[.slice none 0 0,.slice none 0 0] 26 (0,0)) (zqe a2.out) hg (Kd.R_ne HO_6.out a2.out (by decide)));replace a1:=zqm (blk_grown (g:=a4) (o:= .cells #[b1,a3] 26 (0,0)) (zqe a1.out) hg (Kd.R_ne HO_6.out a1.out (by decide)));replace HB:=zqm (hb);have h3:=zqm (ho);clear HO_6;clear ho hb hg hat))
            go_roundg k2
            (case measure=> exact zq111);case rel=>exact⟨(g7),(wrap64 (b4+1)),zq5,H',⟨zq111⟩,⟨zqfR h3.out⟩,⟨zq82⟩,⟨zq112⟩,⟨zqe a2.out⟩,⟨zqe a1.out⟩,⟨zq4⟩⟩
           ·rw [if_neg g0] at H;exact absurd H (by simp)
          ·rw [if_neg d6] at H;have i5:((Go.bits .and .i64 a9 b4)==a9)=false:=beq_eq_false_iff_ne.mpr d6;have i6:((Go.bits .and .i64 a9 b4) !=a9)=true:=bne_iff_ne.mpr d6
           by_cases g1:b6.length<17592186044416
           ·rw [if_pos g1] at H;have LMc19:=zqm g1;clear g1;obtain⟨g8,d9⟩: ∃y_:List Int,y_=(b6 ++ [0]):=⟨_,rfl⟩;replace H:(spec_SetsOf.l1 k2 a0 a9 g8 (wrap64 (b4+1)) a6 a5)=some (r1,r2,r3):=zqy d9 H;have h6:=zqm d9;clear d9;have H':=zqm H;clear H
            go_wp2_with (first|((with_reducible refine gate_builtin (b:= .append) (xs:= #[.tmp 32,.tmp 34]) rfl ?_);at_builtin;refine Kd.R_append (Kd.int .i64) (w0:=w) w.heap.size rfl (.tmp 32) (.tmp 34) 24 3 (.int .i64 0) 8 rfl Try.underlying24 info3 rfl (by decide) (by omega) u6 b6 0 [.int .i64 0] (fun k_=>some k_≠(a3:Value).ownBlock) (fun _=>False) rfl rfl ?aP (fun _ hk=>hk.elim) ?aF ?aO ?aB ?aS ?aL ?_;(case aP=>exact rfl);(case aB=> exact zq41);(case aF=> exact zq106);(case aO=>exact(zqfR HO_6.out));(case aS=> exact zq39);(case aL=>have:=LMc19.out;omega);intro o0 o8 ho hb hg hat;rw [← h6.out] at ho;replace HO_1142000:=zqm (Kd.S_after (ok:=(fun k_=>some k_≠(a3:Value).ownBlock)) zq82 hg hat);replace HO_1142001:=zqm (Kd.R_after (ok:=(fun _=>True)) zq125 hg hat);replace a2:=zqm (blk_grown (g:=a7) (o:= .cells #[.slice none 0 0,.slice none 0 0] 26 (0,0)) (zqe a2.out) hg (Kd.R_ne HO_6.out a2.out (by decide)));replace a1:=zqm (blk_grown (g:=a4) (o:= .cells #[b1,a3] 26 (0,0)) (zqe a1.out) hg (Kd.R_ne HO_6.out a1.out (by decide)));replace HB:=zqm (hb);have h4:=zqm (ho);clear HO_6;clear ho hb hg hat))
            go_roundg k2
            (case measure=> exact zq111);case rel=>exact⟨(g8),(wrap64 (b4+1)),zq5,H',⟨zq111⟩,⟨zqfR h4.out⟩,⟨zq82⟩,⟨zq112⟩,⟨zqe a2.out⟩,⟨zqe a1.out⟩,⟨zq4⟩⟩
           ·rw [if_neg g1] at H;exact absurd H (by simp)
         ·rw [if_neg e4] at H;have i4:decide (b4<(b7))=false:=decide_eq_false e4;clear e4
          by_cases g2:a6.length<5864062014805
          ·rw [if_pos g2] at H;have LMc21:=zqm g2;clear g2;obtain⟨b3,e0⟩: ∃y_:List (List Int),y_=(a6 ++ [b6]):=⟨_,rfl⟩;replace H:(if a5.length<17592186044416 then(spec_SetsOf.l0 k2 a0 (wrap64 (a9+1)) b3 (a5 ++ [wrap64 ((wrap64 ((b7) - 1)) - a9)])) else(none))=some (r1,r2,r3):=zqy e0 H;have h7:=zqm e0;clear e0;have n1:=eq_true (zqo:0≤a0)
           by_cases g3:a5.length<17592186044416
           ·rw [if_pos g3] at H;have LMc24:=zqm g3;clear g3;obtain⟨d1,e1⟩: ∃y_:List Int,y_=(a5 ++ [wrap64 ((wrap64 ((b7) - 1)) - a9)]):=⟨_,rfl⟩;replace H:(spec_SetsOf.l0 k2 a0 (wrap64 (a9+1)) b3 d1)=some (r1,r2,r3):=zqy e1 H;have h8:=zqm e1;clear e1;have H':=zqm H;clear H;have n2:=b5.out;have n5:=b0.out;have j6:wr.cell? ⟨a4,0,none⟩=some (b1):=(blk_cell a1.out 0).trans rfl;have j7:wr.cell? ⟨a4,1,none⟩=some (a3):=(blk_cell a1.out 1).trans rfl;have l2:=blk_frozen a1.out 0;have l3:=blk_frozen a1.out 1;obtain⟨g9,h9,j2⟩:=Kd.R_slice HO_6.out;subst j2;(try go_wp2_with (first|((with_reducible refine gate_builtin (b:= .append) (xs:= #[.tmp 37,.tmp 39]) rfl ?_);at_builtin;refine Kd.S_append (Kd.slice 3 (Kd.int .i64)) (w0:=w) w.heap.size rfl (.tmp 37) (.tmp 39) 23 24 (.slice none 0 0) 24 rfl Try.underlying23 info24 rfl (by decide) (by omega) b1 a6 b6 [.slice g9 b6.length h9] (fun k_=>some k_≠(a3:Value).ownBlock) (fun k_=>some k_=(.slice g9 b6.length h9:Value).ownBlock) rfl rfl ?aP (fun k_ hk_=>((Kd.R_mono (ok':=fun k_=>((fun k_=>some k_≠(a3:Value).ownBlock)) k_∧some k_≠(b1:Value).ownBlock) (Kd.R_apart' (HO_6.out) (Kd.S_typed HO_1142000.out) (by decide)) (fun k_ hk=>⟨hk.1,hk.2⟩))).1 k_ hk_.symm) ?aF ?aO ?aB ?aS ?aL ?_;(case aP=>exact Kd.M_row (Kd.R_mono (Kd.R_tight rfl (Kd.R_mono (ok':=fun k_=>((fun k_=>some k_≠(a3:Value).ownBlock)) k_∧some k_≠(b1:Value).ownBlock) (Kd.R_apart' (HO_6.out) (Kd.S_typed HO_1142000.out) (by decide)) (fun k_ hk=>⟨hk.1,hk.2⟩))) (fun _ h_=>h_)));(case aB=> exact zq41);(case aF=> exact zq106);(case aO=>exact(by refine zqfS ?_;exact Kd.S_mono HO_1142000.out (fun k_ hk=>⟨hk.2,fun e_=>hk.1 e_⟩)));(case aS=> exact zq39);(case aL=>have:=LMc21.out;omega);intro o1 d3 ho hb hg hat;rw [← h7.out] at ho;replace HO_1142001:=zqm (Kd.R_over' (zqfR HO_1142001.out) (Kd.S_typed (zqfS HO_1142000.out)) (by decide) hg);replace a2:=zqm (blk_grown (g:=a7) (o:= .cells #[.slice none 0 0,.slice none 0 0] 26 (0,0)) (zqe a2.out) hg (Kd.S_ne HO_1142000.out a2.out (by decide)));replace a1:=zqm (blk_grown (g:=a4) (o:= .cells #[b1,a3] 26 (0,0)) (zqe a1.out) hg (Kd.S_ne HO_1142000.out a1.out (by decide)));replace HB:=zqm (hb);have b8:=zqm (ho);clear HO_1142000 HO_6;clear ho hb hg hat;obtain⟨b9,c0,j3⟩:=Kd.S_slice b8.out;subst j3;have j8:d3.cell? ⟨a4,0,none⟩=some (b1):=(blk_cell a1.out 0).trans rfl;have j9:d3.cell? ⟨a4,1,none⟩=some (a3):=(blk_cell a1.out 1).trans rfl;have l4:=blk_frozen a1.out 0;have l5:=blk_frozen a1.out 1)));have c2:Aside0 (Kd.R (Kd.int .i64) 3 (d3.setCell ⟨a4,0,none⟩ (.slice b9 b3.length c0)) w.heap.size (fun _=>True) a3 a5):=⟨by refine zqfR ?_;exact Kd.R_mono (Kd.R_far (p:=⟨a4,0,none⟩) (Kd.R_types HO_1142001.out a1.out (by decide)) (fun _ hk=>hk.2) (.slice b9 b3.length c0)) (fun _ hk=>trivial)⟩;have c4:Aside0 (Kd.S (Kd.slice 3 (Kd.int .i64)) 24 (d3.setCell ⟨a4,0,none⟩ (.slice b9 b3.length c0)) w.heap.size (fun k_=>some k_≠(a3:Value).ownBlock) (.slice b9 b3.length c0) b3):=⟨by refine zqfS ?_;exact Kd.S_mono (Kd.S_far (p:=⟨a4,0,none⟩) (Kd.S_types b8.out a1.out (by decide)) (fun _ hk=>hk.2) (.slice b9 b3.length c0)) (fun _ hk=>hk.1)⟩;have i1:Aside0 ((d3.setCell ⟨a4,0,none⟩ (.slice b9 b3.length c0)).heap[a7]? =some (.cells #[.slice none 0 0,.slice none 0 0] 26 (0,0))):=⟨zq132⟩;have i2:Aside0 ((d3.setCell ⟨a4,0,none⟩ (.slice b9 b3.length c0)).heap[a4]? =some (.cells #[.slice b9 b3.length c0,a3] 26 (0,0))):=⟨by refine zqe ?_;refine blk_put (cs:= #[b1,a3]) ?_ 0 _ rfl;refine zqe ?_;exact a1.out⟩;have i3:Aside0 (Below w.heap.size w (d3.setCell ⟨a4,0,none⟩ (.slice b9 b3.length c0))):=⟨zq4⟩;(try clear HO_1142001);(try clear b8);(try clear a2);(try clear a1);(try clear HB);generalize (d3.setCell ⟨a4,0,none⟩ (.slice b9 b3.length c0))=m7 at c2 c4 i1 i2 i3 ⊢;have HO_1142001:=c2;have b8:=c4;have a2:=i1;have a1:=i2;have HB:=i3;clear c2 c4 i1 i2 i3;replace HO_1142001:=zqm (Kd.R_drew HO_1142001.out);replace b8:=zqm (Kd.S_drew b8.out);replace a2:=zqm (blk_drew a2.out);replace a1:=zqm (blk_drew a1.out);replace HB:=zqm (below_drew1 HB.out);refine start_ (n:=11) (S:=fun w'=>w'.cell? ⟨a4,0,none⟩=some (.slice b9 b3.length c0)∧w'.cell? ⟨a4,1,none⟩=some (a3)) (ds:= [10]) (zqb 11 0) zqk rfl rfl ⟨(blk_cell a1.out 0).trans rfl,(blk_cell a1.out 1).trans rfl⟩ (fun hHeld=>?_);refine with_tabW spec_SetsOf.tab16 spec_SetsOf.bits16 (fun HT_ HW_=>?_);generalize m7.drew=o9 at HO_1142001 b8 a2 a1 HB hHeld ⊢
            refine zqp 0 42 (zqb 11 1) HT_ ?_;refine zqp 2 44 (zqb 11 5) HT_ ?_;refine zqp 3 45 (zqb 11 13) HT_ ?_;refine zqp 4 46 (zqb 11 29) HT_ ?_;refine zqp 5 47 (zqb 11 61) HT_ ?_;refine zqp 6 48 (zqb 11 125) HT_ ?_;refine zqw 1 43 (zqb 11 127) HT_ HW_ hHeld ?_;refine one_ (i:=7) (N:=some 49) (zqb 11 255) rfl rfl (one_of HT_.out zqk) (by decide) (fun K hK=>?_);refine value_ (w1:=?_) (v:=?_) (by rfl) rfl ?_ ?_;rotate_left 2
            ·go_simp
             constructor
             ·rfl
             ·rfl
            refine hK.out _ _ ⟨(blk_cell (blk_alloc a1.out _) 0).trans rfl,(blk_cell (blk_alloc a1.out _) 1).trans rfl⟩ (fun hHeld=>?_);clear hK K;refine norm_ (a':=?_) ?_ ?_;rotate_left
            ·show Act.put _ (some 49) _=_;exact zqs
            refine one_ (i:=8) (N:=some 50) (zqb 11 511) rfl rfl (one_of HT_.out zqk) (by decide) (fun K hK=>?_);refine Kd.R_append_step (Kd.int .i64) (w0:=w) w.heap.size (by rfl) (.tmp 43) (.tmp 49) 24 3 (.int .i64 0) 8 rfl Try.underlying24 info3 rfl (by decide) (by omega) a3 a5 (wrap64 ((wrap64 ((b7) - 1)) - a9)) [.int .i64 (wrap64 ((wrap64 ((b7) - 1)) - a9))] (fun _=>True) (fun _=>False) rfl rfl ?aP (fun _ hk=>hk.elim) ?aF ?aO ?aB ?aS ?aL ?_;(case aP=>exact rfl);(case aB=> exact zq41);(case aF=>exact(fun _ _=>trivial));(case aO=>exact(zqfR HO_1142001.out));(case aS=> exact zq39);(case aL=>have:=LMc24.out;omega);intro o2 m8 ho hb hg hat;rw [← h8.out] at ho;replace a2:=zqm (blk_grown (g:=a7) (o:= .cells #[.slice none 0 0,.slice none 0 0] 26 (0,0)) (zqe a2.out) hg (Kd.R_ne HO_1142001.out a2.out (by decide)));replace a1:=zqm (blk_grown (g:=a4) (o:= .cells #[.slice b9 b3.length c0,a3] 26 (0,0)) (zqe a1.out) hg (Kd.R_ne HO_1142001.out a1.out (by decide)));replace b8:=zqm (Kd.S_after (ok:=(fun _=>True)) (by refine zqfS ?_;exact Kd.S_mono b8.out (fun _ hk=>⟨trivial,hk⟩)) hg hat);replace HB:=zqm (hb);have e7:=zqm (ho);clear HO_1142001;clear ho hb hg hat;obtain⟨f5,f7,i0⟩:=Kd.R_slice e7.out;(first|subst i0|(injection i0 with i8 m4 i9;have m5:=i8.symm;have m6:=i9.symm;clear i8 m4 i9;subst m5;subst m6));refine hK.out _ _ ⟨(blk_cell a1.out 0).trans rfl,(blk_cell a1.out 1).trans rfl⟩ (fun hHeld=>?_);clear hK K;refine norm_ (a':=?_) ?_ ?_;rotate_left
            ·show Act.put _ (some 50) _=_;exact zqs
            refine zqp 9 51 (zqb 11 1023) HT_ ?_;refine last_ (i:=10) (N:=none) (zqb 11 2047) rfl rfl (one_of HT_.out zqk) (by decide) (fun K hK=>?_);have hs35:m8.cell? ⟨a4,1,none⟩=some (a3):=(blk_cell a1.out 1).trans rfl;have hfs35:=blk_frozen a1.out 1;have hns35_0:=b0.out;have hms35_0:=b5.out;refine skip_ (w1:=?_) (by rfl) rfl ?_ ?_;rotate_left
            ·go_simp;rfl
            refine hK.out _ _ ?_;clear hK K;refine done_ (done_of HT_.out zqk) ?_;try go_wp2
            go_roundg k2
            (case measure=> exact zq111);case rel=>exact⟨(wrap64 (a9+1)),(b3),(d1),(.slice b9 b3.length c0),(.slice f5 d1.length f7),zq5,H',⟨zq111⟩,⟨by refine zqfS ?_;exact Kd.S_mono (Kd.S_far (p:=⟨a4,1,none⟩) (Kd.S_types b8.out a1.out (by decide)) (fun _ hk=>hk.2) (.slice f5 d1.length f7)) (fun _ hk=>hk.1.2)⟩,⟨by refine zqfR ?_;exact Kd.R_mono (Kd.R_far (p:=⟨a4,1,none⟩) (Kd.R_types e7.out a1.out (by decide)) (fun _ hk=>hk.2) (.slice f5 d1.length f7)) (fun _ hk=>trivial)⟩,⟨zq132⟩,⟨by refine zqe ?_;refine blk_put (cs:= #[.slice b9 b3.length c0,a3]) ?_ 1 _ rfl;refine zqe ?_;exact a1.out⟩,⟨zq4⟩⟩
           ·rw [if_neg g3] at H;exact absurd H (by simp)
          ·rw [if_neg g2] at H;exact absurd H (by simp)
        ·rw [if_neg e9] at H;exact absurd H (by simp)
     ·rw [if_neg d5] at H;have f9:decide (a9<(c5))=false:=decide_eq_false d5;clear d5;simp only [Option.some.injEq,Prod.mk.injEq] at H;obtain⟨rfl,rfl,rfl⟩:=H;have n3:=b5.out;have n6:=b0.out;have k0:wr.cell? ⟨a4,0,none⟩=some (b1):=(blk_cell a1.out 0).trans rfl;have k3:wr.cell? ⟨a4,1,none⟩=some (a3):=(blk_cell a1.out 1).trans rfl;have l6:=blk_frozen a1.out 0;have l7:=blk_frozen a1.out 1;obtain⟨e5,e6,j4⟩:=Kd.S_slice HO_1142000.out;subst j4;have k4:wr.cell? ⟨a7,0,none⟩=some (.slice none 0 0):=(blk_cell a2.out 0).trans rfl;have k5:wr.cell? ⟨a7,1,none⟩=some (.slice none 0 0):=(blk_cell a2.out 1).trans rfl;have l8:=blk_frozen a2.out 0;have l9:=blk_frozen a2.out 1;obtain⟨f6,f8,j5⟩:=Kd.R_slice HO_1142001.out;subst j5
      go_wp2
      refine bodyPost_ret (results_ct rfl _ _ a7 26 #[.slice e5 a6.length e6,.slice f6 a5.length f8] (0,0) _ rfl (by refine zqe ?_;refine blk_put (cs:= #[.slice e5 a6.length e6,.slice none 0 0]) ?_ 1 _ rfl;refine zqe ?_;refine blk_put (cs:= #[.slice none 0 0,.slice none 0 0]) ?_ 0 _ rfl;refine zqe ?_;exact a2.out) Try.underlying26 rfl zqk) rfl ?_;exact⟨_,_,by first|rfl|(simp [errW_none,errW_some] <;> rfl)|(simp only [← d2];first|rfl|(simp [errW_none,errW_some] <;> rfl))|(simp [*,errW_none,errW_some] <;> rfl),by refine zqfS ?_;exact Kd.S_mono (Kd.S_far (p:=⟨a7,1,none⟩) (Kd.S_far (p:=⟨a7,0,none⟩) (Kd.S_types HO_1142000.out a2.out (by decide)) (fun _ hk=>hk.2) (.slice e5 a6.length e6)) (fun _ hk=>hk.2) (.slice f6 a5.length f8)) (fun _ hk=>hk.1),by refine zqfR ?_;exact Kd.R_mono (Kd.R_far (p:=⟨a7,1,none⟩) (Kd.R_far (p:=⟨a7,0,none⟩) (Kd.R_types HO_1142001.out a2.out (by decide)) (fun _ hk=>hk.2) (.slice e5 a6.length e6)) (fun _ hk=>hk.2) (.slice f6 a5.length f8)) (fun _ hk=>trivial),zq4⟩
    ·rw [if_neg c8] at H;exact absurd H (by simp)
 ·replace c3:=Bool.eq_false_iff.mpr c3;subst c3;(have H1:(some (([]:List (List Int)),([]:List Int),false))=some (r1,r2,r3):=by rw [if_neg (show¬(false=true) by decide)] at H;exact H);clear H;have H:=H1;clear H1;simp only [Option.some.injEq,Prod.mk.injEq] at H;obtain⟨rfl,rfl,rfl⟩:=H
  go_enter Try.func124,Try.ntmps124
  go_wp2_with (first|((with_reducible refine gate_dst (N:=2) rfl ?_);refine box_event ?hg (N:=2) ?hd (cs:= #[.slice none 0 0,.slice none 0 0]) (t:=26) ?hr ?_;(case hd=>rfl);(case hg=>rfl);(case hr=> exact zq10);intro a7 hg p0 hbox hb;have c2:=zqm (below_step zq0 hb);have a2:=zqm (hbox);have h0:=zqm ((by rw [hg];exact(below_size zq0):w.heap.size≤a7));have a8:=zqm ((by rw [hg];exact(below_size zq0):w.heap.size≤a7));clear HB;have HB:=c2;clear c2 hb hbox hg)|((with_reducible refine gate_dst (N:=4) rfl ?_);refine box_event ?hg (N:=4) ?hd (cs:= #[.slice none 0 0,.slice none 0 0]) (t:=26) ?hr ?_;(case hd=>rfl);(case hg=>rfl);(case hr=> exact zq10);intro a4 hg g5 hbox hb;have c2:=zqm (blk_below (g:=a7) (o:= .cells #[.slice none 0 0,.slice none 0 0] 26 (0,0)) (zqe a2.out) hb);have c4:=zqm (below_step zq33 hb);have a1:=zqm (hbox);have h1:=zqm ((by rw [hg];exact(below_size zq33):w.heap.size≤a4));have b2:=zqm ((by rw [hg];exact(below_size zq33):w.heap.size≤a4));have b0:=zqm ((by rw [hg];exact Nat.ne_of_lt (blk_lt (g:=a7) (o:= .cells #[.slice none 0 0,.slice none 0 0] 26 (0,0)) (zqe a2.out)):a7≠a4));have b5:=zqm ((by rw [hg];exact Nat.ne_of_gt (blk_lt (g:=a7) (o:= .cells #[.slice none 0 0,.slice none 0 0] 26 (0,0)) (zqe a2.out)):a4≠a7));clear a2 HB;have a2:=c2;have HB:=c4;clear c2 c4 hb hbox hg;have n4:=b5.out;have n7:=b0.out;have k6:g5.cell? ⟨a4,0,none⟩=some (.slice none 0 0):=(blk_cell a1.out 0).trans rfl;have k7:g5.cell? ⟨a4,1,none⟩=some (.slice none 0 0):=(blk_cell a1.out 1).trans rfl;have m0:=blk_frozen a1.out 0;have m1:=blk_frozen a1.out 1)|((with_reducible refine gate_callee (f:=78) rfl ?_);refine goesL_ (some 11) rfl rfl Try.func78 zqk rfl #[.int .i64 a0,.int .i64 0,.int .i64 3] rfl zq2 ?_;(with_reducible refine(spec_l1In.calls a0 0 3 false _ A2.out).mono ?_);rintro e w' ⟨rfl,⟨nd,rfl⟩⟩;refine⟨_,rfl,?_⟩;have k8:g5.cell? ⟨a7,0,none⟩=some (.slice none 0 0):=(blk_cell a2.out 0).trans rfl;have k9:g5.cell? ⟨a7,1,none⟩=some (.slice none 0 0):=(blk_cell a2.out 1).trans rfl;have m2:=blk_frozen a2.out 0;have m3:=blk_frozen a2.out 1))
  refine bodyPost_ret (results_ct rfl _ _ a7 26 #[.slice none 0 0,.slice none 0 0] (0,0) _ rfl (by refine zqe ?_;refine blk_put (cs:= #[.slice none 0 0,.slice none 0 0]) ?_ 1 _ rfl;refine zqe ?_;refine blk_put (cs:= #[.slice none 0 0,.slice none 0 0]) ?_ 0 _ rfl;refine zqe ?_;refine blk_far ?_ b0.out _;refine zqe ?_;refine blk_far ?_ b0.out _;refine zqe ?_;exact a2.out) Try.underlying26 rfl zqk) rfl ?_;exact⟨_,_,zq8,zq53,zq24,zq4⟩
end
section
attribute [local go_sem] max2_int min2_int max_two min_two max_three min_three max_four min_four
def spec_DeskNew.f (k : Nat) (a0 : Int) : Option ((List (List Int)) × List Int × (List (S26)) × Bool) := (spec_SetsOf.f k a0).bind fun bt1159 => (if bt1159.2.2 = true then (some (bt1159.1, bt1159.2.1, ([] : List (S26)), true)) else (some (([] : List (List Int)), ([] : List Int), ([] : List (S26)), false)))
theorem spec_DeskNew.mono : ∀ a0 k, LeO (spec_DeskNew.f k a0) (spec_DeskNew.f (k + 1) a0) := by
 intro a0 k
 unfold spec_DeskNew.f
 repeat' first
   | (with_reducible exact spec_SetsOf.mono _ _)
   | (with_reducible exact LeO.refl _)
   | (with_reducible exact LeO.none _)
   | (with_reducible refine LeO.ite ?_ ?_)
   | (with_reducible refine LeO.bind ?_ (fun _ => ?_))
   | exact spec_SetsOf.mono _ _
   | exact LeO.none _
   | refine LeO.ite ?_ ?_
   | refine LeO.bind ?_ (fun _ => ?_)
set_option maxHeartbeats 8000000 in
set_option maxRecDepth 100000 in
theorem spec_DeskNew.calls (k : Nat) (a0 : Int) (r1 : List (List Int)) (r2 : List Int) (r3 : List (S26)) (r4 : Bool) (w : World) (h : spec_DeskNew.f k a0 = some (r1, r2, r3, r4)) :
  Calls Try.prog 64 #[.int .i64 a0] w fun e w' => ∃ v0_ v1_ v2_ : Value, e = .returned (.tuple #[.agg #[v0_, v1_, v2_], .bool r4]) ∧ Kd.S (Kd.slice 3 (Kd.int .i64)) 24 w' w.heap.size (fun k_ => some k_ ≠ (v1_ : Value).ownBlock) v0_ r1 ∧ Kd.R (Kd.int .i64) 3 w' w.heap.size (fun _ => True) v1_ r2 ∧ Kd.R k26 26 w' w.heap.size (fun k_ => some k_ ≠ (v0_ : Value).ownBlock ∧ some k_ ≠ (v1_ : Value).ownBlock) v2_ r3 ∧ Below w.heap.size w w' := by
 have hu56:=Try.underlying56;have hu26:=Try.underlying26;have HB:=zqm (Below.refl w.heap.size w);have H:((spec_SetsOf.f k a0).bind fun b6=>(if b6.2.2=true then(some (b6.1,b6.2.1,([]:List (S26)),true)) else(some (([]:List (List Int)),([]:List Int),([]:List (S26)),false))))=some (r1,r2,r3,r4):=h;clear h;replace H:=Option.bind_eq_some_iff.mp H;obtain⟨⟨a7,a8,c5⟩,d0,H⟩:=H;replace H:(if c5=true then(some (a7,a8,([]:List (S26)),true)) else(some (([]:List (List Int)),([]:List Int),([]:List (S26)),false)))=some (r1,r2,r3,r4):=H;have A2:=zqm d0;clear d0
 by_cases c3:c5=true
 ·subst c3;(have H1:(some (a7,a8,([]:List (S26)),true))=some (r1,r2,r3,r4):=by rw [if_pos rfl] at H;exact H);clear H;have H:=H1;clear H1;simp only [Option.some.injEq,Prod.mk.injEq] at H;obtain⟨rfl,rfl,rfl,rfl⟩:=H
  go_enter Try.func64,Try.ntmps64
  go_wp2_with (first|((with_reducible refine gate_dst (N:=2) rfl ?_);refine box_event ?hg (N:=2) ?hd (cs:= #[.slice none 0 0,.slice none 0 0,.slice none 0 0]) (t:=56) ?hr ?_;(case hd=>rfl);(case hg=>rfl);(case hr=> exact zq10);intro a2 hg w4 hbox hb;have c0:=zqm (below_step zq0 hb);have a1:=zqm (hbox);have c6:=zqm ((by rw [hg];exact(below_size zq0):w.heap.size≤a2));have a4:=zqm ((by rw [hg];exact(below_size zq0):w.heap.size≤a2));clear HB;have HB:=c0;clear c0 hb hbox hg)|((with_reducible refine gate_callee (f:=124) rfl ?_);refine goesL_ (some 8) rfl rfl Try.func124 zqk rfl #[.int .i64 a0] rfl zq2 ?_;(with_reducible refine(spec_SetsOf.calls k a0 a7 a8 true _ A2.out).mono ?_);rintro e w5 ⟨c8,c9,rfl,b8,b9,hb⟩;refine⟨_,rfl,?_⟩;have a9:=zqm (Kd.S_lower b8 (below_size zq3));have b0:=zqm (Kd.R_lower b9 (below_size zq3));replace a1:=zqm (blk_below (g:=a2) (o:= .cells #[.slice none 0 0,.slice none 0 0,.slice none 0 0] 56 (0,0)) (zqe a1.out) hb);replace HB:=zqm (below_step zq3 hb);clear hb b8 b9)|((with_reducible refine gate_dst (N:=4) rfl ?_);refine box_event ?hg (N:=4) ?hd (cs:= #[.slice none 0 0,.slice none 0 0]) (t:=26) ?hr ?_;(case hd=>rfl);(case hg=>rfl);(case hr=> exact zq10);intro a3 hg w6 hbox hb;replace a9:=zqm (Kd.S_below (zqfS a9.out) hb);replace b0:=zqm (Kd.R_below (zqfR b0.out) hb);have c1:=zqm (blk_below (g:=a2) (o:= .cells #[.slice none 0 0,.slice none 0 0,.slice none 0 0] 56 (0,0)) (zqe a1.out) hb);have c2:=zqm (below_step zq3 hb);have a6:=zqm (hbox);have c7:=zqm ((by rw [hg];exact(below_size zq3):w.heap.size≤a3));have b5:=zqm ((by rw [hg];exact(below_size zq3):w.heap.size≤a3));have a5:=zqm ((by rw [hg];exact Nat.ne_of_lt (blk_lt (g:=a2) (o:= .cells #[.slice none 0 0,.slice none 0 0,.slice none 0 0] 56 (0,0)) (zqe a1.out)):a2≠a3));have b1:=zqm ((by rw [hg];exact Nat.ne_of_gt (blk_lt (g:=a2) (o:= .cells #[.slice none 0 0,.slice none 0 0,.slice none 0 0] 56 (0,0)) (zqe a1.out)):a3≠a2));clear a1 HB;have a1:=c1;have HB:=c2;clear c1 c2 hb hbox hg;obtain⟨b4,b7,f0⟩:=Kd.S_slice a9.out;subst f0;have g1:=b1.out;have g2:=a5.out;have f1:w6.cell? ⟨a3,0,none⟩=some (.slice none 0 0):=(blk_cell a6.out 0).trans rfl;have f2:w6.cell? ⟨a3,1,none⟩=some (.slice none 0 0):=(blk_cell a6.out 1).trans rfl;have f3:=blk_frozen a6.out 0;have f4:=blk_frozen a6.out 1;obtain⟨b2,b3,d1⟩:=Kd.R_slice b0.out;subst d1;have d4:w6.cell? ⟨a2,0,none⟩=some (.slice none 0 0):=(blk_cell a1.out 0).trans rfl;have d5:w6.cell? ⟨a2,1,none⟩=some (.slice none 0 0):=(blk_cell a1.out 1).trans rfl;have d6:w6.cell? ⟨a2,2,none⟩=some (.slice none 0 0):=(blk_cell a1.out 2).trans rfl;have e2:=blk_frozen a1.out 0;have e3:=blk_frozen a1.out 1;have e4:=blk_frozen a1.out 2))
  refine bodyPost_ret (results_ct rfl _ _ a2 56 #[.slice b4 a7.length b7,.slice b2 a8.length b3,.slice none 0 0] (0,0) _ rfl zq36 Try.underlying56 rfl zqk) rfl ?_;exact⟨_,_,_,zq8,zq27,zq26,zq24,zq43⟩
 ·replace c3:=Bool.eq_false_iff.mpr c3;subst c3;(have H1:(some (([]:List (List Int)),([]:List Int),([]:List (S26)),false))=some (r1,r2,r3,r4):=by rw [if_neg (show¬(false=true) by decide)] at H;exact H);clear H;have H:=H1;clear H1;simp only [Option.some.injEq,Prod.mk.injEq] at H;obtain⟨rfl,rfl,rfl,rfl⟩:=H
  go_enter Try.func64,Try.ntmps64
  go_wp2_with (first|((with_reducible refine gate_dst (N:=2) rfl ?_);refine box_event ?hg (N:=2) ?hd (cs:= #[.slice none 0 0,.slice none 0 0,.slice none 0 0]) (t:=56) ?hr ?_;(case hd=>rfl);(case hg=>rfl);(case hr=> exact zq10);intro a2 hg g3 hbox hb;have c0:=zqm (below_step zq0 hb);have a1:=zqm (hbox);have c6:=zqm ((by rw [hg];exact(below_size zq0):w.heap.size≤a2));have a4:=zqm ((by rw [hg];exact(below_size zq0):w.heap.size≤a2));clear HB;have HB:=c0;clear c0 hb hbox hg)|((with_reducible refine gate_callee (f:=124) rfl ?_);refine goesL_ (some 8) rfl rfl Try.func124 zqk rfl #[.int .i64 a0] rfl zq2 ?_;(with_reducible refine(spec_SetsOf.calls k a0 a7 a8 false _ A2.out).mono ?_);rintro e g4 ⟨c8,c9,rfl,b8,b9,hb⟩;refine⟨_,rfl,?_⟩;have a9:=zqm (Kd.S_lower b8 (below_size zq3));have b0:=zqm (Kd.R_lower b9 (below_size zq3));replace a1:=zqm (blk_below (g:=a2) (o:= .cells #[.slice none 0 0,.slice none 0 0,.slice none 0 0] 56 (0,0)) (zqe a1.out) hb);replace HB:=zqm (below_step zq3 hb);clear hb b8 b9)|((with_reducible refine gate_dst (N:=4) rfl ?_);refine box_event ?hg (N:=4) ?hd (cs:= #[.slice none 0 0,.slice none 0 0]) (t:=26) ?hr ?_;(case hd=>rfl);(case hg=>rfl);(case hr=> exact zq10);intro a3 hg c4 hbox hb;replace a9:=zqm (Kd.S_below (zqfS a9.out) hb);replace b0:=zqm (Kd.R_below (zqfR b0.out) hb);have c1:=zqm (blk_below (g:=a2) (o:= .cells #[.slice none 0 0,.slice none 0 0,.slice none 0 0] 56 (0,0)) (zqe a1.out) hb);have c2:=zqm (below_step zq3 hb);have a6:=zqm (hbox);have c7:=zqm ((by rw [hg];exact(below_size zq3):w.heap.size≤a3));have b5:=zqm ((by rw [hg];exact(below_size zq3):w.heap.size≤a3));have a5:=zqm ((by rw [hg];exact Nat.ne_of_lt (blk_lt (g:=a2) (o:= .cells #[.slice none 0 0,.slice none 0 0,.slice none 0 0] 56 (0,0)) (zqe a1.out)):a2≠a3));have b1:=zqm ((by rw [hg];exact Nat.ne_of_gt (blk_lt (g:=a2) (o:= .cells #[.slice none 0 0,.slice none 0 0,.slice none 0 0] 56 (0,0)) (zqe a1.out)):a3≠a2));clear a1 HB;have a1:=c1;have HB:=c2;clear c1 c2 hb hbox hg;obtain⟨f7,f9,d2⟩:=Kd.S_slice a9.out;subst d2;have f5:=b1.out;have f6:=a5.out;have d7:c4.cell? ⟨a3,0,none⟩=some (.slice none 0 0):=(blk_cell a6.out 0).trans rfl;have d8:c4.cell? ⟨a3,1,none⟩=some (.slice none 0 0):=(blk_cell a6.out 1).trans rfl;have e5:=blk_frozen a6.out 0;have e6:=blk_frozen a6.out 1;obtain⟨f8,g0,d3⟩:=Kd.R_slice b0.out;subst d3;have d9:c4.cell? ⟨a2,0,none⟩=some (.slice none 0 0):=(blk_cell a1.out 0).trans rfl;have e0:c4.cell? ⟨a2,1,none⟩=some (.slice none 0 0):=(blk_cell a1.out 1).trans rfl;have e1:c4.cell? ⟨a2,2,none⟩=some (.slice none 0 0):=(blk_cell a1.out 2).trans rfl;have e7:=blk_frozen a1.out 0;have e8:=blk_frozen a1.out 1;have e9:=blk_frozen a1.out 2))
  refine bodyPost_ret (results_ct rfl _ _ a2 56 #[.slice none 0 0,.slice none 0 0,.slice none 0 0] (0,0) _ rfl zq37 Try.underlying56 rfl zqk) rfl ?_;exact⟨_,_,_,zq8,zq53,zq24,zq24,zq43⟩
end
section
attribute [local go_sem] max2_int min2_int max_two min_two max_three min_three max_four min_four
def laws_sameInts.l0 : Nat → List Int → List Int → Int → Option (Bool)
 | 0, _, _, _ => none
 | k + 1, x0, x1, x5 => if x5 < (x0.length : Int) then (if 0 ≤ x5 then (if x5 < (x1.length : Int) then (if (rd x0 x5) = (rd x1 x5) then (laws_sameInts.l0 k x0 x1 (wrap64 (x5 + 1))) else (some false)) else (none)) else (none)) else (some true)
def laws_sameInts.f (k : Nat) (l0 : List Int) (l1 : List Int) : Option (Bool) := if (l0.length : Int) = (l1.length : Int) then (laws_sameInts.l0 k l0 l1 0) else (some false)
theorem laws_sameInts.mono_l : ∀ k, (∀ y0 y1 y2, LeO (laws_sameInts.l0 k y0 y1 y2) (laws_sameInts.l0 (k + 1) y0 y1 y2))
 | 0 => fun _ _ _ r h => by simp [laws_sameInts.l0] at h
 | k + 1 => by
  have ih0 := laws_sameInts.mono_l k
  ·intro y0 y1 y2
   unfold laws_sameInts.l0
   repeat' first
   | (with_reducible exact ih0 _ _ _)
   | (with_reducible exact LeO.refl _)
   | (with_reducible exact LeO.none _)
   | (with_reducible refine LeO.ite ?_ ?_)
   | (with_reducible refine LeO.bind ?_ (fun _ => ?_))
   | exact ih0 _ _ _
   | exact LeO.none _
   | refine LeO.ite ?_ ?_
   | refine LeO.bind ?_ (fun _ => ?_)
theorem laws_sameInts.mono : ∀ a0 a1 k, LeO (laws_sameInts.f k a0 a1) (laws_sameInts.f (k + 1) a0 a1) := by
 intro a0 a1 k
 have ih0 := laws_sameInts.mono_l k
 unfold laws_sameInts.f
 repeat' first
   | (with_reducible exact ih0 _ _ _)
   | (with_reducible exact LeO.refl _)
   | (with_reducible exact LeO.none _)
   | (with_reducible refine LeO.ite ?_ ?_)
   | (with_reducible refine LeO.bind ?_ (fun _ => ?_))
   | exact ih0 _ _ _
   | exact LeO.none _
   | refine LeO.ite ?_ ?_
   | refine LeO.bind ?_ (fun _ => ?_)
set_option maxHeartbeats 8000000 in
set_option maxRecDepth 100000 in
theorem laws_sameInts.calls (k : Nat) (A0 : Option Addr) (c0 : Nat) (l0 : List Int) (A1 : Option Addr) (c1 : Nat) (l1 : List Int) (r : Bool) (w : World) (hr0 : Kd.C (Kd.int .i64) w A0 l0.length l0) (hc0 : l0.length ≤ c0) (hr1 : Kd.C (Kd.int .i64) w A1 l1.length l1) (hc1 : l1.length ≤ c1) (h : laws_sameInts.f k l0 l1 = some r) :
  Calls Try.prog 31 #[.slice A0 l0.length c0, .slice A1 l1.length c1] w fun e w' => e = .returned (.bool r) ∧ Drawn0 w w' := by
 have b5:=zqm hr0;have c9:=zqm hc0;clear hr0 hc0;have b6:=zqm hr1;have d0:=zqm hc1;clear hr1 hc1;have H:(if(l0.length:Int)=(l1.length:Int) then(laws_sameInts.l0 k l0 l1 0) else(some false))=some r:=h;clear h
 by_cases c3:(l0.length:Int)=(l1.length:Int)
 ·rw [if_pos c3] at H;have a9:((l0.length:Int)==(l1.length:Int))=true:=beq_iff_eq.mpr c3;have b0:((l0.length:Int) !=(l1.length:Int))=false:=bne_eq_false_iff_eq.mpr c3;(have b1:(l0.length==l1.length)=true:=by first|simpa using c3|(simp at c3 ⊢;omega));clear c3;have H':=zqm H;clear H
  go_enter Try.func31,Try.ntmps31
  go_wp2
  repeat(go_quiet (fail);try go_wp2)
  go_loopg [5] k (fun kq v5 w'=> ∃(a0:Int),v5= .int .i64 a0∧Aside0 (laws_sameInts.l0 kq l0 l1 a0=some r)∧Aside0 (kq≤k)∧Drawn0 w w')
  case atStart=>exact⟨(0),zq5,H',⟨Nat.le_refl _⟩,zq6⟩
  case round=>
   clear H';(try clear c1);(try clear p2);(try clear c3);(try clear a9);(try clear b0);(try clear b1);obtain⟨a0,rfl,HA,b4,⟨m1,rfl⟩⟩:=hrel
   cases gk with
   |zero=>exact absurd HA.out (by simp [laws_sameInts.l0])
   |succ k1=>
    have H:=HA.out;clear HA;simp only [laws_sameInts.l0] at H
    by_cases c4:a0<(l0.length:Int)
    ·rw [if_pos c4] at H;have b7:decide (a0<(l0.length:Int))=true:=decide_eq_true c4;clear c4
     by_cases c5:0≤a0
     ·rw [if_pos c5] at H;have c2:decide (0≤a0)=true:=decide_eq_true c5;clear c5
      by_cases c6:a0<(l1.length:Int)
      ·rw [if_pos c6] at H;have c8:decide (a0<(l1.length:Int))=true:=decide_eq_true c6;clear c6
       by_cases c7:(rd l0 a0)=(rd l1 a0)
       ·rw [if_pos c7] at H;have b8:((rd l0 a0)==(rd l1 a0))=true:=beq_iff_eq.mpr c7;have b9:((rd l0 a0) !=(rd l1 a0))=false:=bne_eq_false_iff_eq.mpr c7;clear c7;have H':=zqm H;clear H;have a1:0≤(a0:Int):=zqo;have a3:a0<(l0.length:Int):=zqo;obtain⟨b2,a5,a7⟩:=Kd.at_int b5.out a0 a1 a3
        cases a5
        replace a1:=eq_true a1;replace a3:=eq_true a3;have a2:0≤(a0:Int):=zqo;have a4:a0<(l1.length:Int):=zqo;obtain⟨b3,a6,a8⟩:=Kd.at_int b6.out a0 a2 a4
        cases a6
        replace a2:=eq_true a2;replace a4:=eq_true a4
        go_wp2
        repeat(go_quiet (fail);try go_wp2)
        go_roundg k1
        (case measure=>have:=b4.out;omega);case rel=>exact⟨(wrap64 (a0+1)),zq5,H',⟨by have:=b4.out;omega⟩,zq6⟩
       ·rw [if_neg c7] at H;have b8:((rd l0 a0)==(rd l1 a0))=false:=beq_eq_false_iff_ne.mpr c7;have b9:((rd l0 a0) !=(rd l1 a0))=true:=bne_iff_ne.mpr c7;obtain rfl:=Option.some.inj H;have a1:0≤(a0:Int):=zqo;have a3:a0<(l0.length:Int):=zqo;obtain⟨b2,a5,a7⟩:=Kd.at_int b5.out a0 a1 a3
        cases a5
        replace a1:=eq_true a1;replace a3:=eq_true a3;have a2:0≤(a0:Int):=zqo;have a4:a0<(l1.length:Int):=zqo;obtain⟨b3,a6,a8⟩:=Kd.at_int b6.out a0 a2 a4
        cases a6
        replace a2:=eq_true a2;replace a4:=eq_true a4
        go_wp2
        repeat(go_quiet (fail);try go_wp2)
        go_ret
        exact⟨zq5,zq6⟩
      ·rw [if_neg c6] at H;exact absurd H (by simp)
     ·rw [if_neg c5] at H;exact absurd H (by simp)
    ·rw [if_neg c4] at H;have b7:decide (a0<(l0.length:Int))=false:=decide_eq_false c4;clear c4;obtain rfl:=Option.some.inj H
     go_wp2
     repeat(go_quiet (fail);try go_wp2)
     go_ret
     exact⟨zq5,zq6⟩
 ·rw [if_neg c3] at H;have a9:((l0.length:Int)==(l1.length:Int))=false:=beq_eq_false_iff_ne.mpr c3;have b0:((l0.length:Int) !=(l1.length:Int))=true:=bne_iff_ne.mpr c3;(have b1:(l0.length==l1.length)=false:=by first|simpa using c3|(simp at c3 ⊢;omega));obtain rfl:=Option.some.inj H
  go_enter Try.func31,Try.ntmps31
  go_wp2
  repeat(go_quiet (fail);try go_wp2)
  go_ret
  exact⟨zq5,zq6⟩
end
section
attribute [local go_sem] max2_int min2_int max_two min_two max_three min_three max_four min_four
def laws_sameRows.l0 : Nat → List (List Int) → List (List Int) → Int → Option (Bool)
 | 0, _, _, _ => none
 | k + 1, x0, x1, x5 => if x5 < (x0.length : Int) then (if 0 ≤ x5 then (if x5 < (x1.length : Int) then ((laws_sameInts.f k (rd_L2 x0 x5) (rd_L2 x1 x5)).bind fun t1169 => (if t1169 = true then (laws_sameRows.l0 k x0 x1 (wrap64 (x5 + 1))) else (some false))) else (none)) else (none)) else (some true)
def laws_sameRows.f (k : Nat) (l0 : List (List Int)) (l1 : List (List Int)) : Option (Bool) := if (l0.length : Int) = (l1.length : Int) then (laws_sameRows.l0 k l0 l1 0) else (some false)
theorem laws_sameRows.mono_l : ∀ k, (∀ y0 y1 y2, LeO (laws_sameRows.l0 k y0 y1 y2) (laws_sameRows.l0 (k + 1) y0 y1 y2))
 | 0 => fun _ _ _ r h => by simp [laws_sameRows.l0] at h
 | k + 1 => by
  have ih0 := laws_sameRows.mono_l k
  ·intro y0 y1 y2
   unfold laws_sameRows.l0
   repeat' first
   | (with_reducible exact ih0 _ _ _)
   | (with_reducible exact laws_sameInts.mono _ _ _)
   | (with_reducible exact LeO.refl _)
   | (with_reducible exact LeO.none _)
   | (with_reducible refine LeO.ite ?_ ?_)
   | (with_reducible refine LeO.bind ?_ (fun _ => ?_))
   | exact ih0 _ _ _
   | exact laws_sameInts.mono _ _ _
   | exact LeO.none _
   | refine LeO.ite ?_ ?_
   | refine LeO.bind ?_ (fun _ => ?_)
theorem laws_sameRows.mono : ∀ a0 a1 k, LeO (laws_sameRows.f k a0 a1) (laws_sameRows.f (k + 1) a0 a1) := by
 intro a0 a1 k
 have ih0 := laws_sameRows.mono_l k
 unfold laws_sameRows.f
 repeat' first
   | (with_reducible exact ih0 _ _ _)
   | (with_reducible exact laws_sameInts.mono _ _ _)
   | (with_reducible exact LeO.refl _)
   | (with_reducible exact LeO.none _)
   | (with_reducible refine LeO.ite ?_ ?_)
   | (with_reducible refine LeO.bind ?_ (fun _ => ?_))
   | exact ih0 _ _ _
   | exact laws_sameInts.mono _ _ _
   | exact LeO.none _
   | refine LeO.ite ?_ ?_
   | refine LeO.bind ?_ (fun _ => ?_)
set_option maxHeartbeats 8000000 in
set_option maxRecDepth 100000 in
theorem laws_sameRows.calls (k : Nat) (A0 : Option Addr) (c0 : Nat) (l0 : List (List Int)) (A1 : Option Addr) (c1 : Nat) (l1 : List (List Int)) (r : Bool) (w : World) (hr0 : Kd.C (Kd.slice 3 (Kd.int .i64)) w A0 l0.length l0) (hc0 : l0.length ≤ c0) (hr1 : Kd.C (Kd.slice 3 (Kd.int .i64)) w A1 l1.length l1) (hc1 : l1.length ≤ c1) (h : laws_sameRows.f k l0 l1 = some r) :
  Calls Try.prog 125 #[.slice A0 l0.length c0, .slice A1 l1.length c1] w fun e w' => e = .returned (.bool r) ∧ Drawn0 w w' := by
 have d6:=zqm hr0;have e1:=zqm hc0;clear hr0 hc0;have d7:=zqm hr1;have e2:=zqm hc1;clear hr1 hc1;have H:(if(l0.length:Int)=(l1.length:Int) then(laws_sameRows.l0 k l0 l1 0) else(some false))=some r:=h;clear h
 by_cases c3:(l0.length:Int)=(l1.length:Int)
 ·rw [if_pos c3] at H;have d0:((l0.length:Int)==(l1.length:Int))=true:=beq_iff_eq.mpr c3;have d1:((l0.length:Int) !=(l1.length:Int))=false:=bne_eq_false_iff_eq.mpr c3;(have d2:(l0.length==l1.length)=true:=by first|simpa using c3|(simp at c3 ⊢;omega));clear c3;have H':=zqm H;clear H
  go_enter Try.func125,Try.ntmps125
  go_wp2
  repeat(go_quiet (fail);try go_wp2)
  go_loopg [5] k (fun kq v5 w'=> ∃(a0:Int),v5= .int .i64 a0∧Aside0 (laws_sameRows.l0 kq l0 l1 a0=some r)∧Aside0 (kq≤k)∧Drawn0 w w')
  case atStart=>exact⟨(0),zq5,H',⟨Nat.le_refl _⟩,zq6⟩
  case round=>
   clear H';(try clear c1);(try clear p2);(try clear c3);(try clear d0);(try clear d1);(try clear d2);obtain⟨a0,rfl,HA,d5,⟨m1,rfl⟩⟩:=hrel
   cases gk with
   |zero=>exact absurd HA.out (by simp [laws_sameRows.l0])
   |succ k1=>
    have H:=HA.out;clear HA;simp only [laws_sameRows.l0] at H
    by_cases c4:a0<(l0.length:Int)
    ·rw [if_pos c4] at H;have d8:decide (a0<(l0.length:Int))=true:=decide_eq_true c4;clear c4
     by_cases c5:0≤a0
     ·rw [if_pos c5] at H;have d9:decide (0≤a0)=true:=decide_eq_true c5;clear c5
      by_cases c6:a0<(l1.length:Int)
      ·rw [if_pos c6] at H;have e0:decide (a0<(l1.length:Int))=true:=decide_eq_true c6;clear c6;replace H:=Option.bind_eq_some_iff.mp H;obtain⟨d3,d4,H⟩:=H;(try dsimp only at H);have A7:=zqm d4;clear d4
       by_cases c8:d3=true
       ·subst c8;rw [if_pos rfl] at H;have H':=zqm H;clear H;have a9:0≤(a0:Int):=zqo;have b1:a0<(l0.length:Int):=zqo;obtain⟨c7,b7,b9,b3,b5,a7,a5⟩:=at_L2 d6.out a0 a9 b1
        cases b3
        have a3:=zqm a5;have a1:=zqm a7;clear a5 a7;replace a9:=eq_true a9;replace b1:=eq_true b1;have b0:0≤(a0:Int):=zqo;have b2:a0<(l1.length:Int):=zqo;obtain⟨c9,b8,c2,b4,b6,a8,a6⟩:=at_L2 d7.out a0 b0 b2
        cases b4
        have a4:=zqm a6;have a2:=zqm a8;clear a6 a8;replace b0:=eq_true b0;replace b2:=eq_true b2
        go_wp2_with (first|(go_at_call 31;(with_reducible refine(laws_sameInts.calls k1 _ _ (rd_L2 l0 a0) _ _ (rd_L2 l1 a0) true _ ?side1 ?side2 ?side3 ?side4 A7.out).mono ?_);(case side1=> exact zq34);(case side2=>exact a1.out);(case side3=> exact zq35);(case side4=>exact a2.out);rintro e w' ⟨rfl,⟨nd,rfl⟩⟩;(try first|exact⟨rfl,_,World.drewN_drewN _ _ _⟩|exact⟨rfl,_,Eq.trans (World.drewN_drewN _ _ _) (congrArg (World.drewN _) (Nat.add_assoc _ _ _))⟩)))
        repeat(go_quiet (first|(go_at_call 31;(with_reducible refine(laws_sameInts.calls k1 _ _ (rd_L2 l0 a0) _ _ (rd_L2 l1 a0) true _ ?side1 ?side2 ?side3 ?side4 A7.out).mono ?_);(case side1=> exact zq34);(case side2=>exact a1.out);(case side3=> exact zq35);(case side4=>exact a2.out);rintro e w' ⟨rfl,⟨nd,rfl⟩⟩;(try first|exact⟨rfl,_,World.drewN_drewN _ _ _⟩|exact⟨rfl,_,Eq.trans (World.drewN_drewN _ _ _) (congrArg (World.drewN _) (Nat.add_assoc _ _ _))⟩)));try go_wp2_with (first|(go_at_call 31;(with_reducible refine(laws_sameInts.calls k1 _ _ (rd_L2 l0 a0) _ _ (rd_L2 l1 a0) true _ ?side1 ?side2 ?side3 ?side4 A7.out).mono ?_);(case side1=> exact zq34);(case side2=>exact a1.out);(case side3=> exact zq35);(case side4=>exact a2.out);rintro e w' ⟨rfl,⟨nd,rfl⟩⟩;(try first|exact⟨rfl,_,World.drewN_drewN _ _ _⟩|exact⟨rfl,_,Eq.trans (World.drewN_drewN _ _ _) (congrArg (World.drewN _) (Nat.add_assoc _ _ _))⟩))))
        go_roundg k1
        (case measure=>have:=d5.out;omega);case rel=>exact⟨(wrap64 (a0+1)),zq5,H',⟨by have:=d5.out;omega⟩,zq6⟩
       ·replace c8:=Bool.eq_false_iff.mpr c8;subst c8;rw [if_neg (show¬(false=true) by decide)] at H;obtain rfl:=Option.some.inj H;have a9:0≤(a0:Int):=zqo;have b1:a0<(l0.length:Int):=zqo;obtain⟨c7,b7,b9,b3,b5,a7,a5⟩:=at_L2 d6.out a0 a9 b1
        cases b3
        have a3:=zqm a5;have a1:=zqm a7;clear a5 a7;replace a9:=eq_true a9;replace b1:=eq_true b1;have b0:0≤(a0:Int):=zqo;have b2:a0<(l1.length:Int):=zqo;obtain⟨c9,b8,c2,b4,b6,a8,a6⟩:=at_L2 d7.out a0 b0 b2
        cases b4
        have a4:=zqm a6;have a2:=zqm a8;clear a6 a8;replace b0:=eq_true b0;replace b2:=eq_true b2
        go_wp2_with (first|(go_at_call 31;(with_reducible refine(laws_sameInts.calls k1 _ _ (rd_L2 l0 a0) _ _ (rd_L2 l1 a0) false _ ?side1 ?side2 ?side3 ?side4 A7.out).mono ?_);(case side1=> exact zq34);(case side2=>exact a1.out);(case side3=> exact zq35);(case side4=>exact a2.out);rintro e w' ⟨rfl,⟨nd,rfl⟩⟩;(try first|exact⟨rfl,_,World.drewN_drewN _ _ _⟩|exact⟨rfl,_,Eq.trans (World.drewN_drewN _ _ _) (congrArg (World.drewN _) (Nat.add_assoc _ _ _))⟩)))
        repeat(go_quiet (first|(go_at_call 31;(with_reducible refine(laws_sameInts.calls k1 _ _ (rd_L2 l0 a0) _ _ (rd_L2 l1 a0) false _ ?side1 ?side2 ?side3 ?side4 A7.out).mono ?_);(case side1=> exact zq34);(case side2=>exact a1.out);(case side3=> exact zq35);(case side4=>exact a2.out);rintro e w' ⟨rfl,⟨nd,rfl⟩⟩;(try first|exact⟨rfl,_,World.drewN_drewN _ _ _⟩|exact⟨rfl,_,Eq.trans (World.drewN_drewN _ _ _) (congrArg (World.drewN _) (Nat.add_assoc _ _ _))⟩)));try go_wp2_with (first|(go_at_call 31;(with_reducible refine(laws_sameInts.calls k1 _ _ (rd_L2 l0 a0) _ _ (rd_L2 l1 a0) false _ ?side1 ?side2 ?side3 ?side4 A7.out).mono ?_);(case side1=> exact zq34);(case side2=>exact a1.out);(case side3=> exact zq35);(case side4=>exact a2.out);rintro e w' ⟨rfl,⟨nd,rfl⟩⟩;(try first|exact⟨rfl,_,World.drewN_drewN _ _ _⟩|exact⟨rfl,_,Eq.trans (World.drewN_drewN _ _ _) (congrArg (World.drewN _) (Nat.add_assoc _ _ _))⟩))))
        go_ret
        exact⟨zq5,zq6⟩
      ·rw [if_neg c6] at H;exact absurd H (by simp)
     ·rw [if_neg c5] at H;exact absurd H (by simp)
    ·rw [if_neg c4] at H;have d8:decide (a0<(l0.length:Int))=false:=decide_eq_false c4;clear c4;obtain rfl:=Option.some.inj H
     go_wp2
     repeat(go_quiet (fail);try go_wp2)
     go_ret
     exact⟨zq5,zq6⟩
 ·rw [if_neg c3] at H;have d0:((l0.length:Int)==(l1.length:Int))=false:=beq_eq_false_iff_ne.mpr c3;have d1:((l0.length:Int) !=(l1.length:Int))=true:=bne_iff_ne.mpr c3;(have d2:(l0.length==l1.length)=false:=by first|simpa using c3|(simp at c3 ⊢;omega));obtain rfl:=Option.some.inj H
  go_enter Try.func125,Try.ntmps125
  go_wp2
  repeat(go_quiet (fail);try go_wp2)
  go_ret
  exact⟨zq5,zq6⟩
end
section
attribute [local go_sem] max2_int min2_int max_two min_two max_three min_three max_four min_four
def laws_sameLogic.f (k : Nat) (l0_0 : List (List Int)) (l0_1 : List Int) (l1_0 : List (List Int)) (l1_1 : List Int) : Option (Bool) := (laws_sameRows.f k l0_0 l1_0).bind fun t1172 => (if t1172 = true then ((laws_sameInts.f k l0_1 l1_1).bind fun t1173 => (some t1173)) else (some false))
theorem laws_sameLogic.mono : ∀ a0 a1 a2 a3 k, LeO (laws_sameLogic.f k a0 a1 a2 a3) (laws_sameLogic.f (k + 1) a0 a1 a2 a3) := by
 intro a0 a1 a2 a3 k
 unfold laws_sameLogic.f
 repeat' first
   | (with_reducible exact laws_sameInts.mono _ _ _)
   | (with_reducible exact laws_sameRows.mono _ _ _)
   | (with_reducible exact LeO.refl _)
   | (with_reducible exact LeO.none _)
   | (with_reducible refine LeO.ite ?_ ?_)
   | (with_reducible refine LeO.bind ?_ (fun _ => ?_))
   | exact laws_sameInts.mono _ _ _
   | exact laws_sameRows.mono _ _ _
   | exact LeO.none _
   | refine LeO.ite ?_ ?_
   | refine LeO.bind ?_ (fun _ => ?_)
set_option maxHeartbeats 8000000 in
set_option maxRecDepth 100000 in
theorem laws_sameLogic.calls (k : Nat) (A0_0 : Option Addr) (c0_0 : Nat) (l0_0 : List (List Int)) (A0_1 : Option Addr) (c0_1 : Nat) (l0_1 : List Int) (A1_0 : Option Addr) (c1_0 : Nat) (l1_0 : List (List Int)) (A1_1 : Option Addr) (c1_1 : Nat) (l1_1 : List Int) (r : Bool) (w : World) (hr0_0 : Kd.C (Kd.slice 3 (Kd.int .i64)) w A0_0 l0_0.length l0_0) (hc0_0 : l0_0.length ≤ c0_0) (hr0_1 : Kd.C (Kd.int .i64) w A0_1 l0_1.length l0_1) (hc0_1 : l0_1.length ≤ c0_1) (hr1_0 : Kd.C (Kd.slice 3 (Kd.int .i64)) w A1_0 l1_0.length l1_0) (hc1_0 : l1_0.length ≤ c1_0) (hr1_1 : Kd.C (Kd.int .i64) w A1_1 l1_1.length l1_1) (hc1_1 : l1_1.length ≤ c1_1) (h : laws_sameLogic.f k l0_0 l0_1 l1_0 l1_1 = some r) :
  Calls Try.prog 67 #[.agg #[.slice A0_0 l0_0.length c0_0, .slice A0_1 l0_1.length c0_1], .agg #[.slice A1_0 l1_0.length c1_0, .slice A1_1 l1_1.length c1_1]] w fun e w' => e = .returned (.bool r) ∧ Below w.heap.size w w' := by
 have hu26:=Try.underlying26;have b4:=zqm hr0_0;have b2:=zqm hc0_0;clear hr0_0 hc0_0;have c1:=zqm hr0_1;have b9:=zqm hc0_1;clear hr0_1 hc0_1;have b5:=zqm hr1_0;have b3:=zqm hc1_0;clear hr1_0 hc1_0;have c2:=zqm hr1_1;have c0:=zqm hc1_1;clear hr1_1 hc1_1;have HB:=zqm (Below.refl w.heap.size w);have H:((laws_sameRows.f k l0_0 l1_0).bind fun a9=>(if a9=true then((laws_sameInts.f k l0_1 l1_1).bind fun b0=>(some b0)) else(some false)))=some r:=h;clear h;replace H:=Option.bind_eq_some_iff.mp H;obtain⟨a9,c3,H⟩:=H;(try dsimp only at H);have A3:=zqm c3;clear c3
 by_cases c4:a9=true
 ·subst c4;rw [if_pos rfl] at H;replace H:=Option.bind_eq_some_iff.mp H;obtain⟨b0,c5,H⟩:=H;(try dsimp only at H);have A5:=zqm c5;clear c5;obtain rfl:=Option.some.inj H
  go_enter Try.func67,Try.ntmps67
  go_wp2_with (first|((with_reducible refine gate_dst (N:=2) rfl ?_);refine box_event ?hg (N:=2) ?hd (cs:= #[.slice A0_0 l0_0.length c0_0,.slice A0_1 l0_1.length c0_1]) (t:=26) ?hr ?_;(case hd=>rfl);(case hg=>rfl);(case hr=> exact zq10);intro a1 hg w6 hbox hb;have a8:=zqm (below_step zq0 hb);have a0:=zqm (hbox);have b7:=zqm ((by rw [hg];exact(below_size zq0):w.heap.size≤a1));have a3:=zqm ((by rw [hg];exact(below_size zq0):w.heap.size≤a1));clear HB;have HB:=a8;clear a8 hb hbox hg)|((with_reducible refine gate_dst (N:=3) rfl ?_);refine box_event ?hg (N:=3) ?hd (cs:= #[.slice A1_0 l1_0.length c1_0,.slice A1_1 l1_1.length c1_1]) (t:=26) ?hr ?_;(case hd=>rfl);(case hg=>rfl);(case hr=> exact zq10);intro a2 hg w7 hbox hb;have a8:=zqm (blk_below (g:=a1) (o:= .cells #[.slice A0_0 l0_0.length c0_0,.slice A0_1 l0_1.length c0_1] 26 (0,0)) (zqe a0.out) hb);have b1:=zqm (below_step zq12 hb);have a4:=zqm (hbox);have b8:=zqm ((by rw [hg];exact(below_size zq12):w.heap.size≤a2));have a7:=zqm ((by rw [hg];exact(below_size zq12):w.heap.size≤a2));have a5:=zqm ((by rw [hg];exact Nat.ne_of_lt (blk_lt (g:=a1) (o:= .cells #[.slice A0_0 l0_0.length c0_0,.slice A0_1 l0_1.length c0_1] 26 (0,0)) (zqe a0.out)):a1≠a2));have a6:=zqm ((by rw [hg];exact Nat.ne_of_gt (blk_lt (g:=a1) (o:= .cells #[.slice A0_0 l0_0.length c0_0,.slice A0_1 l0_1.length c0_1] 26 (0,0)) (zqe a0.out)):a2≠a1));clear a0 HB;have a0:=a8;have HB:=b1;clear a8 b1 hb hbox hg;have e4:=a5.out;have e5:=a6.out;have d8:w7.cell? ⟨a1,0,none⟩=some (.slice A0_0 l0_0.length c0_0):=(blk_cell a0.out 0).trans rfl;have d9:w7.cell? ⟨a1,1,none⟩=some (.slice A0_1 l0_1.length c0_1):=(blk_cell a0.out 1).trans rfl;have e0:=blk_frozen a0.out 0;have e1:=blk_frozen a0.out 1;have c6:w7.cell? ⟨a2,0,none⟩=some (.slice A1_0 l1_0.length c1_0):=(blk_cell a4.out 0).trans rfl;have c7:w7.cell? ⟨a2,1,none⟩=some (.slice A1_1 l1_1.length c1_1):=(blk_cell a4.out 1).trans rfl;have d2:=blk_frozen a4.out 0;have d3:=blk_frozen a4.out 1)|((with_reducible refine gate_callee (f:=125) rfl ?_);refine goesL_ (some 9) rfl rfl Try.func125 zqk rfl #[.slice A0_0 l0_0.length c0_0,.slice A1_0 l1_0.length c1_0] rfl zq2 ?_;(with_reducible refine(laws_sameRows.calls k _ _ l0_0 _ _ l1_0 true _ ?side1 ?side2 ?side3 ?side4 A3.out).mono ?_);(case side1=> exact zq85);(case side2=>exact b2.out);(case side3=> exact zq50);(case side4=>exact b3.out);rintro e w' ⟨rfl,⟨nd,rfl⟩⟩;refine⟨_,rfl,?_⟩)|(go_at_call 31;(with_reducible refine(laws_sameInts.calls k _ _ l0_1 _ _ l1_1 b0 _ ?side1 ?side2 ?side3 ?side4 A5.out).mono ?_);(case side1=>repeat(first|exact(Kd.C_below c1.out zq42)|(with_reducible refine Kd.C_alloc ?_ _)|(with_reducible refine Kd.C_drewN ?_ _)|(with_reducible refine Kd.C_drew ?_)));(case side2=>exact b9.out);(case side3=>repeat(first|exact(Kd.C_below c2.out zq42)|(with_reducible refine Kd.C_alloc ?_ _)|(with_reducible refine Kd.C_drewN ?_ _)|(with_reducible refine Kd.C_drew ?_)));(case side4=>exact c0.out);rintro e w' ⟨rfl,⟨nd,rfl⟩⟩))
  go_ret
  exact⟨zq8,zq42⟩
 ·replace c4:=Bool.eq_false_iff.mpr c4;subst c4;rw [if_neg (show¬(false=true) by decide)] at H;obtain rfl:=Option.some.inj H
  go_enter Try.func67,Try.ntmps67
  go_wp2_with (first|((with_reducible refine gate_dst (N:=2) rfl ?_);refine box_event ?hg (N:=2) ?hd (cs:= #[.slice A0_0 l0_0.length c0_0,.slice A0_1 l0_1.length c0_1]) (t:=26) ?hr ?_;(case hd=>rfl);(case hg=>rfl);(case hr=> exact zq10);intro a1 hg e6 hbox hb;have a8:=zqm (below_step zq0 hb);have a0:=zqm (hbox);have b7:=zqm ((by rw [hg];exact(below_size zq0):w.heap.size≤a1));have a3:=zqm ((by rw [hg];exact(below_size zq0):w.heap.size≤a1));clear HB;have HB:=a8;clear a8 hb hbox hg)|((with_reducible refine gate_dst (N:=3) rfl ?_);refine box_event ?hg (N:=3) ?hd (cs:= #[.slice A1_0 l1_0.length c1_0,.slice A1_1 l1_1.length c1_1]) (t:=26) ?hr ?_;(case hd=>rfl);(case hg=>rfl);(case hr=> exact zq10);intro a2 hg b6 hbox hb;have a8:=zqm (blk_below (g:=a1) (o:= .cells #[.slice A0_0 l0_0.length c0_0,.slice A0_1 l0_1.length c0_1] 26 (0,0)) (zqe a0.out) hb);have b1:=zqm (below_step zq12 hb);have a4:=zqm (hbox);have b8:=zqm ((by rw [hg];exact(below_size zq12):w.heap.size≤a2));have a7:=zqm ((by rw [hg];exact(below_size zq12):w.heap.size≤a2));have a5:=zqm ((by rw [hg];exact Nat.ne_of_lt (blk_lt (g:=a1) (o:= .cells #[.slice A0_0 l0_0.length c0_0,.slice A0_1 l0_1.length c0_1] 26 (0,0)) (zqe a0.out)):a1≠a2));have a6:=zqm ((by rw [hg];exact Nat.ne_of_gt (blk_lt (g:=a1) (o:= .cells #[.slice A0_0 l0_0.length c0_0,.slice A0_1 l0_1.length c0_1] 26 (0,0)) (zqe a0.out)):a2≠a1));clear a0 HB;have a0:=a8;have HB:=b1;clear a8 b1 hb hbox hg;have e2:=a5.out;have e3:=a6.out;have c8:b6.cell? ⟨a1,0,none⟩=some (.slice A0_0 l0_0.length c0_0):=(blk_cell a0.out 0).trans rfl;have c9:b6.cell? ⟨a1,1,none⟩=some (.slice A0_1 l0_1.length c0_1):=(blk_cell a0.out 1).trans rfl;have d4:=blk_frozen a0.out 0;have d5:=blk_frozen a0.out 1;have d0:b6.cell? ⟨a2,0,none⟩=some (.slice A1_0 l1_0.length c1_0):=(blk_cell a4.out 0).trans rfl;have d1:b6.cell? ⟨a2,1,none⟩=some (.slice A1_1 l1_1.length c1_1):=(blk_cell a4.out 1).trans rfl;have d6:=blk_frozen a4.out 0;have d7:=blk_frozen a4.out 1)|((with_reducible refine gate_callee (f:=125) rfl ?_);refine goesL_ (some 9) rfl rfl Try.func125 zqk rfl #[.slice A0_0 l0_0.length c0_0,.slice A1_0 l1_0.length c1_0] rfl zq2 ?_;(with_reducible refine(laws_sameRows.calls k _ _ l0_0 _ _ l1_0 false _ ?side1 ?side2 ?side3 ?side4 A3.out).mono ?_);(case side1=> exact zq85);(case side2=>exact b2.out);(case side3=> exact zq50);(case side4=>exact b3.out);rintro e w' ⟨rfl,⟨nd,rfl⟩⟩;refine⟨_,rfl,?_⟩))
  go_ret
  exact⟨zq8,zq42⟩
end
section
attribute [local go_sem] max2_int min2_int max_two min_two max_three min_three max_four min_four
def laws_sameDesk.l0 : Nat → Int → List (List Int) → List Int → List (S26) → List (List Int) → List Int → List (S26) → Option (Bool)
 | 0, _, _, _, _, _, _, _ => none
 | k + 1, x5, x1175000, x1175001, x1175002, x1176000, x1176001, x1176002 => if x5 < (x1175002.length : Int) then (if 0 ≤ x5 then (if x5 < (x1176002.length : Int) then ((laws_sameLogic.f k ((rd_T26 x1175002 x5).f0) ((rd_T26 x1175002 x5).f1) ((rd_T26 x1176002 x5).f0) ((rd_T26 x1176002 x5).f1)).bind fun t1178 => (if t1178 = true then (laws_sameDesk.l0 k (wrap64 (x5 + 1)) x1175000 x1175001 x1175002 x1176000 x1176001 x1176002) else (some false))) else (none)) else (none)) else ((laws_sameLogic.f k x1175000 x1175001 x1176000 x1176001).bind fun t1179 => (some t1179))
def laws_sameDesk.f (k : Nat) (l0_0 : List (List Int)) (l0_1 : List Int) (l0_2 : List (S26)) (l1_0 : List (List Int)) (l1_1 : List Int) (l1_2 : List (S26)) : Option (Bool) := if (l0_2.length : Int) = (l1_2.length : Int) then (laws_sameDesk.l0 k 0 l0_0 l0_1 l0_2 l1_0 l1_1 l1_2) else (some false)
theorem laws_sameDesk.mono_l : ∀ k, (∀ y0 y1 y2 y3 y4 y5 y6, LeO (laws_sameDesk.l0 k y0 y1 y2 y3 y4 y5 y6) (laws_sameDesk.l0 (k + 1) y0 y1 y2 y3 y4 y5 y6))
 | 0 => fun _ _ _ _ _ _ _ r h => by simp [laws_sameDesk.l0] at h
 | k + 1 => by
  have ih0 := laws_sameDesk.mono_l k
  ·intro y0 y1 y2 y3 y4 y5 y6
   unfold laws_sameDesk.l0
   repeat' first
   | (with_reducible exact ih0 _ _ _ _ _ _ _)
   | (with_reducible exact laws_sameLogic.mono _ _ _ _ _)
   | (with_reducible exact LeO.refl _)
   | (with_reducible exact LeO.none _)
   | (with_reducible refine LeO.ite ?_ ?_)
   | (with_reducible refine LeO.bind ?_ (fun _ => ?_))
   | exact ih0 _ _ _ _ _ _ _
   | exact laws_sameLogic.mono _ _ _ _ _
   | exact LeO.none _
   | refine LeO.ite ?_ ?_
   | refine LeO.bind ?_ (fun _ => ?_)
theorem laws_sameDesk.mono : ∀ a0 a1 a2 a3 a4 a5 k, LeO (laws_sameDesk.f k a0 a1 a2 a3 a4 a5) (laws_sameDesk.f (k + 1) a0 a1 a2 a3 a4 a5) := by
 intro a0 a1 a2 a3 a4 a5 k
 have ih0 := laws_sameDesk.mono_l k
 unfold laws_sameDesk.f
 repeat' first
   | (with_reducible exact ih0 _ _ _ _ _ _ _)
   | (with_reducible exact laws_sameLogic.mono _ _ _ _ _)
   | (with_reducible exact LeO.refl _)
   | (with_reducible exact LeO.none _)
   | (with_reducible refine LeO.ite ?_ ?_)
   | (with_reducible refine LeO.bind ?_ (fun _ => ?_))
   | exact ih0 _ _ _ _ _ _ _
   | exact laws_sameLogic.mono _ _ _ _ _
   | exact LeO.none _
   | refine LeO.ite ?_ ?_
   | refine LeO.bind ?_ (fun _ => ?_)
def laws_sameDesk.T6 : Bool × List (List Nat × List Nat) := (true, [([], []), ([0], [0]), ([], []), ([1, 2], [1, 2]), ([3], [3]), ([], []), ([5], [5]), ([], []), ([6, 7], [6, 7]), ([8], [8]), ([4, 9], [4, 9]), ([10], [10])])
def laws_sameDesk.B6 : List Nat := [0, 1, 0, 7, 15, 0, 32, 0, 224, 480, 1023, 2047]
theorem laws_sameDesk.tab6 : rtab .any (opsOf Try.f65 6) = laws_sameDesk.T6 := by kernel_rfl
theorem laws_sameDesk.bits6 : waitsOk laws_sameDesk.T6.2 laws_sameDesk.B6 = true := by kernel_rfl
set_option maxHeartbeats 8000000 in
set_option maxRecDepth 100000 in
theorem laws_sameDesk.calls (k : Nat) (A0_0 : Option Addr) (c0_0 : Nat) (l0_0 : List (List Int)) (A0_1 : Option Addr) (c0_1 : Nat) (l0_1 : List Int) (A0_2 : Option Addr) (c0_2 : Nat) (l0_2 : List (S26)) (A1_0 : Option Addr) (c1_0 : Nat) (l1_0 : List (List Int)) (A1_1 : Option Addr) (c1_1 : Nat) (l1_1 : List Int) (A1_2 : Option Addr) (c1_2 : Nat) (l1_2 : List (S26)) (r : Bool) (w : World) (hr0_0 : Kd.C (Kd.slice 3 (Kd.int .i64)) w A0_0 l0_0.length l0_0) (hc0_0 : l0_0.length ≤ c0_0) (hr0_1 : Kd.C (Kd.int .i64) w A0_1 l0_1.length l0_1) (hc0_1 : l0_1.length ≤ c0_1) (hr0_2 : Kd.C k26 w A0_2 l0_2.length l0_2) (hc0_2 : l0_2.length ≤ c0_2) (hr1_0 : Kd.C (Kd.slice 3 (Kd.int .i64)) w A1_0 l1_0.length l1_0) (hc1_0 : l1_0.length ≤ c1_0) (hr1_1 : Kd.C (Kd.int .i64) w A1_1 l1_1.length l1_1) (hc1_1 : l1_1.length ≤ c1_1) (hr1_2 : Kd.C k26 w A1_2 l1_2.length l1_2) (hc1_2 : l1_2.length ≤ c1_2) (h : laws_sameDesk.f k l0_0 l0_1 l0_2 l1_0 l1_1 l1_2 = some r) :
  Calls Try.prog 65 #[.agg #[.slice A0_0 l0_0.length c0_0, .slice A0_1 l0_1.length c0_1, .slice A0_2 l0_2.length c0_2], .agg #[.slice A1_0 l1_0.length c1_0, .slice A1_1 l1_1.length c1_1, .slice A1_2 l1_2.length c1_2]] w fun e w' => e = .returned (.bool r) ∧ Below w.heap.size w w' := by
 have hu56:=Try.underlying56;have hu26:=Try.underlying26;have i2:=zqm hr0_0;have h8:=zqm hc0_0;clear hr0_0 hc0_0;have i3:=zqm hr0_1;have h9:=zqm hc0_1;clear hr0_1 hc0_1;have f4:=zqm hr0_2;have n0:=zqm hc0_2;clear hr0_2 hc0_2;have i4:=zqm hr1_0;have i0:=zqm hc1_0;clear hr1_0 hc1_0;have i5:=zqm hr1_1;have i1:=zqm hc1_1;clear hr1_1 hc1_1;have f5:=zqm hr1_2;have n1:=zqm hc1_2;clear hr1_2 hc1_2;have HB:=zqm (Below.refl w.heap.size w);have H:(if(l0_2.length:Int)=(l1_2.length:Int) then(laws_sameDesk.l0 k 0 l0_0 l0_1 l0_2 l1_0 l1_1 l1_2) else(some false))=some r:=h;clear h
 by_cases c3:(l0_2.length:Int)=(l1_2.length:Int)
 ·rw [if_pos c3] at H;have g3:((l0_2.length:Int)==(l1_2.length:Int))=true:=beq_iff_eq.mpr c3;have g4:((l0_2.length:Int) !=(l1_2.length:Int))=false:=bne_eq_false_iff_eq.mpr c3;(have g5:(l0_2.length==l1_2.length)=true:=by first|simpa using c3|(simp at c3 ⊢;omega));clear c3;have H':=zqm H;clear H
  go_enter Try.func65,Try.ntmps65
  go_wp2_with (first|((with_reducible refine gate_dst (N:=2) rfl ?_);refine box_event ?hg (N:=2) ?hd (cs:= #[.slice A0_0 l0_0.length c0_0,.slice A0_1 l0_1.length c0_1,.slice A0_2 l0_2.length c0_2]) (t:=56) ?hr ?_;(case hd=>rfl);(case hg=>rfl);(case hr=> exact zq10);intro a2 hg w4 hbox hb;have e3:=zqm (below_step zq0 hb);have a0:=zqm (hbox);have g1:=zqm ((by rw [hg];exact(below_size zq0):w.heap.size≤a2));have a5:=zqm ((by rw [hg];exact(below_size zq0):w.heap.size≤a2));clear HB;have HB:=e3;clear e3 hb hbox hg)|((with_reducible refine gate_dst (N:=3) rfl ?_);refine box_event ?hg (N:=3) ?hd (cs:= #[.slice A1_0 l1_0.length c1_0,.slice A1_1 l1_1.length c1_1,.slice A1_2 l1_2.length c1_2]) (t:=56) ?hr ?_;(case hd=>rfl);(case hg=>rfl);(case hr=> exact zq10);intro a4 hg w5 hbox hb;have e3:=zqm (blk_below (g:=a2) (o:= .cells #[.slice A0_0 l0_0.length c0_0,.slice A0_1 l0_1.length c0_1,.slice A0_2 l0_2.length c0_2] 56 (0,0)) (zqe a0.out) hb);have f3:=zqm (below_step zq32 hb);have a1:=zqm (hbox);have g2:=zqm ((by rw [hg];exact(below_size zq32):w.heap.size≤a4));have b4:=zqm ((by rw [hg];exact(below_size zq32):w.heap.size≤a4));have b0:=zqm ((by rw [hg];exact Nat.ne_of_lt (blk_lt (g:=a2) (o:= .cells #[.slice A0_0 l0_0.length c0_0,.slice A0_1 l0_1.length c0_1,.slice A0_2 l0_2.length c0_2] 56 (0,0)) (zqe a0.out)):a2≠a4));have b1:=zqm ((by rw [hg];exact Nat.ne_of_gt (blk_lt (g:=a2) (o:= .cells #[.slice A0_0 l0_0.length c0_0,.slice A0_1 l0_1.length c0_1,.slice A0_2 l0_2.length c0_2] 56 (0,0)) (zqe a0.out)):a4≠a2));clear a0 HB;have a0:=e3;have HB:=f3;clear e3 f3 hb hbox hg;have o2:=b0.out;have o3:=b1.out;have g6:w5.cell? ⟨a2,0,none⟩=some (.slice A0_0 l0_0.length c0_0):=(blk_cell a0.out 0).trans rfl;have g7:w5.cell? ⟨a2,1,none⟩=some (.slice A0_1 l0_1.length c0_1):=(blk_cell a0.out 1).trans rfl;have g8:w5.cell? ⟨a2,2,none⟩=some (.slice A0_2 l0_2.length c0_2):=(blk_cell a0.out 2).trans rfl;have h2:=blk_frozen a0.out 0;have h3:=blk_frozen a0.out 1;have h4:=blk_frozen a0.out 2;have g9:w5.cell? ⟨a4,0,none⟩=some (.slice A1_0 l1_0.length c1_0):=(blk_cell a1.out 0).trans rfl;have h0:w5.cell? ⟨a4,1,none⟩=some (.slice A1_1 l1_1.length c1_1):=(blk_cell a1.out 1).trans rfl;have h1:w5.cell? ⟨a4,2,none⟩=some (.slice A1_2 l1_2.length c1_2):=(blk_cell a1.out 2).trans rfl;have h5:=blk_frozen a1.out 0;have h6:=blk_frozen a1.out 1;have h7:=blk_frozen a1.out 2))
  go_loopg [5] k (fun kq v5 w'=> ∃(a3:Int),v5= .int .i64 a3∧Aside0 (laws_sameDesk.l0 kq a3 l0_0 l0_1 l0_2 l1_0 l1_1 l1_2=some r)∧Aside0 (kq≤k)∧Aside0 (w'.heap[a2]? =some (.cells #[(.slice A0_0 l0_0.length c0_0),(.slice A0_1 l0_1.length c0_1),(.slice A0_2 l0_2.length c0_2)] 56 (0,0)))∧Aside0 (w'.heap[a4]? =some (.cells #[(.slice A1_0 l1_0.length c1_0),(.slice A1_1 l1_1.length c1_1),(.slice A1_2 l1_2.length c1_2)] 56 (0,0)))∧Aside0 (Below w.heap.size w w'))
  case atStart=>exact⟨(0),zq5,H',⟨Nat.le_refl _⟩,⟨zqe a0.out⟩,⟨zqe a1.out⟩,⟨zq11⟩⟩
  case round=>
   clear H';(try clear c1);(try clear p2);(try clear c3);(try clear g3);(try clear g4);(try clear g5);(try clear c6);(try clear g6);(try clear g7);(try clear g8);(try clear g9);(try clear h0);(try clear h1);(try clear h2);(try clear h3);(try clear h4);(try clear h5);(try clear h6);(try clear h7);obtain⟨a3,rfl,HA,i9,a0,a1,HB⟩:=hrel
   cases gk with
   |zero=>exact absurd HA.out (by simp [laws_sameDesk.l0])
   |succ k1=>
    have H:=HA.out;clear HA;simp only [laws_sameDesk.l0] at H
    by_cases c9:a3<(l0_2.length:Int)
    ·rw [if_pos c9] at H;have j0:decide (a3<(l0_2.length:Int))=true:=decide_eq_true c9;clear c9
     by_cases f6:0≤a3
     ·rw [if_pos f6] at H;have n2:decide (0≤a3)=true:=decide_eq_true f6;clear f6
      by_cases f7:a3<(l1_2.length:Int)
      ·rw [if_pos f7] at H;have n3:decide (a3<(l1_2.length:Int))=true:=decide_eq_true f7;clear f7;replace H:=Option.bind_eq_some_iff.mp H;obtain⟨i6,f9,H⟩:=H;(try dsimp only at H);have i8:=zqm f9;clear f9
       by_cases f8:i6=true
       ·subst f8;rw [if_pos rfl] at H;have H':=zqm H;clear H;have n4:=b0.out;have n8:=b1.out;have j1:wr.cell? ⟨a2,0,none⟩=some (.slice A0_0 l0_0.length c0_0):=(blk_cell a0.out 0).trans rfl;have j2:wr.cell? ⟨a2,1,none⟩=some (.slice A0_1 l0_1.length c0_1):=(blk_cell a0.out 1).trans rfl;have j3:wr.cell? ⟨a2,2,none⟩=some (.slice A0_2 l0_2.length c0_2):=(blk_cell a0.out 2).trans rfl;have l1:=blk_frozen a0.out 0;have l2:=blk_frozen a0.out 1;have l3:=blk_frozen a0.out 2;(try go_wp2);replace a0:=zqm (blk_drew a0.out);replace a1:=zqm (blk_drew a1.out);replace HB:=zqm (below_drew1 HB.out);have d9:0≤(a3:Int):=zqo;have e1:a3<(l0_2.length:Int):=zqo;obtain⟨b2,d1,d5,d2,d6,e9,a6,a7,c5,b9,c7,c0⟩:=at_T26 f4.out a3 d9 e1;have hw1176_1:=a7;have hw1176_0:=a6
        cases e9
        replace a6:=(HB.out.cell (World.block_lt_of_cell? w _ a6)).trans a6;replace a7:=(HB.out.cell (World.block_lt_of_cell? w _ a7)).trans a7;have b5:=zqm b9;have e4:=zqm c5;clear b9 c5;have b6:=zqm c0;have e5:=zqm c7;clear c0 c7;replace d9:=eq_true d9;replace e1:=eq_true e1;have e0:0≤(a3:Int):=zqo;have e2:a3<(l1_2.length:Int):=zqo;obtain⟨b3,d3,d7,d4,d8,f2,a8,a9,c8,c2,d0,c4⟩:=at_T26 f5.out a3 e0 e2;have hw1177_1:=a9;have hw1177_0:=a8
        cases f2
        replace a8:=(HB.out.cell (World.block_lt_of_cell? w _ a8)).trans a8;replace a9:=(HB.out.cell (World.block_lt_of_cell? w _ a9)).trans a9;have b7:=zqm c2;have e6:=zqm c8;clear c2 c8;have b8:=zqm c4;have e7:=zqm d0;clear c4 d0;replace e0:=eq_true e0;replace e2:=eq_true e2;refine start_ (n:=12) (S:=fun w'=>w'.cell? ⟨a2,0,none⟩=some (.slice A0_0 l0_0.length c0_0)∧w'.cell? ⟨a2,1,none⟩=some (.slice A0_1 l0_1.length c0_1)∧w'.cell? ⟨a2,2,none⟩=some (.slice (some b2) l0_2.length c0_2)∧w'.cell? ⟨a4,0,none⟩=some (.slice A1_0 l1_0.length c1_0)∧w'.cell? ⟨a4,1,none⟩=some (.slice A1_1 l1_1.length c1_1)∧w'.cell? ⟨a4,2,none⟩=some (.slice (some b3) l1_2.length c1_2)∧w'.cell? (b2.add ((a3).toNat*2))=some (.slice d1 ((rd_T26 l0_2 a3).f0).length d5)∧w'.cell? ⟨(b2.add ((a3).toNat*2)).block,(b2.add ((a3).toNat*2)).off+1,none⟩=some (.slice d2 ((rd_T26 l0_2 a3).f1).length d6)∧w'.cell? (b3.add ((a3).toNat*2))=some (.slice d3 ((rd_T26 l1_2 a3).f0).length d7)∧w'.cell? ⟨(b3.add ((a3).toNat*2)).block,(b3.add ((a3).toNat*2)).off+1,none⟩=some (.slice d4 ((rd_T26 l1_2 a3).f1).length d8)) (ds:= []) (zqb 12 0) zqk rfl rfl ⟨(blk_cell a0.out 0).trans rfl,(blk_cell a0.out 1).trans rfl,(blk_cell a0.out 2).trans rfl,(blk_cell a1.out 0).trans rfl,(blk_cell a1.out 1).trans rfl,(blk_cell a1.out 2).trans rfl,((HB.out.cell (World.block_lt_of_cell? w _ hw1176_0)).trans hw1176_0),((HB.out.cell (World.block_lt_of_cell? w _ hw1176_1)).trans hw1176_1),((HB.out.cell (World.block_lt_of_cell? w _ hw1177_0)).trans hw1177_0),((HB.out.cell (World.block_lt_of_cell? w _ hw1177_1)).trans hw1177_1)⟩ (fun hHeld=>?_);refine with_tabW laws_sameDesk.tab6 laws_sameDesk.bits6 (fun HT_ HW_=>?_);generalize wr.drew=o4 at a0 a1 HB b5 b6 b7 b8 a6 a7 a8 a9 hHeld ⊢;refine zqp 0 20 (zqb 12 1) HT_ ?_;refine zqp 2 22 (zqb 12 5) HT_ ?_;refine zqp 5 25 (zqb 12 37) HT_ ?_;refine zqp 7 27 (zqb 12 165) HT_ ?_;refine zqw 1 21 (zqb 12 167) HT_ HW_ hHeld ?_;refine zqp 3 23 (zqb 12 175) HT_ ?_;refine zqw 4 24 (zqb 12 191) HT_ HW_ hHeld ?_;refine zqw 6 26 (zqb 12 255) HT_ HW_ hHeld ?_;refine zqp 8 28 (zqb 12 511) HT_ ?_;refine zqw 9 29 (zqb 12 1023) HT_ HW_ hHeld ?_;refine one_ (i:=10) (N:=some 30) (zqb 12 2047) rfl rfl (one_of HT_.out zqk) (by decide) (fun K hK=>?_);refine goes_ Try.func67 zqk rfl #[.agg #[.slice d1 ((rd_T26 l0_2 a3).f0).length d5,.slice d2 ((rd_T26 l0_2 a3).f1).length d6],.agg #[.slice d3 ((rd_T26 l1_2 a3).f0).length d7,.slice d4 ((rd_T26 l1_2 a3).f1).length d8]] (by rfl) rfl rfl zq2 ?_;(with_reducible refine(laws_sameLogic.calls k1 _ _ ((rd_T26 l0_2 a3).f0) _ _ ((rd_T26 l0_2 a3).f1) _ _ ((rd_T26 l1_2 a3).f0) _ _ ((rd_T26 l1_2 a3).f1) true _ ?side1 ?side2 ?side3 ?side4 ?side5 ?side6 ?side7 ?side8 i8.out).mono ?_);(case side1=> exact zq50);(case side2=>exact e4.out);(case side3=> exact zq86);(case side4=>exact e5.out);(case side5=> exact zq87);(case side6=>exact e6.out);(case side7=> exact zq88);(case side8=>exact e7.out);rintro e o5 ⟨rfl,hb⟩;refine⟨_,rfl,?_⟩;replace a0:=zqm (blk_below (g:=a2) (o:= .cells #[.slice A0_0 l0_0.length c0_0,.slice A0_1 l0_1.length c0_1,.slice (some b2) l0_2.length c0_2] 56 (0,0)) (zqe a0.out) hb);replace a1:=zqm (blk_below (g:=a4) (o:= .cells #[.slice A1_0 l1_0.length c1_0,.slice A1_1 l1_1.length c1_1,.slice (some b3) l1_2.length c1_2] 56 (0,0)) (zqe a1.out) hb);replace HB:=zqm (below_step zq11 hb);clear hb;refine hK.out _ _ ⟨(blk_cell a0.out 0).trans rfl,(blk_cell a0.out 1).trans rfl,(blk_cell a0.out 2).trans rfl,(blk_cell a1.out 0).trans rfl,(blk_cell a1.out 1).trans rfl,(blk_cell a1.out 2).trans rfl,((HB.out.cell (World.block_lt_of_cell? w _ hw1176_0)).trans hw1176_0),((HB.out.cell (World.block_lt_of_cell? w _ hw1176_1)).trans hw1176_1),((HB.out.cell (World.block_lt_of_cell? w _ hw1177_0)).trans hw1177_0),((HB.out.cell (World.block_lt_of_cell? w _ hw1177_1)).trans hw1177_1)⟩ (fun hHeld=>?_)
        clear hK K;refine norm_ (a':=?_) ?_ ?_;rotate_left
        ·show Act.put _ (some 30) _=_;exact zqs
        refine zqp 11 31 (zqb 12 4095) HT_ ?_;refine done_ (done_of HT_.out zqk) ?_;try go_wp2
        go_roundg k1
        (case measure=>have:=i9.out;omega);case rel=>exact⟨(wrap64 (a3+1)),zq5,H',⟨by have:=i9.out;omega⟩,⟨zqe a0.out⟩,⟨zqe a1.out⟩,⟨zq11⟩⟩
       ·replace f8:=Bool.eq_false_iff.mpr f8;subst f8;rw [if_neg (show¬(false=true) by decide)] at H;obtain rfl:=Option.some.inj H;have n5:=b0.out;have n9:=b1.out;have j4:wr.cell? ⟨a2,0,none⟩=some (.slice A0_0 l0_0.length c0_0):=(blk_cell a0.out 0).trans rfl;have j5:wr.cell? ⟨a2,1,none⟩=some (.slice A0_1 l0_1.length c0_1):=(blk_cell a0.out 1).trans rfl;have j6:wr.cell? ⟨a2,2,none⟩=some (.slice A0_2 l0_2.length c0_2):=(blk_cell a0.out 2).trans rfl;have l4:=blk_frozen a0.out 0;have l5:=blk_frozen a0.out 1;have l6:=blk_frozen a0.out 2;(try go_wp2);replace a0:=zqm (blk_drew a0.out);replace a1:=zqm (blk_drew a1.out);replace HB:=zqm (below_drew1 HB.out);have d9:0≤(a3:Int):=zqo;have e1:a3<(l0_2.length:Int):=zqo;obtain⟨b2,d1,d5,d2,d6,e9,a6,a7,c5,b9,c7,c0⟩:=at_T26 f4.out a3 d9 e1;have hw1176_1:=a7;have hw1176_0:=a6
        cases e9
        replace a6:=(HB.out.cell (World.block_lt_of_cell? w _ a6)).trans a6;replace a7:=(HB.out.cell (World.block_lt_of_cell? w _ a7)).trans a7;have b5:=zqm b9;have e4:=zqm c5;clear b9 c5;have b6:=zqm c0;have e5:=zqm c7;clear c0 c7;replace d9:=eq_true d9;replace e1:=eq_true e1;have e0:0≤(a3:Int):=zqo;have e2:a3<(l1_2.length:Int):=zqo;obtain⟨b3,d3,d7,d4,d8,f2,a8,a9,c8,c2,d0,c4⟩:=at_T26 f5.out a3 e0 e2;have hw1177_1:=a9;have hw1177_0:=a8
        cases f2
        replace a8:=(HB.out.cell (World.block_lt_of_cell? w _ a8)).trans a8;replace a9:=(HB.out.cell (World.block_lt_of_cell? w _ a9)).trans a9;have b7:=zqm c2;have e6:=zqm c8;clear c2 c8;have b8:=zqm c4;have e7:=zqm d0;clear c4 d0;replace e0:=eq_true e0;replace e2:=eq_true e2;refine start_ (n:=12) (S:=fun w'=>w'.cell? ⟨a2,0,none⟩=some (.slice A0_0 l0_0.length c0_0)∧w'.cell? ⟨a2,1,none⟩=some (.slice A0_1 l0_1.length c0_1)∧w'.cell? ⟨a2,2,none⟩=some (.slice (some b2) l0_2.length c0_2)∧w'.cell? ⟨a4,0,none⟩=some (.slice A1_0 l1_0.length c1_0)∧w'.cell? ⟨a4,1,none⟩=some (.slice A1_1 l1_1.length c1_1)∧w'.cell? ⟨a4,2,none⟩=some (.slice (some b3) l1_2.length c1_2)∧w'.cell? (b2.add ((a3).toNat*2))=some (.slice d1 ((rd_T26 l0_2 a3).f0).length d5)∧w'.cell? ⟨(b2.add ((a3).toNat*2)).block,(b2.add ((a3).toNat*2)).off+1,none⟩=some (.slice d2 ((rd_T26 l0_2 a3).f1).length d6)∧w'.cell? (b3.add ((a3).toNat*2))=some (.slice d3 ((rd_T26 l1_2 a3).f0).length d7)∧w'.cell? ⟨(b3.add ((a3).toNat*2)).block,(b3.add ((a3).toNat*2)).off+1,none⟩=some (.slice d4 ((rd_T26 l1_2 a3).f1).length d8)) (ds:= []) (zqb 12 0) zqk rfl rfl ⟨(blk_cell a0.out 0).trans rfl,(blk_cell a0.out 1).trans rfl,(blk_cell a0.out 2).trans rfl,(blk_cell a1.out 0).trans rfl,(blk_cell a1.out 1).trans rfl,(blk_cell a1.out 2).trans rfl,((HB.out.cell (World.block_lt_of_cell? w _ hw1176_0)).trans hw1176_0),((HB.out.cell (World.block_lt_of_cell? w _ hw1176_1)).trans hw1176_1),((HB.out.cell (World.block_lt_of_cell? w _ hw1177_0)).trans hw1177_0),((HB.out.cell (World.block_lt_of_cell? w _ hw1177_1)).trans hw1177_1)⟩ (fun hHeld=>?_);refine with_tabW laws_sameDesk.tab6 laws_sameDesk.bits6 (fun HT_ HW_=>?_);generalize wr.drew=o6 at a0 a1 HB b5 b6 b7 b8 a6 a7 a8 a9 hHeld ⊢;refine zqp 0 20 (zqb 12 1) HT_ ?_;refine zqp 2 22 (zqb 12 5) HT_ ?_;refine zqp 5 25 (zqb 12 37) HT_ ?_;refine zqp 7 27 (zqb 12 165) HT_ ?_;refine zqw 1 21 (zqb 12 167) HT_ HW_ hHeld ?_;refine zqp 3 23 (zqb 12 175) HT_ ?_;refine zqw 4 24 (zqb 12 191) HT_ HW_ hHeld ?_;refine zqw 6 26 (zqb 12 255) HT_ HW_ hHeld ?_;refine zqp 8 28 (zqb 12 511) HT_ ?_;refine zqw 9 29 (zqb 12 1023) HT_ HW_ hHeld ?_;refine one_ (i:=10) (N:=some 30) (zqb 12 2047) rfl rfl (one_of HT_.out zqk) (by decide) (fun K hK=>?_);refine goes_ Try.func67 zqk rfl #[.agg #[.slice d1 ((rd_T26 l0_2 a3).f0).length d5,.slice d2 ((rd_T26 l0_2 a3).f1).length d6],.agg #[.slice d3 ((rd_T26 l1_2 a3).f0).length d7,.slice d4 ((rd_T26 l1_2 a3).f1).length d8]] (by rfl) rfl rfl zq2 ?_;(with_reducible refine(laws_sameLogic.calls k1 _ _ ((rd_T26 l0_2 a3).f0) _ _ ((rd_T26 l0_2 a3).f1) _ _ ((rd_T26 l1_2 a3).f0) _ _ ((rd_T26 l1_2 a3).f1) false _ ?side1 ?side2 ?side3 ?side4 ?side5 ?side6 ?side7 ?side8 i8.out).mono ?_);(case side1=> exact zq50);(case side2=>exact e4.out);(case side3=> exact zq86);(case side4=>exact e5.out);(case side5=> exact zq87);(case side6=>exact e6.out);(case side7=> exact zq88);(case side8=>exact e7.out);rintro e o7 ⟨rfl,hb⟩;refine⟨_,rfl,?_⟩;replace a0:=zqm (blk_below (g:=a2) (o:= .cells #[.slice A0_0 l0_0.length c0_0,.slice A0_1 l0_1.length c0_1,.slice (some b2) l0_2.length c0_2] 56 (0,0)) (zqe a0.out) hb);replace a1:=zqm (blk_below (g:=a4) (o:= .cells #[.slice A1_0 l1_0.length c1_0,.slice A1_1 l1_1.length c1_1,.slice (some b3) l1_2.length c1_2] 56 (0,0)) (zqe a1.out) hb);replace HB:=zqm (below_step zq11 hb);clear hb;refine hK.out _ _ ⟨(blk_cell a0.out 0).trans rfl,(blk_cell a0.out 1).trans rfl,(blk_cell a0.out 2).trans rfl,(blk_cell a1.out 0).trans rfl,(blk_cell a1.out 1).trans rfl,(blk_cell a1.out 2).trans rfl,((HB.out.cell (World.block_lt_of_cell? w _ hw1176_0)).trans hw1176_0),((HB.out.cell (World.block_lt_of_cell? w _ hw1176_1)).trans hw1176_1),((HB.out.cell (World.block_lt_of_cell? w _ hw1177_0)).trans hw1177_0),((HB.out.cell (World.block_lt_of_cell? w _ hw1177_1)).trans hw1177_1)⟩ (fun hHeld=>?_)
        clear hK K;refine norm_ (a':=?_) ?_ ?_;rotate_left
        ·show Act.put _ (some 30) _=_;exact zqs
        refine zqp 11 31 (zqb 12 4095) HT_ ?_;refine done_ (done_of HT_.out zqk) ?_;try go_wp2
        go_ret
        exact⟨zq8,zq11⟩
      ·rw [if_neg f7] at H;exact absurd H (by simp)
     ·rw [if_neg f6] at H;exact absurd H (by simp)
    ·rw [if_neg c9] at H;have j0:decide (a3<(l0_2.length:Int))=false:=decide_eq_false c9;clear c9;replace H:=Option.bind_eq_some_iff.mp H;obtain⟨i7,g0,H⟩:=H;(try dsimp only at H);have m9:=zqm g0;clear g0;obtain rfl:=Option.some.inj H;have n6:=b0.out;have o0:=b1.out;have j7:wr.cell? ⟨a2,0,none⟩=some (.slice A0_0 l0_0.length c0_0):=(blk_cell a0.out 0).trans rfl;have j8:wr.cell? ⟨a2,1,none⟩=some (.slice A0_1 l0_1.length c0_1):=(blk_cell a0.out 1).trans rfl;have j9:wr.cell? ⟨a2,2,none⟩=some (.slice A0_2 l0_2.length c0_2):=(blk_cell a0.out 2).trans rfl;have l7:=blk_frozen a0.out 0;have l8:=blk_frozen a0.out 1;have l9:=blk_frozen a0.out 2;have k0:wr.cell? ⟨a4,0,none⟩=some (.slice A1_0 l1_0.length c1_0):=(blk_cell a1.out 0).trans rfl;have k2:wr.cell? ⟨a4,1,none⟩=some (.slice A1_1 l1_1.length c1_1):=(blk_cell a1.out 1).trans rfl;have k3:wr.cell? ⟨a4,2,none⟩=some (.slice A1_2 l1_2.length c1_2):=(blk_cell a1.out 2).trans rfl;have m0:=blk_frozen a1.out 0;have m1:=blk_frozen a1.out 1;have m2:=blk_frozen a1.out 2
     go_wp2_with (first|((with_reducible refine gate_callee (f:=67) rfl ?_);refine goesL_ (some 36) rfl rfl Try.func67 zqk rfl #[.agg #[.slice A0_0 l0_0.length c0_0,.slice A0_1 l0_1.length c0_1],.agg #[.slice A1_0 l1_0.length c1_0,.slice A1_1 l1_1.length c1_1]] rfl zq2 ?_;(with_reducible refine(laws_sameLogic.calls k1 _ _ l0_0 _ _ l0_1 _ _ l1_0 _ _ l1_1 i7 _ ?side1 ?side2 ?side3 ?side4 ?side5 ?side6 ?side7 ?side8 m9.out).mono ?_);(case side1=>repeat(first|exact(Kd.C_below i2.out HB.out)|(with_reducible refine Kd.C_alloc ?_ _)|(with_reducible refine Kd.C_drewN ?_ _)|(with_reducible refine Kd.C_drew ?_)));(case side2=>exact h8.out);(case side3=>repeat(first|exact(Kd.C_below i3.out HB.out)|(with_reducible refine Kd.C_alloc ?_ _)|(with_reducible refine Kd.C_drewN ?_ _)|(with_reducible refine Kd.C_drew ?_)));(case side4=>exact h9.out);(case side5=>repeat(first|exact(Kd.C_below i4.out HB.out)|(with_reducible refine Kd.C_alloc ?_ _)|(with_reducible refine Kd.C_drewN ?_ _)|(with_reducible refine Kd.C_drew ?_)));(case side6=>exact i0.out);(case side7=>repeat(first|exact(Kd.C_below i5.out HB.out)|(with_reducible refine Kd.C_alloc ?_ _)|(with_reducible refine Kd.C_drewN ?_ _)|(with_reducible refine Kd.C_drew ?_)));(case side8=>exact i1.out);rintro e o8 ⟨rfl,hb⟩;refine⟨_,rfl,?_⟩;replace a0:=zqm (blk_below (g:=a2) (o:= .cells #[.slice A0_0 l0_0.length c0_0,.slice A0_1 l0_1.length c0_1,.slice A0_2 l0_2.length c0_2] 56 (0,0)) (zqe a0.out) hb);replace a1:=zqm (blk_below (g:=a4) (o:= .cells #[.slice A1_0 l1_0.length c1_0,.slice A1_1 l1_1.length c1_1,.slice A1_2 l1_2.length c1_2] 56 (0,0)) (zqe a1.out) hb);replace HB:=zqm (below_step zq11 hb);clear hb))
     go_ret
     exact⟨zq8,zq11⟩
 ·rw [if_neg c3] at H;have g3:((l0_2.length:Int)==(l1_2.length:Int))=false:=beq_eq_false_iff_ne.mpr c3;have g4:((l0_2.length:Int) !=(l1_2.length:Int))=true:=bne_iff_ne.mpr c3;(have g5:(l0_2.length==l1_2.length)=false:=by first|simpa using c3|(simp at c3 ⊢;omega));obtain rfl:=Option.some.inj H
  go_enter Try.func65,Try.ntmps65
  go_wp2_with (first|((with_reducible refine gate_dst (N:=2) rfl ?_);refine box_event ?hg (N:=2) ?hd (cs:= #[.slice A0_0 l0_0.length c0_0,.slice A0_1 l0_1.length c0_1,.slice A0_2 l0_2.length c0_2]) (t:=56) ?hr ?_;(case hd=>rfl);(case hg=>rfl);(case hr=> exact zq10);intro a2 hg o9 hbox hb;have e3:=zqm (below_step zq0 hb);have a0:=zqm (hbox);have g1:=zqm ((by rw [hg];exact(below_size zq0):w.heap.size≤a2));have a5:=zqm ((by rw [hg];exact(below_size zq0):w.heap.size≤a2));clear HB;have HB:=e3;clear e3 hb hbox hg)|((with_reducible refine gate_dst (N:=3) rfl ?_);refine box_event ?hg (N:=3) ?hd (cs:= #[.slice A1_0 l1_0.length c1_0,.slice A1_1 l1_1.length c1_1,.slice A1_2 l1_2.length c1_2]) (t:=56) ?hr ?_;(case hd=>rfl);(case hg=>rfl);(case hr=> exact zq10);intro a4 hg e8 hbox hb;have e3:=zqm (blk_below (g:=a2) (o:= .cells #[.slice A0_0 l0_0.length c0_0,.slice A0_1 l0_1.length c0_1,.slice A0_2 l0_2.length c0_2] 56 (0,0)) (zqe a0.out) hb);have f3:=zqm (below_step zq32 hb);have a1:=zqm (hbox);have g2:=zqm ((by rw [hg];exact(below_size zq32):w.heap.size≤a4));have b4:=zqm ((by rw [hg];exact(below_size zq32):w.heap.size≤a4));have b0:=zqm ((by rw [hg];exact Nat.ne_of_lt (blk_lt (g:=a2) (o:= .cells #[.slice A0_0 l0_0.length c0_0,.slice A0_1 l0_1.length c0_1,.slice A0_2 l0_2.length c0_2] 56 (0,0)) (zqe a0.out)):a2≠a4));have b1:=zqm ((by rw [hg];exact Nat.ne_of_gt (blk_lt (g:=a2) (o:= .cells #[.slice A0_0 l0_0.length c0_0,.slice A0_1 l0_1.length c0_1,.slice A0_2 l0_2.length c0_2] 56 (0,0)) (zqe a0.out)):a4≠a2));clear a0 HB;have a0:=e3;have HB:=f3;clear e3 f3 hb hbox hg;have n7:=b0.out;have o1:=b1.out;have k4:e8.cell? ⟨a2,0,none⟩=some (.slice A0_0 l0_0.length c0_0):=(blk_cell a0.out 0).trans rfl;have k5:e8.cell? ⟨a2,1,none⟩=some (.slice A0_1 l0_1.length c0_1):=(blk_cell a0.out 1).trans rfl;have k6:e8.cell? ⟨a2,2,none⟩=some (.slice A0_2 l0_2.length c0_2):=(blk_cell a0.out 2).trans rfl;have m3:=blk_frozen a0.out 0;have m4:=blk_frozen a0.out 1;have m5:=blk_frozen a0.out 2;have k7:e8.cell? ⟨a4,0,none⟩=some (.slice A1_0 l1_0.length c1_0):=(blk_cell a1.out 0).trans rfl;have k8:e8.cell? ⟨a4,1,none⟩=some (.slice A1_1 l1_1.length c1_1):=(blk_cell a1.out 1).trans rfl;have k9:e8.cell? ⟨a4,2,none⟩=some (.slice A1_2 l1_2.length c1_2):=(blk_cell a1.out 2).trans rfl;have m6:=blk_frozen a1.out 0;have m7:=blk_frozen a1.out 1;have m8:=blk_frozen a1.out 2))
  go_ret
  exact⟨zq8,zq11⟩
end
section
attribute [local go_sem] max2_int min2_int max_two min_two max_three min_three max_four min_four
def laws_noDesk.f (k : Nat) (l0_0 : List (List Int)) (l0_1 : List Int) (l0_2 : List (S26)) : Option (Bool) := (laws_sameDesk.f k l0_0 l0_1 l0_2 ([] : List (List Int)) ([] : List Int) ([] : List (S26))).bind fun t1181 => (some t1181)
theorem laws_noDesk.mono : ∀ a0 a1 a2 k, LeO (laws_noDesk.f k a0 a1 a2) (laws_noDesk.f (k + 1) a0 a1 a2) := by
 intro a0 a1 a2 k
 unfold laws_noDesk.f
 repeat' first
   | (with_reducible exact laws_sameDesk.mono _ _ _ _ _ _ _)
   | (with_reducible exact LeO.refl _)
   | (with_reducible exact LeO.none _)
   | (with_reducible refine LeO.ite ?_ ?_)
   | (with_reducible refine LeO.bind ?_ (fun _ => ?_))
   | exact laws_sameDesk.mono _ _ _ _ _ _ _
   | exact LeO.none _
   | refine LeO.ite ?_ ?_
   | refine LeO.bind ?_ (fun _ => ?_)
set_option maxHeartbeats 8000000 in
set_option maxRecDepth 100000 in
theorem laws_noDesk.calls (k : Nat) (A0_0 : Option Addr) (c0_0 : Nat) (l0_0 : List (List Int)) (A0_1 : Option Addr) (c0_1 : Nat) (l0_1 : List Int) (A0_2 : Option Addr) (c0_2 : Nat) (l0_2 : List (S26)) (r : Bool) (w : World) (hr0_0 : Kd.C (Kd.slice 3 (Kd.int .i64)) w A0_0 l0_0.length l0_0) (hc0_0 : l0_0.length ≤ c0_0) (hr0_1 : Kd.C (Kd.int .i64) w A0_1 l0_1.length l0_1) (hc0_1 : l0_1.length ≤ c0_1) (hr0_2 : Kd.C k26 w A0_2 l0_2.length l0_2) (hc0_2 : l0_2.length ≤ c0_2) (h : laws_noDesk.f k l0_0 l0_1 l0_2 = some r) :
  Calls Try.prog 66 #[.agg #[.slice A0_0 l0_0.length c0_0, .slice A0_1 l0_1.length c0_1, .slice A0_2 l0_2.length c0_2]] w fun e w' => e = .returned (.bool r) ∧ Below w.heap.size w w' := by
 have hu56:=Try.underlying56;have a7:=zqm hr0_0;have a4:=zqm hc0_0;clear hr0_0 hc0_0;have a8:=zqm hr0_1;have a5:=zqm hc0_1;clear hr0_1 hc0_1;have a9:=zqm hr0_2;have a6:=zqm hc0_2;clear hr0_2 hc0_2;have HB:=zqm (Below.refl w.heap.size w);have H:((laws_sameDesk.f k l0_0 l0_1 l0_2 ([]:List (List Int)) ([]:List Int) ([]:List (S26))).bind fun a2=>(some a2))=some r:=h;clear h;replace H:=Option.bind_eq_some_iff.mp H;obtain⟨a2,b0,H⟩:=H;(try dsimp only at H);have A2:=zqm b0;clear b0;obtain rfl:=Option.some.inj H
 go_enter Try.func66,Try.ntmps66
 go_wp2_with (first|((with_reducible refine gate_dst (N:=1) rfl ?_);refine box_event ?hg (N:=1) ?hd (cs:= #[.slice A0_0 l0_0.length c0_0,.slice A0_1 l0_1.length c0_1,.slice A0_2 l0_2.length c0_2]) (t:=56) ?hr ?_;(case hd=>rfl);(case hg=>rfl);(case hr=> exact zq10);intro a1 hg w3 hbox hb;have b1:=zqm (below_step zq0 hb);have a0:=zqm (hbox);have b2:=zqm ((by rw [hg];exact(below_size zq0):w.heap.size≤a1));have a3:=zqm ((by rw [hg];exact(below_size zq0):w.heap.size≤a1));clear HB;have HB:=b1;clear b1 hb hbox hg;have b3:w3.cell? ⟨a1,0,none⟩=some (.slice A0_0 l0_0.length c0_0):=(blk_cell a0.out 0).trans rfl;have b4:w3.cell? ⟨a1,1,none⟩=some (.slice A0_1 l0_1.length c0_1):=(blk_cell a0.out 1).trans rfl;have b5:w3.cell? ⟨a1,2,none⟩=some (.slice A0_2 l0_2.length c0_2):=(blk_cell a0.out 2).trans rfl;have b6:=blk_frozen a0.out 0;have b7:=blk_frozen a0.out 1;have b8:=blk_frozen a0.out 2)|((with_reducible refine gate_callee (f:=65) rfl ?_);refine goesL_ (some 5) rfl rfl Try.func65 zqk rfl #[.agg #[.slice A0_0 l0_0.length c0_0,.slice A0_1 l0_1.length c0_1,.slice A0_2 l0_2.length c0_2],.agg #[.slice none 0 0,.slice none 0 0,.slice none 0 0]] rfl zq2 ?_;(refine(laws_sameDesk.calls k _ _ l0_0 _ _ l0_1 _ _ l0_2 _ _ ([]:List (List Int)) _ _ ([]:List Int) _ _ ([]:List (S26)) a2 _ ?side1 ?side2 ?side3 ?side4 ?side5 ?side6 ?side7 ?side8 ?side9 ?side10 ?side11 ?side12 A2.out).mono ?_);(case side1=>repeat(first|exact(Kd.C_below a7.out HB.out)|(with_reducible refine Kd.C_alloc ?_ _)|(with_reducible refine Kd.C_drewN ?_ _)|(with_reducible refine Kd.C_drew ?_)));(case side2=>exact a4.out);(case side3=>repeat(first|exact(Kd.C_below a8.out HB.out)|(with_reducible refine Kd.C_alloc ?_ _)|(with_reducible refine Kd.C_drewN ?_ _)|(with_reducible refine Kd.C_drew ?_)));(case side4=>exact a5.out);(case side5=>repeat(first|exact(Kd.C_below a9.out HB.out)|(with_reducible refine Kd.C_alloc ?_ _)|(with_reducible refine Kd.C_drewN ?_ _)|(with_reducible refine Kd.C_drew ?_)));(case side6=>exact a6.out);(case side7=>exact Kd.C_nil _ _);(case side8=>exact Nat.le_refl _);(case side9=>exact Kd.C_nil _ _);(case side10=>exact Nat.le_refl _);(case side11=>exact Kd.C_nil _ _);(case side12=>exact Nat.le_refl _);rintro e w5 ⟨rfl,hb⟩;refine⟨_,rfl,?_⟩;replace a0:=zqm (blk_below (g:=a1) (o:= .cells #[.slice A0_0 l0_0.length c0_0,.slice A0_1 l0_1.length c0_1,.slice A0_2 l0_2.length c0_2] 56 (0,0)) (zqe a0.out) hb);replace HB:=zqm (below_step zq12 hb);clear hb))
 go_ret
 exact⟨zq8,zq12⟩
end
section
attribute [local go_sem] max2_int min2_int max_two min_two max_three min_three max_four min_four
def laws_alive.f (k : Nat)  : Option (Bool) := (impl_OrderOk.f k (([(([1] : List Int))] : List (List Int)))).bind fun t522 => (if t522 = true then ((impl_OrderOk.f k (([(([0] : List Int))] : List (List Int)))).bind fun t529 => (some (!t529))) else (some false))
theorem laws_alive.mono : ∀ k, LeO (laws_alive.f k ) (laws_alive.f (k + 1) ) := by
 intro  k
 unfold laws_alive.f
 repeat' first
   | (with_reducible exact impl_OrderOk.mono _ _)
   | (with_reducible exact LeO.refl _)
   | (with_reducible exact LeO.none _)
   | (with_reducible refine LeO.ite ?_ ?_)
   | (with_reducible refine LeO.bind ?_ (fun _ => ?_))
   | exact impl_OrderOk.mono _ _
   | exact LeO.none _
   | refine LeO.ite ?_ ?_
   | refine LeO.bind ?_ (fun _ => ?_)
set_option maxHeartbeats 8000000 in
set_option maxRecDepth 100000 in
theorem laws_alive.calls (k : Nat)  (r : Bool) (w : World) (h : laws_alive.f k  = some r) :
  Calls Try.prog 18 #[] w fun e w' => e = .returned (.bool r) ∧ Below w.heap.size w w' := by
 have HB:=zqm (Below.refl w.heap.size w);have H:((impl_OrderOk.f k (([(([1]:List Int))]:List (List Int)))).bind fun a5=>(if a5=true then((impl_OrderOk.f k (([(([0]:List Int))]:List (List Int)))).bind fun a2=>(some (!a2))) else(some false)))=some r:=h;clear h;obtain⟨a3,b7⟩: ∃y_:List Int,y_=(([1]:List Int)):=⟨_,rfl⟩;replace H:((impl_OrderOk.f k (([a3]:List (List Int)))).bind fun a5=>(if a5=true then((impl_OrderOk.f k (([(([0]:List Int))]:List (List Int)))).bind fun a2=>(some (!a2))) else(some false)))=some r:=zqy b7 H;have b0:=zqm b7;clear b7;obtain⟨a4,b8⟩: ∃y_:List (List Int),y_=(([a3]:List (List Int))):=⟨_,rfl⟩;replace H:((impl_OrderOk.f k a4).bind fun a5=>(if a5=true then((impl_OrderOk.f k (([(([0]:List Int))]:List (List Int)))).bind fun a2=>(some (!a2))) else(some false)))=some r:=zqy b8 H;have b1:=zqm b8;clear b8;replace H:=Option.bind_eq_some_iff.mp H;obtain⟨a5,d1,H⟩:=H;(try dsimp only at H);have A1:=zqm d1;clear d1
 by_cases c2:a5=true
 ·subst c2;rw [if_pos rfl] at H;obtain⟨a8,b9⟩: ∃y_:List Int,y_=(([0]:List Int)):=⟨_,rfl⟩;replace H:((impl_OrderOk.f k (([a8]:List (List Int)))).bind fun a2=>(some (!a2)))=some r:=zqy b9 H;have c4:=zqm b9;clear b9;obtain⟨d0,c0⟩: ∃y_:List (List Int),y_=(([a8]:List (List Int))):=⟨_,rfl⟩;replace H:((impl_OrderOk.f k d0).bind fun a2=>(some (!a2)))=some r:=zqy c0 H;have c5:=zqm c0;clear c0;replace H:=Option.bind_eq_some_iff.mp H;obtain⟨a2,d2,H⟩:=H;(try dsimp only at H);have A3:=zqm d2;clear d2;obtain rfl:=Option.some.inj H
  go_enter Try.func18,Try.ntmps18
  go_wp2_with (first|((with_reducible refine gate_dst (N:=1) rfl ?_);(try(refine gate_guard (by rfl) ?_;dsimp only));refine Kd.R_lit (Kd.int .i64) _ 3 ?hg (N:=1) ?hd (xs:=([1]:List Int)) (inner:= [.int .i64 1]) (ok:=fun _=>True) (okp:=fun _=>True) ?hr ?hp (fun _ hk=>hk) trivial (Below.refl _ _) (Nat.le_refl _) (by simp) ?_;(case hd=>rfl);(case hg=>rfl);(case hr=> exact zq10);(case hp=> exact zq114);intro e1 w4 c1 hb hg_ hnew_;clear hg_ hnew_;(first|rw [← b0.out] at c1|(simp only [Int.reduceToNat] at c1;rw [← b0.out] at c1));have a1:=zqm (Kd.R_lower c1 (below_size zq0));replace HB:=zqm (below_step zq0 hb);clear hb c1;obtain⟨d3,d4,e3⟩:=Kd.R_slice a1.out;subst e3)|((with_reducible refine gate_dst (N:=2) rfl ?_);(try(refine gate_guard (by rfl) ?_;dsimp only));refine Kd.N_lit (Kd.slice 3 (Kd.int .i64)) _ 24 ?hg (N':=2) ?hd (xs:=([a3]:List (List Int))) (inner:= [.slice d3 a3.length d4]) (ok:=(fun _=>True)) (okp:=(fun _=>True)) ?hr ?hp (fun _ hk=>hk) ((show∀k_,w4.heap.size≤k_→(fun _=>True) k_ from fun k_ hk=>trivial) _ (Nat.le_refl _)) (Below.refl _ _) (Nat.le_refl _) (by simp) ?_;(case hd=>rfl);(case hg=>rfl);(case hr=> exact zq10);(case hp=>exact(Reps.one (show Kd.FK (Kd.slice 3 (Kd.int .i64)) _ _ a3 [.slice d3 a3.length d4] from (Kd.FK_slice_mk (Kd.R_reads' (Kd.R_mono (ok':=(fun _=>True)) (a1.out) (fun k_ hk=>trivial))).2.1 (Kd.R_F (Kd.R_mono (ok':=(fun _=>True)) (a1.out) (fun k_ hk=>trivial))))) (Reps.none _ _)));intro e2 w7 c3 hb hg_ hnew_;clear hg_ hnew_;(first|rw [← b1.out] at c3|(simp only [Int.reduceToNat] at c3;rw [← b1.out] at c3));have a0:=zqm (Kd.N_lower c3 (below_size zq0));replace HB:=zqm (below_step zq0 hb);clear a1;clear hb c3;obtain⟨b4,b5,e4⟩:=Kd.N_slice a0.out;subst e4)|((with_reducible refine gate_callee (f:=81) rfl ?_);refine goesL_ (some 3) rfl rfl Try.func81 zqk rfl #[.slice b4 a4.length b5] rfl zq2 ?_;(with_reducible refine(impl_OrderOk.calls k _ _ a4 true _ ?side1 ?side2 A1.out).mono ?_);(case side1=> exact zq90);(case side2=>exact(Kd.N_reads' a0.out).2.1);rintro e w' ⟨rfl,⟨nd,rfl⟩⟩;refine⟨_,rfl,?_⟩)|((with_reducible refine gate_dst (N:=5) rfl ?_);(try(refine gate_guard (by rfl) ?_;dsimp only));refine Kd.R_lit (Kd.int .i64) _ 3 ?hg (N:=5) ?hd (xs:=([0]:List Int)) (inner:= [.int .i64 0]) (ok:=fun _=>True) (okp:=fun _=>True) ?hr ?hp (fun _ hk=>hk) trivial (Below.refl _ _) (Nat.le_refl _) (by simp) ?_;(case hd=>rfl);(case hg=>rfl);(case hr=> exact zq10);(case hp=>exact(Reps.one (show Kd.M (Kd.int .i64) _ _ _ 0 [.int .i64 0] from rfl) (Reps.none _ _)));intro e9 e5 a6 hb hg_ hnew_;clear hg_ hnew_;(first|rw [← c4.out] at a6|(simp only [Int.reduceToNat] at a6;rw [← c4.out] at a6));replace a0:=zqm (Kd.N_elder' zq100 (Kd.R_base a6) hb);have a9:=zqm (Kd.R_lower a6 (below_size zq0));replace HB:=zqm (below_step zq0 hb);clear hb a6;obtain⟨c6,c8,d7⟩:=Kd.R_slice a9.out;subst d7)|((with_reducible refine gate_dst (N:=6) rfl ?_);(try(refine gate_guard (by rfl) ?_;dsimp only));refine Kd.N_lit (Kd.slice 3 (Kd.int .i64)) _ 24 ?hg (N':=6) ?hd (xs:=([a8]:List (List Int))) (inner:= [.slice c6 a8.length c8]) (ok:=(fun k_=>some k_≠(.slice b4 a4.length b5:Value).ownBlock)) (okp:=(fun k_=>some k_≠(.slice b4 a4.length b5:Value).ownBlock)) ?hr ?hp (fun _ hk=>hk) ((show∀k_,e5.heap.size≤k_→(fun k_=>some k_≠(.slice b4 a4.length b5:Value).ownBlock) k_ from fun k_ hk=>Kd.fresh' (Kd.N_lt zq100) k_ hk) _ (Nat.le_refl _)) (Below.refl _ _) (Nat.le_refl _) (by simp) ?_;(case hd=>rfl);(case hg=>rfl);(case hr=> exact zq10);(case hp=>exact(Reps.one (show Kd.FK (Kd.slice 3 (Kd.int .i64)) _ _ a8 [.slice c6 a8.length c8] from (Kd.FK_slice_mk (Kd.R_reads' (Kd.R_mono (ok':=(fun k_=>some k_≠(.slice b4 a4.length b5:Value).ownBlock)) (Kd.R_apart' (a9.out) (Kd.N_typed a0.out) (by decide)) (fun k_ hk=>hk.2))).2.1 (Kd.R_F (Kd.R_mono (ok':=(fun k_=>some k_≠(.slice b4 a4.length b5:Value).ownBlock)) (Kd.R_apart' (a9.out) (Kd.N_typed a0.out) (by decide)) (fun k_ hk=>hk.2))))) (Reps.none _ _)));intro f0 f1 a7 hb hg_ hnew_;clear hg_ hnew_;(first|rw [← c5.out] at a7|(simp only [Int.reduceToNat] at a7;rw [← c5.out] at a7));replace a0:=zqm (Kd.N_elder' zq100 (Kd.N_base a7) hb);have b6:=zqm (Kd.N_lower a7 (below_size zq0));replace HB:=zqm (below_step zq0 hb);clear a9;clear hb a7;obtain⟨e7,e8,d8⟩:=Kd.N_slice b6.out;subst d8)|(go_at_call 81;(with_reducible refine(impl_OrderOk.calls k _ _ d0 a2 _ ?side1 ?side2 A3.out).mono ?_);(case side1=>repeat(first|exact(Kd.N_reads' b6.out).2.2|(with_reducible refine Kd.C_alloc ?_ _)|(with_reducible refine Kd.C_drewN ?_ _)|(with_reducible refine Kd.C_drew ?_)));(case side2=>exact(Kd.N_reads' b6.out).2.1);rintro e w' ⟨rfl,⟨nd,rfl⟩⟩))
  go_ret
  exact⟨zq8,zq0⟩
 ·replace c2:=Bool.eq_false_iff.mpr c2;subst c2;rw [if_neg (show¬(false=true) by decide)] at H;obtain rfl:=Option.some.inj H
  go_enter Try.func18,Try.ntmps18
  go_wp2_with (first|((with_reducible refine gate_dst (N:=1) rfl ?_);(try(refine gate_guard (by rfl) ?_;dsimp only));refine Kd.R_lit (Kd.int .i64) _ 3 ?hg (N:=1) ?hd (xs:=([1]:List Int)) (inner:= [.int .i64 1]) (ok:=fun _=>True) (okp:=fun _=>True) ?hr ?hp (fun _ hk=>hk) trivial (Below.refl _ _) (Nat.le_refl _) (by simp) ?_;(case hd=>rfl);(case hg=>rfl);(case hr=> exact zq10);(case hp=> exact zq114);intro e1 e6 b2 hb hg_ hnew_;clear hg_ hnew_;(first|rw [← b0.out] at b2|(simp only [Int.reduceToNat] at b2;rw [← b0.out] at b2));have a1:=zqm (Kd.R_lower b2 (below_size zq0));replace HB:=zqm (below_step zq0 hb);clear hb b2;obtain⟨c7,c9,d9⟩:=Kd.R_slice a1.out;subst d9)|((with_reducible refine gate_dst (N:=2) rfl ?_);(try(refine gate_guard (by rfl) ?_;dsimp only));refine Kd.N_lit (Kd.slice 3 (Kd.int .i64)) _ 24 ?hg (N':=2) ?hd (xs:=([a3]:List (List Int))) (inner:= [.slice c7 a3.length c9]) (ok:=(fun _=>True)) (okp:=(fun _=>True)) ?hr ?hp (fun _ hk=>hk) ((show∀k_,e6.heap.size≤k_→(fun _=>True) k_ from fun k_ hk=>trivial) _ (Nat.le_refl _)) (Below.refl _ _) (Nat.le_refl _) (by simp) ?_;(case hd=>rfl);(case hg=>rfl);(case hr=> exact zq10);(case hp=>exact(Reps.one (show Kd.FK (Kd.slice 3 (Kd.int .i64)) _ _ a3 [.slice c7 a3.length c9] from (Kd.FK_slice_mk (Kd.R_reads' (Kd.R_mono (ok':=(fun _=>True)) (a1.out) (fun k_ hk=>trivial))).2.1 (Kd.R_F (Kd.R_mono (ok':=(fun _=>True)) (a1.out) (fun k_ hk=>trivial))))) (Reps.none _ _)));intro e2 f2 b3 hb hg_ hnew_;clear hg_ hnew_;(first|rw [← b1.out] at b3|(simp only [Int.reduceToNat] at b3;rw [← b1.out] at b3));have a0:=zqm (Kd.N_lower b3 (below_size zq0));replace HB:=zqm (below_step zq0 hb);clear a1;clear hb b3;obtain⟨d5,d6,e0⟩:=Kd.N_slice a0.out;subst e0)|((with_reducible refine gate_callee (f:=81) rfl ?_);refine goesL_ (some 3) rfl rfl Try.func81 zqk rfl #[.slice d5 a4.length d6] rfl zq2 ?_;(with_reducible refine(impl_OrderOk.calls k _ _ a4 false _ ?side1 ?side2 A1.out).mono ?_);(case side1=> exact zq90);(case side2=>exact(Kd.N_reads' a0.out).2.1);rintro e w' ⟨rfl,⟨nd,rfl⟩⟩;refine⟨_,rfl,?_⟩))
  go_ret
  exact⟨zq8,zq0⟩
end
end Go.Proofs.Ytcbjpdaogicibaa.Print
end
section
namespace Go.Proofs.Ytcbjpdaogicibaa.Print
open Go.RowKit Go.Proofs.YtcbjpdaogicibaaW.PrintWords Go.Proofs.YtcbjpdaogicibaaW.PrintLast Go.Proofs.YtcbjpdaogicibaaW.PrintMore
open Oml
theorem Ev.down {ρ : Type} {g : Nat → Nat → Option ρ} {R : Nat → ρ} (n : Nat) (hend : Ev (fun k => g k n) (R n)) (hstep : ∀ i, i < n → Ev (fun k => g k (i + 1)) (R (i + 1)) → Ev (fun k => g k i) (R i)) : ∀ i, i ≤ n → Ev (fun k => g k i) (R i) := by
 intro i hi
 obtain⟨d,hd⟩: ∃d,n=i+d:=⟨n - i,by omega⟩
 induction d generalizing i with
 |zero=>
  obtain rfl:n=i:=by omega
  exact hend
 |succ d ih=>exact hstep i (by omega) (ih (i+1) (by omega) (by omega))
theorem Ev.eq {α : Type} {g : Nat → Option α} {r r' : α} (h : Ev g r) (e : r = r') : Ev g r' := e ▸ h
def allFrom (n : Nat) (p : Nat → Bool) (i : Nat) : Bool := (List.range' i (n - i)).all p
def fstFrom (n : Nat) (p : Nat → Bool) (i : Nat) : Option Nat := (List.range' i (n - i)).find? p
theorem allFrom_lt {n : Nat} {p : Nat → Bool} {i : Nat} (h : i < n) : allFrom n p i = (p i && allFrom n p (i + 1)) := by
 unfold allFrom
 obtain⟨d,rfl⟩: ∃d,n=i+(d+1):=⟨n - i - 1,by omega⟩
 rw [show i+(d+1) - i=d+1 by omega,show i+(d+1) - (i+1)=d by omega,List.range'_succ,List.all_cons]
theorem allFrom_ge {n : Nat} {p : Nat → Bool} {i : Nat} (h : n ≤ i) : allFrom n p i = true := by
 unfold allFrom; rw [show n - i = 0 by omega]; rfl
theorem allFrom_zero (n : Nat) (p : Nat → Bool) : allFrom n p 0 = allN n p := by
 unfold allFrom allN; rw [Nat.sub_zero, List.range_eq_range']
theorem fstFrom_lt {n : Nat} {p : Nat → Bool} {i : Nat} (h : i < n) : fstFrom n p i = if p i = true then some i else fstFrom n p (i + 1) := by
 unfold fstFrom
 obtain⟨d,rfl⟩: ∃d,n=i+(d+1):=⟨n - i - 1,by omega⟩
 rw [show i+(d+1) - i=d+1 by omega,show i+(d+1) - (i+1)=d by omega,List.range'_succ,List.find?_cons]
 cases p i <;> simp
theorem fstFrom_ge {n : Nat} {p : Nat → Bool} {i : Nat} (h : n ≤ i) : fstFrom n p i = none := by
 unfold fstFrom; rw [show n - i = 0 by omega]; rfl
theorem fstFrom_zero (n : Nat) (p : Nat → Bool) : fstFrom n p 0 = findN n p := by
 unfold fstFrom findN; rw [Nat.sub_zero, List.range_eq_range']
theorem wrap_nat {i : Nat} (h : i < 4611686018427387904) : wrap64 ((i : Int) + 1) = ((i + 1 : Nat) : Int) := by unfold wrap64; omega
theorem Ev.succ {α : Type} {g : Nat → Option α} {r : α} (h : Ev (fun k => g (k + 1)) r) : Ev g r := Ev.step (fun _ => rfl) h
theorem Ev.ite_pos {α : Type} {c : Prop} [Decidable c] {a b : Nat → Option α} {r : α} (h : c) (k : Ev a r) : Ev (fun n => if c then a n else b n) r := by simpa only [if_pos h] using k
theorem Ev.ite_neg {α : Type} {c : Prop} [Decidable c] {a b : Nat → Option α} {r : α} (h : ¬ c) (k : Ev b r) : Ev (fun n => if c then a n else b n) r := by simpa only [if_neg h] using k
theorem Ev.ip {α : Type} {c : Prop} [Decidable c] {a b : Nat → Option α} {r : α} (k : Ev a r) (h : c := by first | assumption | (focus omega) | (simp <;> fail)) : Ev (fun n => if c then a n else b n) r := Ev.ite_pos h k
theorem Ev.iq {α : Type} {c : Prop} [Decidable c] {a b : Nat → Option α} {r : α} (k : Ev b r) (h : ¬ c := by first | assumption | (focus omega) | (simp <;> fail)) : Ev (fun n => if c then a n else b n) r := Ev.ite_neg h k
theorem Ev.pure {α : Type} {o : Option α} {r : α} (h : o = some r) : Ev (fun _ => o) r := h ▸ Ev.now r
theorem Ev.pbind {α β : Type} {g : Option α} {f : Nat → α → Option β} {a : α} {r : β} (h : g = some a) (k : Ev (fun n => f n a) r) : Ev (fun n => g.bind (f n)) r := Ev.bind (g := fun _ => g) (Ev.pure h) k
theorem Ev.all {ρ : Type} {g : Nat → Int → Option ρ} {n : Nat} (p : Nat → Bool) {go stop : ρ} (hn : n < 4611686018427387904) (hend : (∀ i, i < n → p i = true) → Ev (fun k => g k (n : Int)) go)
 (hstep: ∀i,i<n→(∀j,j<i→p j=true)→ ∀R,(p i=true→Ev (fun k=>g k (wrap64 ((i:Int)+1))) R)→Ev (fun k=>g k (i:Int)) (if p i=true then R else stop)):
 Ev (fun k=>g k 0) (if allN n p=true then go else stop):=by
 have key: ∀d i,i+d=n→(∀j,j<i→p j=true)→Ev (fun k=>g k (i:Int)) (if allFrom n p i=true then go else stop):=by
  intro d
  induction d with
  |zero=>
   intro i hi hj
   obtain rfl:i=n:=by omega
   rw [allFrom_ge (Nat.le_refl _),if_pos rfl]
   exact hend hj
  |succ d ih=>
   intro i hi hj
   rw [allFrom_lt (by omega)]
   refine Ev.eq (hstep i (by omega) hj (if allFrom n p (i+1)=true then go else stop) fun hp=>?_) ?_
   ·rw [wrap_nat (by omega)]
    exact ih (i+1) (by omega) fun j hj'=>by
     rcases Nat.lt_or_ge j i with h|h
     ·exact hj j h
     ·obtain rfl:j=i:=by omega
      exact hp
   ·cases p i <;> simp
 have:=key n 0 (by omega) fun _ h=>absurd h (Nat.not_lt_zero _)
 rw [allFrom_zero] at this
 exact this
theorem Ev.find {ρ : Type} {g : Nat → Int → Option ρ} {n : Nat} (p : Nat → Bool) {none' : ρ} {some' : Nat → ρ} (hn : n < 4611686018427387904) (hend : (∀ i, i < n → p i = false) → Ev (fun k => g k (n : Int)) none')
 (hstep: ∀i,i<n→(∀j,j<i→p j=false)→ ∀R,(p i=false→Ev (fun k=>g k (wrap64 ((i:Int)+1))) R)→Ev (fun k=>g k (i:Int)) (if p i=true then some' i else R)):
 Ev (fun k=>g k 0) (match findN n p with|some i=>some' i|none=>none'):=by
 have key: ∀d i,i+d=n→(∀j,j<i→p j=false)→Ev (fun k=>g k (i:Int)) (match fstFrom n p i with|some i=>some' i|none=>none'):=by
  intro d
  induction d with
  |zero=>
   intro i hi hj
   obtain rfl:i=n:=by omega
   rw [fstFrom_ge (Nat.le_refl _)]
   exact hend hj
  |succ d ih=>
   intro i hi hj
   rw [fstFrom_lt (by omega)]
   refine Ev.eq (hstep i (by omega) hj (match fstFrom n p (i+1) with|some i=>some' i|none=>none') fun hp=>?_) ?_
   ·rw [wrap_nat (by omega)]
    exact ih (i+1) (by omega) fun j hj'=>by
     rcases Nat.lt_or_ge j i with h|h
     ·exact hj j h
     ·obtain rfl:j=i:=by omega
      exact hp
   ·cases p i <;> simp
 have:=key n 0 (by omega) fun _ h=>absurd h (Nat.not_lt_zero _)
 rw [fstFrom_zero] at this
 exact this
theorem Ev.loop {σ ρ : Type} {g : Nat → σ → Int → Option ρ} (n : Nat) (I : Nat → σ → Prop) {R : ρ} (hn : n < 4611686018427387904) (hend : ∀ s, I n s → Ev (fun k => g k s (n : Int)) R)
 (hstep: ∀i s,i<n→I i s→ ∃s',I (i+1) s'∧(Ev (fun k=>g k s' (wrap64 ((i:Int)+1))) R→Ev (fun k=>g k s (i:Int)) R)): ∀s,I 0 s→Ev (fun k=>g k s 0) R:=by
 have key: ∀d i,i+d=n→ ∀s,I i s→Ev (fun k=>g k s (i:Int)) R:=by
  intro d
  induction d with
  |zero=>
   intro i hi s hs
   obtain rfl:i=n:=by omega
   exact hend s hs
  |succ d ih=>
   intro i hi s hs
   obtain⟨s',h1,h2⟩:=hstep i s (by omega) hs
   refine h2 ?_
   rw [wrap_nat (by omega)]
   exact ih (i+1) (by omega) s' h1
 exact fun s hs=>key n 0 (by omega) s hs
theorem Ev.all1 {ρ : Type} {g : Nat → Nat → Option ρ} {R : Nat → ρ} (n : Nat) (h : ∀ a, a < n → Ev (fun k => g k a) (R a)) : ∃ K, ∀ a, a < n → ∀ k, K ≤ k → g k a = some (R a) := by
 induction n with
 |zero=>exact⟨0,fun a ha=>absurd ha (Nat.not_lt_zero _)⟩
 |succ n ih=>
  obtain⟨K,hK⟩:=ih fun a ha=>h a (by omega)
  obtain⟨K',hK'⟩:=h n (by omega)
  refine⟨K+K',fun a ha k hk=>?_⟩
  rcases Nat.lt_or_ge a n with hlt|hge
  ·exact hK a hlt k (by omega)
  ·obtain rfl:a=n:=by omega
   exact hK' k (by omega)
theorem Ev.all2 {ρ : Type} {g : Nat → Nat → Nat → Option ρ} {R : Nat → Nat → ρ} (n : Nat) (h : ∀ a b, a < n → b < n → Ev (fun k => g k a b) (R a b)) : ∃ K, ∀ a b, a < n → b < n → ∀ k, K ≤ k → g k a b = some (R a b) := by
 have h1: ∀a,a<n→ ∃K,∀b,b<n→ ∀k,K≤k→g k a b=some (R a b):=fun a ha=>Ev.all1 n fun b hb=>h a b ha hb
 have h2: ∀m,m≤n→ ∃K,∀a b,a<m→b<n→ ∀k,K≤k→g k a b=some (R a b):=by
  intro m
  induction m with
  |zero=>exact fun _=>⟨0,fun a b ha=>absurd ha (Nat.not_lt_zero _)⟩
  |succ m ih=>
   intro hm
   obtain⟨K,hK⟩:=ih (by omega)
   obtain⟨K',hK'⟩:=h1 m (by omega)
   refine⟨K+K',fun a b ha hb k hk=>?_⟩
   rcases Nat.lt_or_ge a m with hlt|hge
   ·exact hK a b hlt hb k (by omega)
   ·obtain rfl:a=m:=by omega
    exact hK' b hb k (by omega)
 exact h2 n (Nat.le_refl _)
theorem rd_nat (N : List Int) (i : Nat) : rd N (i : Int) = at1 N i := by simp [rd, at1]
theorem rdL_nat (U : List (List Int)) (i : Nat) : rd_L2 U (i : Int) = U.getD i [] := by simp [rd_L2]
theorem rd_row (U : List (List Int)) (i j : Nat) : at1 (U.getD i []) j = at2 U i j := rfl
section
section
variable {U : List (List Int)} (O : Order U)
include O
theorem meet_l1 {a b c : Nat} (ha : a < U.length) (hb : b < U.length) (hc : c < U.length) (R : Int) :
 ∀i,i≤U.length→ ∀fl:Bool,((fl && allFrom U.length (fun d=>!(leB U d a && leB U d b)||leB U d c) i)=false→Ev (fun k=>impl_meet.l0 k U a b U.length ((c+1:Nat):Int)) R)→
  Ev (fun k=>impl_meet.l1 k U a b c fl U.length c U.length i) (if(fl && allFrom U.length (fun d=>!(leB U d a && leB U d b)||leB U d c) i)=true then(c:Int) else R):=by
 have hs:=O.small
 refine fun i hi=>?_
 obtain⟨d,hd⟩: ∃d,U.length=i+d:=⟨U.length - i,by omega⟩
 induction d generalizing i with
 |zero=>
  intro fl hR
  rw [allFrom_ge (by omega),Bool.and_true] at hR ⊢
  cases fl with
  |true=>
   refine Ev.step (f:=fun _=>some (c:Int)) (fun k=>?_) (Ev.now _)
   simp only [impl_meet.l1]
   rw [if_neg (by omega)];rfl
  |false=>
   refine Ev.step (f:=fun k=>impl_meet.l0 k U a b U.length ((c+1:Nat):Int)) (fun k=>?_) (by simpa using hR rfl)
   simp only [impl_meet.l1]
   rw [if_neg (by omega),if_neg (by simp),wrap_nat (by omega)]
 |succ d ih=>
  intro fl hR
  rw [allFrom_lt (by omega)] at hR ⊢
  have hrow:((U.getD i []).length:Int)=U.length:=by rw [O.row i (by omega)]
  have va:=O.val (a:=i) (b:=a) (by omega) ha
  have vb:=O.val (a:=i) (b:=b) (by omega) hb
  have vc:=O.val (a:=i) (b:=c) (by omega) hc
  refine Ev.step (f:=fun k=>impl_meet.l1 k U a b c (fl && (!(leB U i a && leB U i b)||leB U i c)) U.length c U.length ((i+1:Nat):Int)) (fun k=>?_) ?_
  ·simp only [impl_meet.l1,rdL_nat,rd_nat,rd_row,hrow,va,vb,vc,wrap_nat (show i<4611686018427387904 by omega)]
   rw [if_pos (by omega)]
   cases fl
   ·rfl
   ·rw [if_pos rfl,if_pos (by omega),if_pos (by omega),if_pos (by omega),if_pos (by omega)]
    cases leB U i a
    ·rfl
    ·rw [if_neg (by simp),if_pos (by omega),if_pos (by omega)]
     cases leB U i b
     ·rfl
     ·rw [if_neg (by simp),if_pos (by omega),if_pos (by omega)]
      cases leB U i c <;> rfl
  ·refine Ev.eq (ih (i+1) (by omega) (by omega) (fl && (!(leB U i a && leB U i b)||leB U i c)) ?_) ?_
   ·intro h;exact hR (by rw [← Bool.and_assoc];exact h)
   ·rw [Bool.and_assoc]
theorem impl_meet.ev {a b : Nat} (ha : a < U.length) (hb : b < U.length) : Ev (fun k => impl_meet.f k U a b) (mI U a b) := by
 have hs:=O.small
 have key: ∀i,i≤U.length→Ev (fun k=>impl_meet.l0 k U a b U.length (i:Int)) (optI (fstFrom U.length (meetP U a b) i)):=by
  refine Ev.down U.length ?_ fun i hi ih=>?_
  ·rw [fstFrom_ge (Nat.le_refl _)]
   refine Ev.step (f:=fun _=>some (-1)) (fun k=>?_) (Ev.now _)
   simp only [impl_meet.l0]
   rw [if_neg (by omega)]
  ·have hrow:((U.getD i []).length:Int)=U.length:=by rw [O.row i hi]
   have va:=O.val (a:=i) (b:=a) hi ha
   have vb:=O.val (a:=i) (b:=b) hi hb
   rw [fstFrom_lt hi]
   refine Ev.step (f:=fun k=>impl_meet.j1 k U a b i U.length i (!(leB U i a && leB U i b))) (fun k=>?_) ?_
   ·simp only [impl_meet.l0,rdL_nat,rd_nat,rd_row,hrow,va,vb]
    rw [if_pos (by omega),if_pos (by omega),if_pos (by omega),if_pos (by omega),if_pos (by omega)]
    cases leB U i a
    ·rfl
    ·rw [if_neg (by simp),if_pos (by omega),if_pos (by omega)]
     cases leB U i b <;> rfl
   ·cases hab:leB U i a && leB U i b with
    |false=>
     refine Ev.step (f:=fun k=>impl_meet.l0 k U a b U.length ((i+1:Nat):Int)) (fun k=>?_) (Ev.eq ih ?_)
     ·simp only [impl_meet.j1,Bool.not_false,if_true]
      rw [wrap_nat (by omega)]
     ·have:meetP U a b i=false:=by unfold meetP;rw [← Bool.and_assoc,hab];rfl
      rw [this];rfl
    |true=>
     refine Ev.step (f:=fun k=>impl_meet.l1 k U a b i true U.length i U.length ((0:Nat):Int)) (fun k=>?_) (Ev.eq (meet_l1 O ha hb hi _ 0 (by omega) true (fun _=>ih)) ?_)
     ·simp only [impl_meet.j1,Bool.not_true];rfl
     ·have:meetP U a b i=allN U.length (fun d=>!(leB U d a && leB U d b)||leB U d i):=by unfold meetP;rw [← Bool.and_assoc,hab];rfl
      rw [this,Bool.true_and,allFrom_zero]
      split <;> rfl
 have:=key 0 (by omega)
 rw [fstFrom_zero] at this
 exact this
end
end
def rowOk (U : List (List Int)) (i : Nat) : Bool :=
 ((U.getD i []).length==U.length) && (leB U i i && allN U.length fun j=>(at2 U i j==0||at2 U i j==1) && ((U.getD j []).length==U.length && !(leB U i j && (!(i==j) && leB U j i))))
def transOk (U : List (List Int)) : Bool := allN U.length fun a => allN U.length fun b => allN U.length fun c => !(leB U a b && leB U b c) || leB U a c
theorem orderB_eq (U : List (List Int)) : orderB U = (decide (1 ≤ U.length) && (decide (U.length ≤ 12) && (allN U.length (rowOk U) && transOk U))) := by
 rw [Bool.eq_iff_iff,orderB_iff]
 unfold rowOk transOk
 simp only [Bool.and_eq_true,decide_eq_true_eq,allN_iff,Bool.or_eq_true,beq_iff_eq,Bool.not_eq_true',Bool.and_eq_false_iff]
 constructor
 ·intro O
  refine⟨O.pos,O.small,fun i hi=>⟨O.row i hi,O.refl i hi,fun j hj=>⟨O.bit i j hi hj,O.row j hj,?_⟩⟩,fun a ha b hb c hc=>?_⟩
  ·by_cases e:i=j
   ·right;left;simp [e]
   ·cases k1:leB U i j <;> cases k2:leB U j i <;> simp
    exact O.anti i j hi hj k1 k2
  ·cases k1:leB U a b <;> cases k2:leB U b c <;> simp
   exact O.trans a b c ha hb hc k1 k2
 ·rintro ⟨h1,h2,h3,h4⟩
  refine⟨h1,h2,fun a ha=>(h3 a ha).1,fun a b ha hb=>((h3 a ha).2.2 b hb).1,fun a ha=>(h3 a ha).2.1,fun a b ha hb k1 k2=>?_,fun a b c ha hb hc k1 k2=>?_⟩
  ·rcases ((h3 a ha).2.2 b hb).2.2 with e|e|e
   ·rw [k1] at e;exact absurd e (by simp)
   ·simpa using e
   ·rw [k2] at e;exact absurd e (by simp)
  ·rcases h4 a ha b hb c hc with (e|e)|e
   ·rw [k1] at e;exact absurd e (by simp)
   ·rw [k2] at e;exact absurd e (by simp)
   ·exact e
theorem impl_OrderOk.ev (U : List (List Int)) : Ev (fun k => impl_OrderOk.f k U) (orderB U) := by
 rw [orderB_eq]
 by_cases h1:1≤U.length
 ·by_cases h2:U.length≤12
  ·simp only [h1,h2,decide_true,Bool.true_and]
   unfold impl_OrderOk.f
   repeat(with_reducible first|refine Ev.ip ?_|refine Ev.iq ?_)
   rw [show decide ((U.length:Int)>12)=false from decide_eq_false (by omega)]
   refine Ev.succ ?_
   simp only [impl_OrderOk.j0]
   repeat(with_reducible first|refine Ev.ip ?_|refine Ev.iq ?_)
   refine Ev.eq (Ev.all (n:=U.length) (g:=fun k i=>impl_OrderOk.l0 k U U.length U U.length i) (rowOk U) (go:=transOk U) (stop:=false) (by omega) (fun hr=>?_) fun i hi hj R hR=>?_) (by cases allN U.length (rowOk U) <;> rfl)
   ·refine Ev.succ ?_
    simp only [impl_OrderOk.l0]
    repeat(with_reducible first|refine Ev.ip ?_|refine Ev.iq ?_)
    refine Ev.eq (Ev.all (n:=U.length) (g:=fun k i=>impl_OrderOk.l2 k U U.length U.length i) (fun a=>allN U.length fun b=>allN U.length fun c=>!(leB U a b && leB U b c)||leB U a c) (go:=true) (stop:=false) (by omega) (fun _=>?_) fun a ha _ R hR=>?_) (by unfold transOk;cases allN U.length _ <;> rfl)
    ·refine Ev.succ ?_
     simp only [impl_OrderOk.l2]
     repeat(with_reducible first|refine Ev.ip ?_|refine Ev.iq ?_)
     exact Ev.now _
    ·refine Ev.succ ?_
     simp only [impl_OrderOk.l2]
     repeat(with_reducible first|refine Ev.ip ?_|refine Ev.iq ?_)
     refine Ev.all (n:=U.length) (g:=fun k i=>impl_OrderOk.l3 k U U.length a U.length a U.length i) _ (by omega) (fun h=>?_) fun b hb _ R2 hR2=>?_
     ·refine Ev.succ ?_
      simp only [impl_OrderOk.l3]
      repeat(with_reducible first|refine Ev.ip ?_|refine Ev.iq ?_)
      exact hR (allN_iff.2 h)
     ·refine Ev.succ ?_
      simp only [impl_OrderOk.l3]
      repeat(with_reducible first|refine Ev.ip ?_|refine Ev.iq ?_)
      refine Ev.all (n:=U.length) (g:=fun k i=>impl_OrderOk.l4 k U U.length a b U.length a U.length b U.length i) _ (by omega) (fun h=>?_) fun c hc _ R3 hR3=>?_
      ·refine Ev.succ ?_
       simp only [impl_OrderOk.l4]
       repeat(with_reducible first|refine Ev.ip ?_|refine Ev.iq ?_)
       exact hR2 (allN_iff.2 h)
      ·refine Ev.succ ?_
       have ra:((U.getD a []).length:Int)=U.length:=by have:=hr a ha;unfold rowOk at this;simp only [Bool.and_eq_true,beq_iff_eq] at this;omega
       have rb:((U.getD b []).length:Int)=U.length:=by have:=hr b hb;unfold rowOk at this;simp only [Bool.and_eq_true,beq_iff_eq] at this;omega
       simp only [impl_OrderOk.l4,rdL_nat,rd_nat,rd_row,ra,rb]
       repeat(with_reducible first|refine Ev.ip ?_|refine Ev.iq ?_)
       by_cases e1:at2 U a b=1
       ·have f1:leB U a b=true:=by simp [leB,e1]
        by_cases e2:at2 U b c=1
        ·have f2:leB U b c=true:=by simp [leB,e2]
         by_cases e3:at2 U a c=1
         ·have f3:leB U a c=true:=by simp [leB,e3]
          repeat(with_reducible first|refine Ev.ip ?_|refine Ev.iq ?_)
          refine Ev.eq (hR3 (by simp [f3])) (by simp [f3])
         ·have f3:leB U a c=false:=by simp [leB,e3]
          repeat(with_reducible first|refine Ev.ip ?_|refine Ev.iq ?_)
          refine Ev.eq (Ev.now _) (by simp [f1,f2,f3])
        ·have f2:leB U b c=false:=by simp [leB,e2]
         repeat(with_reducible first|refine Ev.ip ?_|refine Ev.iq ?_)
         refine Ev.eq (hR3 (by simp [f2])) (by simp [f2])
       ·have f1:leB U a b=false:=by simp [leB,e1]
        repeat(with_reducible first|refine Ev.ip ?_|refine Ev.iq ?_)
        refine Ev.eq (hR3 (by simp [f1])) (by simp [f1])
   ·refine Ev.succ ?_
    simp only [impl_OrderOk.l0,rdL_nat,rd_nat,rd_row]
    repeat(with_reducible first|refine Ev.ip ?_|refine Ev.iq ?_)
    by_cases e1:(U.getD i []).length=U.length
    ·repeat(with_reducible first|refine Ev.ip ?_|refine Ev.iq ?_)
     by_cases e2:at2 U i i=1
     ·have f2:leB U i i=true:=by simp [leB,e2]
      rw [show (at2 U i i !=1)=false by simp [e2]]
      refine Ev.succ ?_
      simp only [impl_OrderOk.j2,rdL_nat,rd_nat,rd_row]
      repeat(with_reducible first|refine Ev.ip ?_|refine Ev.iq ?_)
      rw [e1]
      refine Ev.eq (Ev.all (n:=U.length) (g:=fun k j=>impl_OrderOk.l1 k U U.length i U U.length i (U.getD i []) U.length j) (fun j=>(at2 U i j==0||at2 U i j==1) && ((U.getD j []).length==U.length && !(leB U i j && (!(i==j) && leB U j i)))) (go:=R) (stop:=false) (by omega) (fun h=>?_) fun j hj _ R2 hR2=>?_) (by unfold rowOk;simp [-List.getD_eq_getElem?_getD,e1,f2])
      ·refine Ev.succ ?_
       simp only [impl_OrderOk.l1]
       repeat(with_reducible first|refine Ev.ip ?_|refine Ev.iq ?_)
       exact hR (by unfold rowOk;simp only [e1,f2,BEq.rfl,Bool.true_and];exact allN_iff.2 h)
      ·refine Ev.succ ?_
       simp only [impl_OrderOk.l1,rd_nat,rd_row]
       repeat(with_reducible first|refine Ev.ip ?_|refine Ev.iq ?_)
       have j4: ∀R3:Bool,(((U.getD j []).length=U.length→(leB U i j=true→i≠j→leB U j i=false)→Ev (fun k=>impl_OrderOk.l1 k U U.length i U U.length i (U.getD i []) U.length (wrap64 ((j:Int)+1))) R3))→
        Ev (fun k=>impl_OrderOk.j4 k U U.length i j (at2 U i j) U U.length i (U.getD i []) U.length j false) (if((U.getD j []).length==U.length && !(leB U i j && (!(i==j) && leB U j i)))=true then R3 else false):=by
        intro R3 hR3
        refine Ev.succ ?_
        simp only [impl_OrderOk.j4,rdL_nat,rd_nat,rd_row]
        repeat(with_reducible first|refine Ev.ip ?_|refine Ev.iq ?_)
        by_cases l1:(U.getD j []).length=U.length
        ·repeat(with_reducible first|refine Ev.ip ?_|refine Ev.iq ?_)
         rw [l1]
         by_cases x1:at2 U i j=1
         ·have y1:leB U i j=true:=by simp [leB,x1]
          repeat(with_reducible first|refine Ev.ip ?_|refine Ev.iq ?_)
          by_cases x2:i=j
          ·repeat(with_reducible first|refine Ev.ip ?_|refine Ev.iq ?_)
           exact Ev.eq (hR3 l1 (fun _ h=>absurd x2 h)) (by simp [x2])
          ·repeat(with_reducible first|refine Ev.ip ?_|refine Ev.iq ?_)
           by_cases x3:at2 U j i=1
           ·have y3:leB U j i=true:=by simp [leB,x3]
            repeat(with_reducible first|refine Ev.ip ?_|refine Ev.iq ?_)
            exact Ev.eq (Ev.now _) (by simp [x2,y1,y3])
           ·have y3:leB U j i=false:=by simp [leB,x3]
            repeat(with_reducible first|refine Ev.ip ?_|refine Ev.iq ?_)
            exact Ev.eq (hR3 l1 (fun _ _=>y3)) (by simp [y3])
         ·have y1:leB U i j=false:=by simp [leB,x1]
          repeat(with_reducible first|refine Ev.ip ?_|refine Ev.iq ?_)
          exact Ev.eq (hR3 l1 (fun h=>by rw [y1] at h;exact absurd h (by simp))) (by simp [y1])
        ·repeat(with_reducible first|refine Ev.ip ?_|refine Ev.iq ?_)
         exact Ev.eq (Ev.now _) (by simp [-List.getD_eq_getElem?_getD,l1])
       have hgo:at2 U i j=0∨at2 U i j=1→Ev (fun k=>impl_OrderOk.j4 k U U.length i j (at2 U i j) U U.length i (U.getD i []) U.length j false) (if((at2 U i j==0||at2 U i j==1) && ((U.getD j []).length==U.length && !(leB U i j && (!(i==j) && leB U j i))))=true then R2 else false):=by
        intro hb
        have hb1:(at2 U i j==0||at2 U i j==1)=true:=by rcases hb with h|h <;> simp [h]
        rw [hb1,Bool.true_and]
        refine j4 R2 fun l1 h=>hR2 ?_
        rw [hb1,Bool.true_and]
        simp only [l1,BEq.rfl,Bool.true_and,Bool.not_eq_true']
        cases y1:leB U i j
        ·rfl
        ·by_cases x2:i=j
         ·simp [x2]
         ·simp [h y1 x2]
       by_cases x0:at2 U i j=0
       ·repeat(with_reducible first|refine Ev.ip ?_|refine Ev.iq ?_)
        exact hgo (.inl x0)
       ·repeat(with_reducible first|refine Ev.ip ?_|refine Ev.iq ?_)
        by_cases x1:at2 U i j=1
        ·rw [show (at2 U i j !=1)=false by simp [x1]]
         exact hgo (.inr x1)
        ·rw [show (at2 U i j !=1)=true by simp [x1]]
         refine Ev.succ ?_
         simp only [impl_OrderOk.j4]
         repeat(with_reducible first|refine Ev.ip ?_|refine Ev.iq ?_)
         exact Ev.eq (Ev.now _) (by simp [x0,x1])
     ·have f2:leB U i i=false:=by simp [leB,e2]
      rw [show (at2 U i i !=1)=true by simp [e2]]
      refine Ev.succ ?_
      simp only [impl_OrderOk.j2]
      repeat(with_reducible first|refine Ev.ip ?_|refine Ev.iq ?_)
      exact Ev.eq (Ev.now _) (by unfold rowOk;simp [f2])
    ·repeat(with_reducible first|refine Ev.ip ?_|refine Ev.iq ?_)
     refine Ev.succ ?_
     simp only [impl_OrderOk.j2]
     repeat(with_reducible first|refine Ev.ip ?_|refine Ev.iq ?_)
     exact Ev.eq (Ev.now _) (by unfold rowOk;simp [-List.getD_eq_getElem?_getD,e1])
  ·simp only [h1,h2,decide_true,decide_false,Bool.true_and,Bool.false_and]
   unfold impl_OrderOk.f
   repeat(with_reducible first|refine Ev.ip ?_|refine Ev.iq ?_)
   rw [show decide ((U.length:Int)>12)=true from decide_eq_true (by omega)]
   refine Ev.succ ?_
   simp only [impl_OrderOk.j0]
   repeat(with_reducible first|refine Ev.ip ?_|refine Ev.iq ?_)
   exact Ev.now _
 ·simp only [h1,decide_false,Bool.false_and]
  unfold impl_OrderOk.f
  repeat(with_reducible first|refine Ev.ip ?_|refine Ev.iq ?_)
  refine Ev.succ ?_
  simp only [impl_OrderOk.j0]
  repeat(with_reducible first|refine Ev.ip ?_|refine Ev.iq ?_)
  exact Ev.now _
theorem turnL_len (U : List (List Int)) : (turnL U).length = U.length := by simp [turnL]
theorem turnL_at (U : List (List Int)) {a b : Nat} (ha : a < U.length) (hb : b < U.length) : at2 (turnL U) a b = at2 U b a := by simp [at2, turnL, ha, hb]
theorem turnL_le (U : List (List Int)) {a b : Nat} (ha : a < U.length) (hb : b < U.length) : leB (turnL U) a b = leB U b a := by unfold leB; rw [turnL_at U ha hb]
theorem _root_.Oml.Order.turn {U : List (List Int)} (O : Order U) : Order (turnL U) where
 pos:=by rw [turnL_len];exact O.pos
 small:=by rw [turnL_len];exact O.small
 row a ha:=by rw [turnL_len] at*;simp [turnL,ha]
 bit a b ha hb:=by rw [turnL_len] at*;rw [turnL_at U ha hb];exact O.bit b a hb ha
 refl a ha:=by rw [turnL_len] at*;rw [turnL_le U ha ha];exact O.refl a ha
 anti a b ha hb h k:=by rw [turnL_len] at*;rw [turnL_le U ha hb] at h;rw [turnL_le U hb ha] at k;exact O.anti a b ha hb k h
 trans a b c ha hb hc h k:=by rw [turnL_len] at*;rw [turnL_le U ha hb] at h;rw [turnL_le U hb hc] at k;rw [turnL_le U ha hc];exact O.trans c b a hc hb ha k h
theorem allN_congr {n : Nat} {p q : Nat → Bool} (h : ∀ i, i < n → p i = q i) : allN n p = allN n q := by
 rw [Bool.eq_iff_iff,allN_iff,allN_iff]
 exact⟨fun k i hi=>h i hi ▸ k i hi,fun k i hi=>(h i hi).symm ▸ k i hi⟩
theorem findN_congr {n : Nat} {p q : Nat → Bool} (h : ∀ i, i < n → p i = q i) : findN n p = findN n q := by
 cases e:findN n p with
 |some i=>exact(findN_of (findN_some e).1 (by rw [← h i (findN_some e).1];exact(findN_some e).2) fun j hj=>by rw [← h j (by have:=(findN_some e).1;omega)];exact findN_first e j hj).symm
 |none=>exact(findN_none.2 fun i hi=>by rw [← h i hi];exact findN_none.1 e i hi).symm
theorem meet_turn (U : List (List Int)) {a b : Nat} (ha : a < U.length) (hb : b < U.length) : mI (turnL U) a b = jI U a b := by
 unfold mI jI meetO joinO
 rw [turnL_len]
 congr 1
 refine findN_congr fun c hc=>?_
 unfold meetP joinP
 rw [turnL_le U hc ha,turnL_le U hc hb,turnL_len]
 congr 2
 refine allN_congr fun d hd=>?_
 rw [turnL_le U hd ha,turnL_le U hd hb,turnL_le U hd hc]
theorem impl_meet.ev_turn {U : List (List Int)} (O : Order U) {a b : Nat} (ha : a < U.length) (hb : b < U.length) : Ev (fun k => impl_meet.f k (turnL U) a b) (jI U a b) := by
 rw [← meet_turn U ha hb]
 exact impl_meet.ev O.turn (by rw [turnL_len];exact ha) (by rw [turnL_len];exact hb)
theorem getD_set {α : Type} (l : List α) (i j : Nat) (x d : α) (hi : i < l.length) : (l.set i x).getD j d = if j = i then x else l.getD j d := by
 by_cases e:j=i
 ·subst e;simp [hi]
 ·simp [List.getElem?_set,e,show¬(i=j) by omega]
theorem impl_turned.ev {U : List (List Int)} (O : Order U) : Ev (fun k => impl_turned.f k U) (turnL U) := by
 have hs:=O.small
 unfold impl_turned.f
 repeat(with_reducible first|refine Ev.ip ?_|refine Ev.iq ?_)
 rw [Int.toNat_natCast]
 repeat(with_reducible first|refine Ev.ip ?_|refine Ev.iq ?_)
 refine Ev.loop (g:=fun k s i=>impl_turned.l0 k U s U.length i) U.length (fun i s=>s.length=U.length∧ ∀a,a<i→s.getD a []=(List.range U.length).map fun b=>at2 U b a) (by omega) (fun s h=>?_) (fun i s hi h=>?_) _ ⟨by simp,fun a h=>absurd h (Nat.not_lt_zero _)⟩
 ·refine Ev.succ ?_
  simp only [impl_turned.l0]
  repeat(with_reducible first|refine Ev.ip ?_|refine Ev.iq ?_)
  refine Ev.eq (Ev.now s) (List.ext_getElem (by rw [h.1,turnL_len]) fun a h1 h2=>?_)
  have:=h.2 a (by omega)
  simpa [turnL,h1] using this
 ·obtain⟨h1,h2⟩:=h
  refine⟨s.set i ((List.range U.length).map fun b=>at2 U b i),⟨by simp [h1],fun a ha=>?_⟩,fun K=>Ev.succ ?_⟩
  ·rw [getD_set _ _ _ _ _ (by omega)]
   by_cases e:a=i
   ·rw [if_pos e,e]
   ·rw [if_neg e];exact h2 a (by omega)
  ·simp only [impl_turned.l0,Int.toNat_natCast]
   repeat(with_reducible first|refine Ev.ip ?_|refine Ev.iq ?_)
   refine Ev.loop (g:=fun k s j=>impl_turned.l1 k U s i U.length i U.length j) U.length (fun j t=>t.length=U.length∧(t.getD i []).length=U.length∧t.set i []=s.set i []∧ ∀b,b<j→at1 (t.getD i []) b=at2 U b i) (by omega) (fun t h=>?_) (fun j t hj h=>?_) _ ⟨by simp [h1],by rw [getD_set _ _ _ _ _ (by omega)];simp,by simp,fun b h=>absurd h (Nat.not_lt_zero _)⟩
   ·refine Ev.succ ?_
    simp only [impl_turned.l1]
    repeat(with_reducible first|refine Ev.ip ?_|refine Ev.iq ?_)
    have e:t=s.set i ((List.range U.length).map fun b=>at2 U b i):=by
     obtain⟨t1,t2,t3,t4⟩:=h
     have er:t.getD i []=(List.range U.length).map fun b=>at2 U b i:=by
      refine List.ext_getElem (by rw [t2];simp) fun b k1 k2=>?_
      have:=t4 b (by omega)
      simp only [at1] at this
      rw [List.getD_eq_getElem?_getD,List.getElem?_eq_getElem k1] at this
      simpa using this
     refine List.ext_getElem (by simp [t1,h1]) fun a k1 k2=>?_
     by_cases ea:a=i
     ·subst ea
      have:t.getD a []=t[a]:=by simp [k1]
      rw [← this,er];simp
     ·have:=congrArg (fun l=>l.getD a []) t3
      rw [getD_set _ _ _ _ _ (by omega),getD_set _ _ _ _ _ (by omega),if_neg ea,if_neg ea] at this
      have k3:a<s.length:=by omega
      simpa [k1,k3,List.getElem_set,show¬(i=a) by omega] using this
    rw [e]
    exact K
   ·obtain⟨t1,t2,t3,t4⟩:=h
    have hrow:=O.row j hj
    refine⟨t.set i ((t.getD i []).set j (at2 U j i)),⟨by simp [t1],?_,?_,fun b hb=>?_⟩,fun K=>Ev.succ ?_⟩
    ·rw [getD_set _ _ _ _ _ (by omega),if_pos rfl];simpa using t2
    ·rw [← t3];simp
    ·rw [getD_set _ _ _ _ _ (by omega),if_pos rfl]
     unfold at1
     rw [getD_set _ _ _ _ _ (by omega)]
     by_cases eb:b=j
     ·rw [if_pos eb,eb]
     ·rw [if_neg eb];exact t4 b (by omega)
    ·simp only [impl_turned.l1,rdL_nat,rd_nat,rd_row,hrow,t1,t2,Int.toNat_natCast]
     repeat(with_reducible first|refine Ev.ip ?_|refine Ev.iq ?_)
     exact K
theorem optI_neg (o : Option Nat) : (optI o < 0) ↔ o.isSome = false := by cases o <;> simp [optI] <;> omega
theorem impl_LatticeOk.ev (U : List (List Int)) : Ev (fun k => impl_LatticeOk.f k U) (latticeB U) := by
 unfold impl_LatticeOk.f latticeB
 refine Ev.bind (impl_OrderOk.ev U) ?_
 cases ho:orderB U with
 |false=>
  repeat(with_reducible first|refine Ev.ip ?_|refine Ev.iq ?_)
  exact Ev.now _
 |true=>
  have O:=orderB_iff.1 ho
  have hs:=O.small
  repeat(with_reducible first|refine Ev.ip ?_|refine Ev.iq ?_)
  refine Ev.bind (impl_turned.ev O) ?_
  refine Ev.eq (Ev.all (n:=U.length) (g:=fun k i=>impl_LatticeOk.l0 k U (turnL U) U.length i) (fun a=>allN U.length fun b=>(meetO U a b).isSome && (joinO U a b).isSome) (go:=true) (stop:=false) (by omega) (fun _=>?_) fun a ha _ R hR=>?_) (by rw [Bool.true_and];cases allN U.length _ <;> rfl)
  ·refine Ev.succ ?_
   simp only [impl_LatticeOk.l0]
   repeat(with_reducible first|refine Ev.ip ?_|refine Ev.iq ?_)
   exact Ev.now _
  ·refine Ev.succ ?_
   simp only [impl_LatticeOk.l0]
   repeat(with_reducible first|refine Ev.ip ?_|refine Ev.iq ?_)
   refine Ev.all (n:=U.length) (g:=fun k i=>impl_LatticeOk.l1 k U (turnL U) a U.length a U.length i) _ (by omega) (fun h=>?_) fun b hb _ R2 hR2=>?_
   ·refine Ev.succ ?_
    simp only [impl_LatticeOk.l1]
    repeat(with_reducible first|refine Ev.ip ?_|refine Ev.iq ?_)
    exact hR (allN_iff.2 h)
   ·refine Ev.succ ?_
    simp only [impl_LatticeOk.l1]
    repeat(with_reducible first|refine Ev.ip ?_|refine Ev.iq ?_)
    refine Ev.bind (impl_meet.ev O ha hb) ?_
    unfold mI
    cases em:meetO U a b with
    |none=>
     refine Ev.ite_pos (by simp [optI]) ?_
     exact Ev.eq (Ev.now _) (by simp)
    |some m=>
     refine Ev.ite_neg (by have:=optI_neg (some 0);simp [optI]) ?_
     refine Ev.bind (impl_meet.ev_turn O ha hb) ?_
     unfold jI
     cases ej:joinO U a b with
     |none=>
      refine Ev.ite_pos (by simp [optI]) ?_
      exact Ev.eq (Ev.now _) (by simp)
     |some j=>
      refine Ev.ite_neg (by have:=optI_neg (some 0);simp [optI]) ?_
      exact Ev.eq (hR2 (by simp [em,ej])) (by simp)
theorem impl_LeastOf.ev (U : List (List Int)) : Ev (fun k => impl_LeastOf.f k U) (if orderB U = true then (optI (leastO U), (leastO U).isSome) else (-1, false)) := by
 unfold impl_LeastOf.f
 refine Ev.bind (impl_OrderOk.ev U) ?_
 cases ho:orderB U with
 |false=>
  repeat(with_reducible first|refine Ev.ip ?_|refine Ev.iq ?_)
  exact Ev.now _
 |true=>
  have O:=orderB_iff.1 ho
  have hs:=O.small
  repeat(with_reducible first|refine Ev.ip ?_|refine Ev.iq ?_)
  refine Ev.eq (Ev.find (n:=U.length) (g:=fun k i=>impl_LeastOf.l0 k U U.length i) (fun a=>allN U.length fun b=>leB U a b) (none':=(-1,false)) (some':=fun i=>((i:Int),true)) (by omega) (fun _=>?_) fun a ha _ R hR=>?_) (by unfold leastO;cases findN U.length _ <;> rfl)
  ·refine Ev.succ ?_
   simp only [impl_LeastOf.l0]
   repeat(with_reducible first|refine Ev.ip ?_|refine Ev.iq ?_)
   exact Ev.now _
  ·refine Ev.succ ?_
   simp only [impl_LeastOf.l0,rdL_nat,O.row a ha]
   repeat(with_reducible first|refine Ev.ip ?_|refine Ev.iq ?_)
   have key: ∀d i,i+d=U.length→ ∀fl:Bool,(fl && allFrom U.length (fun b=>leB U a b) i)=allN U.length (fun b=>leB U a b)→Ev (fun k=>impl_LeastOf.l1 k a fl U U.length a (U.getD a []) U.length i) (if allN U.length (fun b=>leB U a b)=true then((a:Int),true) else R):=by
    intro d
    induction d with
    |zero=>
     intro i hi fl hfl
     refine Ev.succ ?_
     simp only [impl_LeastOf.l1]
     rw [allFrom_ge (by omega),Bool.and_true] at hfl
     rw [hfl]
     repeat(with_reducible first|refine Ev.ip ?_|refine Ev.iq ?_)
     cases ha':allN U.length (fun b=>leB U a b) with
     |true=>
      repeat(with_reducible first|refine Ev.ip ?_|refine Ev.iq ?_)
      exact Ev.now _
     |false=>
      repeat(with_reducible first|refine Ev.ip ?_|refine Ev.iq ?_)
      exact hR ha'
    |succ d ih=>
     intro i hi fl hfl
     rw [allFrom_lt (by omega)] at hfl
     refine Ev.succ ?_
     have rl:=O.row a ha
     simp only [impl_LeastOf.l1,rd_nat,rd_row,wrap_nat (show i<4611686018427387904 by omega)]
     repeat(with_reducible first|refine Ev.ip ?_|refine Ev.iq ?_)
     cases fl with
     |true=>
      repeat(with_reducible first|refine Ev.ip ?_|refine Ev.iq ?_)
      exact ih (i+1) (by omega) _ hfl
     |false=>
      repeat(with_reducible first|refine Ev.ip ?_|refine Ev.iq ?_)
      exact ih (i+1) (by omega) _ (by rw [← hfl];simp)
   exact key U.length 0 (by omega) true (by rw [allFrom_zero,Bool.true_and])
theorem told_facts (U : List (List Int)) : ∃ k, ToldFacts k U := by
 cases hl:latticeB U with
 |false=>
  obtain⟨k,hk⟩:=(impl_LatticeOk.ev U).rounds
  exact⟨k,by rw [hk,hl],fun h=>by rw [hl] at h;exact absurd h (by simp),fun h=>by rw [hl] at h;exact absurd h (by simp),fun h=>by rw [hl] at h;exact absurd h (by simp),fun h=>by rw [hl] at h;exact absurd h (by simp)⟩
 |true=>
  have O:=latticeB_order hl
  obtain⟨k1,h1⟩:=impl_LatticeOk.ev U
  obtain⟨k2,h2⟩:=impl_LeastOf.ev U
  have hm: ∃K,∀a b:Nat,a<U.length→b<U.length→ ∀k,K≤k→impl_meet.f k U a b=some (mI U a b):=Ev.all2 U.length fun a b ha hb=>impl_meet.ev O ha hb
  have hj: ∃K,∀a b:Nat,a<U.length→b<U.length→ ∀k,K≤k→impl_meet.f k (turnL U) a b=some (jI U a b):=Ev.all2 U.length fun a b ha hb=>impl_meet.ev_turn O ha hb
  obtain⟨k3,h3⟩:=hm
  obtain⟨k4,h4⟩:=hj
  obtain⟨k5,h5⟩:=impl_turned.ev O
  refine⟨k1+k2+k3+k4+k5,?_,fun _=>h5 _ (by omega),fun _ a b ha hb=>h3 a b ha hb _ (by omega),fun _ a b ha hb=>h4 a b ha hb _ (by omega),fun _=>?_⟩
  ·exact h1 _ (by omega)
  ·have:=h2 (k1+k2+k3+k4+k5) (by omega)
   rw [if_pos (orderB_iff.2 O)] at this
   exact this
def impl_LogicOk.f (l0_0 : List (List Int)) (l0_1 : List Int) : Option (Bool) := some (logicB l0_0 l0_1)
set_option maxHeartbeats 1000000 in
theorem impl_LogicOk.calls (A0_0 : Option Addr) (c0_0 : Nat) (l0_0 : List (List Int)) (A0_1 : Option Addr) (c0_1 : Nat) (l0_1 : List Int) (r : Bool) (w : World) (hr0_0 : Kd.C (Kd.slice 3 (Kd.int .i64)) w A0_0 l0_0.length l0_0) (hc0_0 : l0_0.length ≤ c0_0) (hr0_1 : Kd.C (Kd.int .i64) w A0_1 l0_1.length l0_1) (hc0_1 : l0_1.length ≤ c0_1) (h : impl_LogicOk.f l0_0 l0_1 = some r) :
 Calls Try.prog 33 #[.agg #[.slice A0_0 l0_0.length c0_0,.slice A0_1 l0_1.length c0_1]] w fun e w'=>e= .returned (.bool r)∧Below w.heap.size w w':=by
 obtain⟨k,hF⟩:=told_facts l0_0
 have hu30:=Try.underlying26
 have hu70:=Try.underlying74
 have HF:=zqm hF
 have HR0:=zqm hr0_0
 have HC0:=zqm hc0_0
 have HR1:=zqm hr0_1
 have HC1:=zqm hc0_1
 simp only [impl_LogicOk.f,Option.some.injEq] at h
 clear hr0_0 hc0_0 hr0_1 hc0_1 hF
 cases hL:logicB l0_0 l0_1 with
 |false=>
  rw [hL] at h
  have hr_:false=r:=h
  subst hr_
  have HLB:=zqm hL
  clear h hL
  go_enter Try.func33,Try.ntmps33
  go_wp2_with (first|((with_reducible refine gate_dst (N:=1) rfl ?_);refine box_event ?hg (N:=1) ?hd (cs:= #[.slice A0_0 l0_0.length c0_0,.slice A0_1 l0_1.length c0_1]) (t:=26) ?hr ?_;(case hd=>rfl);(case hg=>rfl);(case hr=>first|(go_simp;done)|(go_simp;rfl));intro gb hg_ w1 hbox hb;have HB:=zqm hb;have hx0:w1.cell? ⟨gb,0,none⟩=some (.slice A0_0 l0_0.length c0_0):=(blk_cell hbox 0).trans rfl;have hx1:w1.cell? ⟨gb,1,none⟩=some (.slice A0_1 l0_1.length c0_1):=(blk_cell hbox 1).trans rfl;have HX:=zqm hbox;clear hbox hb hg_)|(go_at_call 70;(with_reducible refine(told_n k _ _ l0_0 _ _ l0_1 _ ?s1 ?s2 ?s3 ?s4 HF.out HLB.out).mono ?_);(case s1=>exact Kd.C_below HR0.out HB.out);(case s2=>exact HC0.out);(case s3=>exact Kd.C_below HR1.out HB.out);(case s4=>exact HC1.out);rintro e w2 ⟨rfl,hb⟩;have HB2:=zqm (below_step HB.out hb);clear hb hx0 hx1 HX HB))
  go_ret
  exact⟨rfl,HB2.out⟩
 |true=>
  rw [hL] at h
  have hr_:true=r:=h
  subst hr_
  have HLB:=zqm hL
  have HLg:=zqm (logicB_iff.1 hL)
  clear h hL
  go_enter Try.func33,Try.ntmps33
  go_wp2_with (first|((with_reducible refine gate_dst (N:=1) rfl ?_);refine box_event ?hg (N:=1) ?hd (cs:= #[.slice A0_0 l0_0.length c0_0,.slice A0_1 l0_1.length c0_1]) (t:=26) ?hr ?_;(case hd=>rfl);(case hg=>rfl);(case hr=>first|(go_simp;done)|(go_simp;rfl));intro gb hg_ w1 hbox hb;have HB:=zqm hb;have hx0:w1.cell? ⟨gb,0,none⟩=some (.slice A0_0 l0_0.length c0_0):=(blk_cell hbox 0).trans rfl;have hx1:w1.cell? ⟨gb,1,none⟩=some (.slice A0_1 l0_1.length c0_1):=(blk_cell hbox 1).trans rfl;have HX:=zqm hbox;clear hbox hb hg_)|(go_at_call 70;(with_reducible refine(told_y k _ _ l0_0 _ _ l0_1 _ ?s1 ?s2 ?s3 ?s4 HF.out HLB.out).mono ?_);(case s1=>exact Kd.C_below HR0.out HB.out);(case s2=>exact HC0.out);(case s3=>exact Kd.C_below HR1.out HB.out);(case s4=>exact HC1.out);rintro e w2 ⟨g,v,rfl,hv,hge,hb⟩;have HB2:=zqm (below_step HB.out hb);have HV:=zqm hv;clear hv hge hb hx0 hx1 HX HB))
  go_ret
  exact⟨rfl,HB2.out⟩
def nol (x : S26) : Bool := !(logicB x.f0 x.f1)
def nolI (l : List S26) (i : Nat) : Bool := nol (rd_T26 l (i : Int))
def idxL (l : List S26) : Int := optI (findN l.length (nolI l))
def deskB (u : List (List Int)) (n : List Int) (l : List S26) : Bool := logicB u n && (decide (l.length ≤ 8) && allN l.length fun i => logicB (rd_T26 l (i : Int)).f0 (rd_T26 l (i : Int)).f1)
set_option maxHeartbeats 1000000 in
theorem desk_c1 (A0 : Option Addr) (c0 : Nat) (u : List (List Int)) (A1 : Option Addr) (c1 : Nat) (n : List Int) (w : World) (h0 : Kd.C (Kd.slice 3 (Kd.int .i64)) w A0 u.length u) (k0 : u.length ≤ c0) (h1 : Kd.C (Kd.int .i64) w A1 n.length n) (k1 : n.length ≤ c1) :
 Calls Try.prog 123 #[.agg #[.slice A0 u.length c0,.slice A1 n.length c1]] w fun e w'=>e= .returned (.bool (!(logicB u n)))∧Below w.heap.size w w':=by
 have hu30:=Try.underlying26
 have H0:=zqm h0
 have H1:=zqm h1
 have K0:=zqm k0
 have K1:=zqm k1
 obtain⟨b,hb⟩: ∃b,b=logicB u n:=⟨_,rfl⟩
 rw [← hb]
 have HL:=zqm (show impl_LogicOk.f u n=some b by rw [hb];rfl)
 clear h0 h1 k0 k1 hb
 go_enter Try.func123,Try.ntmps123
 go_wp2_with (first|((with_reducible refine gate_dst (N:=1) rfl ?_);refine box_event ?hg (N:=1) ?hd (cs:= #[.slice A0 u.length c0,.slice A1 n.length c1]) (t:=26) ?hr ?_;(case hd=>rfl);(case hg=>rfl);(case hr=>first|(go_simp;done)|(go_simp;rfl));intro gb hg_ w1 hbox hb;have HB:=zqm hb;have hx0:w1.cell? ⟨gb,0,none⟩=some (.slice A0 u.length c0):=(blk_cell hbox 0).trans rfl;have hx1:w1.cell? ⟨gb,1,none⟩=some (.slice A1 n.length c1):=(blk_cell hbox 1).trans rfl;clear hbox hb hg_)|(go_at_call 33;(with_reducible refine(impl_LogicOk.calls _ _ u _ _ n b _ ?s1 ?s2 ?s3 ?s4 HL.out).mono ?_);(case s1=>exact Kd.C_below H0.out HB.out);(case s2=>exact K0.out);(case s3=>exact Kd.C_below H1.out HB.out);(case s4=>exact K1.out);rintro e w2 ⟨rfl,hb⟩;have HB2:=zqm (below_step HB.out hb);clear hb hx0 hx1))
 go_ret
 exact⟨rfl,HB2.out⟩
set_option maxHeartbeats 2000000 in
set_option maxRecDepth 100000 in
theorem idx_calls (A : Option Addr) (c : Nat) (l : List S26) (w : World) (h : Kd.C k26 w A l.length l) (hs : l.length < 1000000) :
 Calls Try.prog 148 #[.slice A l.length c,.func (.func 123) #[] #[]] w fun e w'=>e= .returned (.int .i64 (idxL l))∧Below w.heap.size w w':=by
 have hu30:=Try.underlying26
 have HC:=zqm h
 have HS:=zqm hs
 clear h hs
 go_enter Try.func148,Try.ntmps148
 go_wp2_with fail
 go_loopg [8] (l.length+1) (fun kq v8 W=> ∃i:Nat,v8= .int .i64 i∧Aside0 (i+kq=l.length+1)∧Aside0 (i≤l.length)∧Aside0 (∀j,j<i→nolI l j=false)∧Aside0 (Below w.heap.size w W))
 case atStart=>exact⟨0,rfl,⟨by omega⟩,⟨by omega⟩,⟨fun j hj=>absurd hj (Nat.not_lt_zero _)⟩,⟨by repeat(first|exact Below.refl _ _|apply below_alloc|apply pw_below_drewN|apply below_drew1)⟩⟩
 case round=>
  obtain⟨i,rfl,HK,HK2,HN,HB⟩:=hrel
  cases gk with
  |zero=>exact absurd HK.out (by have:=HK2.out;omega)
  |succ kn=>
  by_cases hlt:i<l.length
  ·have hlt':decide (i<l.length)=true:=decide_eq_true hlt
   have HLT:=zqm hlt
   obtain⟨ad,A0,c0,A1,c1,e,hx0,hx1,k0,h0,k1,h1⟩:=at_T26 HC.out (i:Int) (by omega) (by omega)
   subst e
   rw [Int.toNat_natCast] at hx0 hx1
   have hx0':=(HB.out.cell (World.block_lt_of_cell? w _ hx0)).trans hx0
   have hx1':=(HB.out.cell (World.block_lt_of_cell? w _ hx1)).trans hx1
   have H0:=zqm h0
   have H1:=zqm h1
   have K0:=zqm k0
   have K1:=zqm k1
   obtain⟨b,hb⟩: ∃b,b=nolI l i:=⟨_,rfl⟩
   have HBV:=zqm hb
   have HW:=zqm (show (!(logicB (rd_T26 l (i:Int)).f0 (rd_T26 l (i:Int)).f1))=b by rw [hb];rfl)
   have p1:(i<l.length)=True:=eq_true hlt
   generalize hu:(rd_T26 l (i:Int)).f0=u at*
   generalize hn:(rd_T26 l (i:Int)).f1=n at*
   clear hlt hx0 hx1 h0 h1 k0 k1 hb hu hn
   cases b with
   |true=>
    go_wp2_with (first|(refine goesV_ (some 16) rfl rfl Try.func123 zqk rfl #[.agg #[.slice A0 u.length c0,.slice A1 n.length c1]] rfl rfl zq69 ?_;refine(desk_c1 A0 c0 u A1 c1 n _ ?s1 K0.out ?s2 K1.out).mono ?_;(case s1=>exact Kd.C_below H0.out HB.out);(case s2=>exact Kd.C_below H1.out HB.out);rintro e w1 ⟨he,hj⟩;rw [HW.out] at he;subst he;refine⟨_,rfl,?_⟩;have HB2:=zqm (below_step HB.out hj);clear hj))
    go_ret
    exact⟨by rw [show idxL l=(i:Int) by unfold idxL;rw [findN_of HLT.out HBV.out.symm HN.out];rfl];rfl,HB2.out⟩
   |false=>
    go_wp2_with (first|(refine goesV_ (some 16) rfl rfl Try.func123 zqk rfl #[.agg #[.slice A0 u.length c0,.slice A1 n.length c1]] rfl rfl zq69 ?_;refine(desk_c1 A0 c0 u A1 c1 n _ ?s1 K0.out ?s2 K1.out).mono ?_;(case s1=>exact Kd.C_below H0.out HB.out);(case s2=>exact Kd.C_below H1.out HB.out);rintro e w1 ⟨he,hj⟩;rw [HW.out] at he;subst he;refine⟨_,rfl,?_⟩;have HB2:=zqm (below_step HB.out hj);clear hj))
    go_roundg kn
    case measure=>omega
    case rel=>exact⟨i+1,by first|go_num|(rw [wrap_small (by omega) (by have:=HLT.out;have:=HS.out;omega)];go_num),⟨by have:=HK.out;omega⟩,⟨by have:=HLT.out;omega⟩,⟨fun j hj=>by
     by_cases e:j=i
     ·rw [e];exact HBV.out.symm
     ·exact HN.out j (by omega)⟩,⟨by repeat(first|exact HB2.out|apply below_alloc|apply pw_below_drewN|apply below_drew1)⟩⟩
  ·have hlt':decide (i<l.length)=false:=decide_eq_false hlt
   obtain rfl:i=l.length:=by have:=HK2.out;omega
   clear hlt
   go_wp2_with fail
   go_ret
   exact⟨by rw [show idxL l= -1 by unfold idxL;rw [findN_none.2 HN.out];rfl];rfl,by repeat(first|exact HB.out|apply below_alloc|apply pw_below_drewN|apply below_drew1)⟩
theorem con_calls (A : Option Addr) (c : Nat) (l : List S26) (w : World) (h : Kd.C k26 w A l.length l) (hs : l.length < 1000000) :
 Calls Try.prog 122 #[.slice A l.length c,.func (.func 123) #[] #[]] w fun e w'=>e= .returned (.bool (!(allN l.length fun i=>logicB (rd_T26 l (i:Int)).f0 (rd_T26 l (i:Int)).f1)))∧Below w.heap.size w w':=by
 have HC:=zqm h
 have HS:=zqm hs
 obtain⟨b,hb⟩: ∃b,b=(!(allN l.length fun i=>logicB (rd_T26 l (i:Int)).f0 (rd_T26 l (i:Int)).f1)):=⟨_,rfl⟩
 rw [← hb]
 obtain⟨x,hx⟩: ∃x,x=idxL l:=⟨_,rfl⟩
 have hbx:decide (0≤x)=b:=by
  rw [hb,hx]
  unfold idxL
  cases hf:findN l.length (nolI l) with
  |none=>
   have h2:=findN_none.1 hf
   rw [allN_iff.2 fun i hi=>by have:=h2 i hi;unfold nolI nol at this;simpa using this]
   rfl
  |some i=>
   have h2:=findN_some hf
   have h3:(allN l.length fun i=>logicB (rd_T26 l (i:Int)).f0 (rd_T26 l (i:Int)).f1)=false:=allN_false.2 ⟨i,h2.1,by have:=h2.2;unfold nolI nol at this;simpa using this⟩
   rw [h3]
   exact decide_eq_true (by show (0:Int)≤(i:Int);omega)
 have HX:=zqm hx
 cases b with
 |true=>
  have p1:(0≤x)=True:=eq_true (of_decide_eq_true hbx)
  clear h hs hb hx
  go_enter Try.func122,Try.ntmps122
  go_wp2_with (go_at_call 148;(with_reducible refine(idx_calls A c l _ HC.out HS.out).mono ?_);rintro e w1 ⟨he,hj⟩;rw [← HX.out] at he;subst he;have HB:=zqm hj;clear hj)
  go_ret
  exact⟨rfl,HB.out⟩
 |false=>
  have p1:(0≤x)=False:=eq_false (of_decide_eq_false hbx)
  clear h hs hb hx
  go_enter Try.func122,Try.ntmps122
  go_wp2_with (go_at_call 148;(with_reducible refine(idx_calls A c l _ HC.out HS.out).mono ?_);rintro e w1 ⟨he,hj⟩;rw [← HX.out] at he;subst he;have HB:=zqm hj;clear hj)
  go_ret
  exact⟨rfl,HB.out⟩
def impl_DeskOk.f (l0_0 : List (List Int)) (l0_1 : List Int) (l0_2 : List (S26)) : Option (Bool) := some (deskB l0_0 l0_1 l0_2)
set_option maxHeartbeats 2000000 in
set_option maxRecDepth 100000 in
theorem impl_DeskOk.calls (A0_0 : Option Addr) (c0_0 : Nat) (l0_0 : List (List Int)) (A0_1 : Option Addr) (c0_1 : Nat) (l0_1 : List Int) (A0_2 : Option Addr) (c0_2 : Nat) (l0_2 : List (S26)) (r : Bool) (w : World) (hr0_0 : Kd.C (Kd.slice 3 (Kd.int .i64)) w A0_0 l0_0.length l0_0) (hc0_0 : l0_0.length ≤ c0_0) (hr0_1 : Kd.C (Kd.int .i64) w A0_1 l0_1.length l0_1) (hc0_1 : l0_1.length ≤ c0_1) (hr0_2 : Kd.C k26 w A0_2 l0_2.length l0_2) (hc0_2 : l0_2.length ≤ c0_2) (h : impl_DeskOk.f l0_0 l0_1 l0_2 = some r) :
 Calls Try.prog 60 #[.agg #[.slice A0_0 l0_0.length c0_0,.slice A0_1 l0_1.length c0_1,.slice A0_2 l0_2.length c0_2]] w fun e w'=>e= .returned (.bool r)∧Below w.heap.size w w':=by
 have hu30:=Try.underlying26
 have hu56:=Try.underlying56
 have HR0:=zqm hr0_0
 have HC0:=zqm hc0_0
 have HR1:=zqm hr0_1
 have HC1:=zqm hc0_1
 have HR2:=zqm hr0_2
 have HC2:=zqm hc0_2
 have h':deskB l0_0 l0_1 l0_2=r:=Option.some.inj h
 clear hr0_0 hc0_0 hr0_1 hc0_1 hr0_2 hc0_2 h
 unfold deskB at h'
 cases hL:logicB l0_0 l0_1 with
 |false=>
  rw [hL,Bool.false_and] at h'
  subst h'
  have HL:=zqm (show impl_LogicOk.f l0_0 l0_1=some false by rw [← hL];rfl)
  clear hL
  go_enter Try.func60,Try.ntmps60
  go_wp2_with (first|((with_reducible refine gate_dst (N:=1) rfl ?_);refine box_event ?hg (N:=1) ?hd (cs:= #[.slice A0_0 l0_0.length c0_0,.slice A0_1 l0_1.length c0_1,.slice A0_2 l0_2.length c0_2]) (t:=56) ?hr ?_;(case hd=>rfl);(case hg=>rfl);(case hr=> exact zq10);intro gb hg_ w1 hbox hb;have HB:=zqm hb;have HX:=zqm hbox;have hx0:w1.cell? ⟨gb,0,none⟩=some (.slice A0_0 l0_0.length c0_0):=(blk_cell hbox 0).trans rfl;have hx1:w1.cell? ⟨gb,1,none⟩=some (.slice A0_1 l0_1.length c0_1):=(blk_cell hbox 1).trans rfl;have hx2:w1.cell? ⟨gb,2,none⟩=some (.slice A0_2 l0_2.length c0_2):=(blk_cell hbox 2).trans rfl;clear hbox hb hg_)|(go_at_call 33;(with_reducible refine(impl_LogicOk.calls _ _ l0_0 _ _ l0_1 false _ ?s1 ?s2 ?s3 ?s4 HL.out).mono ?_);(case s1=> exact zq108);(case s2=>exact HC0.out);(case s3=> exact zq133);(case s4=>exact HC1.out);rintro e w2 ⟨rfl,hb⟩;have HB2:=zqm (below_step HB.out hb);have HX2:=zqm (blk_below HX.out hb);have hy2:w2.cell? ⟨gb,2,none⟩=some (.slice A0_2 l0_2.length c0_2):=(blk_cell HX2.out 2).trans rfl;clear hb hx0 hx1 hx2 HB HX))
  go_ret
  exact⟨rfl,HB2.out⟩
 |true=>
  rw [hL,Bool.true_and] at h'
  have HL:=zqm (show impl_LogicOk.f l0_0 l0_1=some true by rw [← hL];rfl)
  clear hL
  by_cases h8:l0_2.length≤8
  ·have p8:decide ((l0_2.length:Int)≤8)=true:=decide_eq_true (by omega)
   have p8':decide (l0_2.length≤8)=true:=decide_eq_true h8
   have p8'':(l0_2.length≤8)=True:=eq_true h8
   rw [p8',Bool.true_and] at h'
   have HS:=zqm h8
   have HV:=zqm (show (!(allN l0_2.length fun i=>logicB (rd_T26 l0_2 (i:Int)).f0 (rd_T26 l0_2 (i:Int)).f1))=!r by rw [h'])
   clear h8 h'
   cases r with
   |true=>
    go_enter Try.func60,Try.ntmps60
    go_wp2_with (first|((with_reducible refine gate_dst (N:=1) rfl ?_);refine box_event ?hg (N:=1) ?hd (cs:= #[.slice A0_0 l0_0.length c0_0,.slice A0_1 l0_1.length c0_1,.slice A0_2 l0_2.length c0_2]) (t:=56) ?hr ?_;(case hd=>rfl);(case hg=>rfl);(case hr=> exact zq10);intro gb hg_ w1 hbox hb;have HB:=zqm hb;have HX:=zqm hbox;have hx0:w1.cell? ⟨gb,0,none⟩=some (.slice A0_0 l0_0.length c0_0):=(blk_cell hbox 0).trans rfl;have hx1:w1.cell? ⟨gb,1,none⟩=some (.slice A0_1 l0_1.length c0_1):=(blk_cell hbox 1).trans rfl;have hx2:w1.cell? ⟨gb,2,none⟩=some (.slice A0_2 l0_2.length c0_2):=(blk_cell hbox 2).trans rfl;clear hbox hb hg_)|(go_at_call 33;(with_reducible refine(impl_LogicOk.calls _ _ l0_0 _ _ l0_1 true _ ?s1 ?s2 ?s3 ?s4 HL.out).mono ?_);(case s1=> exact zq108);(case s2=>exact HC0.out);(case s3=> exact zq133);(case s4=>exact HC1.out);rintro e w2 ⟨rfl,hb⟩;have HB2:=zqm (below_step HB.out hb);have HX2:=zqm (blk_below HX.out hb);have hy2:w2.cell? ⟨gb,2,none⟩=some (.slice A0_2 l0_2.length c0_2):=(blk_cell HX2.out 2).trans rfl;clear hb hx0 hx1 hx2 HB HX)|(go_at_call 122;(with_reducible refine(con_calls A0_2 c0_2 l0_2 _ ?s1 (by have:=HS.out;omega)).mono ?_);(case s1=>exact Kd.C_below HR2.out HB2.out);rintro e w3 ⟨he,hb⟩;rw [HV.out] at he;subst he;have HB3:=zqm (below_step HB2.out hb);clear hb))
    go_ret
    exact⟨rfl,HB3.out⟩
   |false=>
    go_enter Try.func60,Try.ntmps60
    go_wp2_with (first|((with_reducible refine gate_dst (N:=1) rfl ?_);refine box_event ?hg (N:=1) ?hd (cs:= #[.slice A0_0 l0_0.length c0_0,.slice A0_1 l0_1.length c0_1,.slice A0_2 l0_2.length c0_2]) (t:=56) ?hr ?_;(case hd=>rfl);(case hg=>rfl);(case hr=> exact zq10);intro gb hg_ w1 hbox hb;have HB:=zqm hb;have HX:=zqm hbox;have hx0:w1.cell? ⟨gb,0,none⟩=some (.slice A0_0 l0_0.length c0_0):=(blk_cell hbox 0).trans rfl;have hx1:w1.cell? ⟨gb,1,none⟩=some (.slice A0_1 l0_1.length c0_1):=(blk_cell hbox 1).trans rfl;have hx2:w1.cell? ⟨gb,2,none⟩=some (.slice A0_2 l0_2.length c0_2):=(blk_cell hbox 2).trans rfl;clear hbox hb hg_)|(go_at_call 33;(with_reducible refine(impl_LogicOk.calls _ _ l0_0 _ _ l0_1 true _ ?s1 ?s2 ?s3 ?s4 HL.out).mono ?_);(case s1=> exact zq108);(case s2=>exact HC0.out);(case s3=> exact zq133);(case s4=>exact HC1.out);rintro e w2 ⟨rfl,hb⟩;have HB2:=zqm (below_step HB.out hb);have HX2:=zqm (blk_below HX.out hb);have hy2:w2.cell? ⟨gb,2,none⟩=some (.slice A0_2 l0_2.length c0_2):=(blk_cell HX2.out 2).trans rfl;clear hb hx0 hx1 hx2 HB HX)|(go_at_call 122;(with_reducible refine(con_calls A0_2 c0_2 l0_2 _ ?s1 (by have:=HS.out;omega)).mono ?_);(case s1=>exact Kd.C_below HR2.out HB2.out);rintro e w3 ⟨he,hb⟩;rw [HV.out] at he;subst he;have HB3:=zqm (below_step HB2.out hb);clear hb))
    go_ret
    exact⟨rfl,HB3.out⟩
  ·have p8:decide ((l0_2.length:Int)≤8)=false:=decide_eq_false (by omega)
   have p8':decide (l0_2.length≤8)=false:=decide_eq_false h8
   have p8'':(l0_2.length≤8)=False:=eq_false h8
   rw [p8',Bool.false_and] at h'
   subst h'
   clear h8
   go_enter Try.func60,Try.ntmps60
   go_wp2_with (first|((with_reducible refine gate_dst (N:=1) rfl ?_);refine box_event ?hg (N:=1) ?hd (cs:= #[.slice A0_0 l0_0.length c0_0,.slice A0_1 l0_1.length c0_1,.slice A0_2 l0_2.length c0_2]) (t:=56) ?hr ?_;(case hd=>rfl);(case hg=>rfl);(case hr=> exact zq10);intro gb hg_ w1 hbox hb;have HB:=zqm hb;have HX:=zqm hbox;have hx0:w1.cell? ⟨gb,0,none⟩=some (.slice A0_0 l0_0.length c0_0):=(blk_cell hbox 0).trans rfl;have hx1:w1.cell? ⟨gb,1,none⟩=some (.slice A0_1 l0_1.length c0_1):=(blk_cell hbox 1).trans rfl;have hx2:w1.cell? ⟨gb,2,none⟩=some (.slice A0_2 l0_2.length c0_2):=(blk_cell hbox 2).trans rfl;clear hbox hb hg_)|(go_at_call 33;(with_reducible refine(impl_LogicOk.calls _ _ l0_0 _ _ l0_1 true _ ?s1 ?s2 ?s3 ?s4 HL.out).mono ?_);(case s1=> exact zq108);(case s2=>exact HC0.out);(case s3=> exact zq133);(case s4=>exact HC1.out);rintro e w2 ⟨rfl,hb⟩;have HB2:=zqm (below_step HB.out hb);have HX2:=zqm (blk_below HX.out hb);have hy2:w2.cell? ⟨gb,2,none⟩=some (.slice A0_2 l0_2.length c0_2):=(blk_cell HX2.out 2).trans rfl;clear hb hx0 hx1 hx2 HB HX))
   go_ret
   exact⟨rfl,HB2.out⟩
end Go.Proofs.Ytcbjpdaogicibaa.Print
end
section
namespace Go.Proofs.Ytcbjpdaogicibaa.Print
open Go.RowKit Go.Proofs.YtcbjpdaogicibaaW.PrintWords Go.Proofs.YtcbjpdaogicibaaW.PrintLast Go.Proofs.YtcbjpdaogicibaaW.PrintMore
section
attribute [local go_sem] max2_int min2_int max_two min_two max_three min_three max_four min_four
def laws_FnDeskNew.j0 : Nat → Int → Bool → Bool → List (List Int) → List Int → List (S26) → Option (Bool)
 | 0, _, _, _, _, _, _ => none
 | k + 1, x3, x5, x33, x1194000, x1194001, x1194002 => if x33 = true then (some false) else (if x5 = true then ((impl_SetsOf.f x3).bind fun bt1206 => ((impl_DeskOk.f x1194000 x1194001 x1194002).bind fun t1214 => (if t1214 = true then (if bt1206.2.2 = true then ((laws_sameLogic.f k x1194000 x1194001 bt1206.1 bt1206.2.1).bind fun t1215 => (if t1215 = true then (some ((x1194002.length : Int) == 0)) else (some false))) else (some false)) else (some false)))) else ((laws_noDesk.f k x1194000 x1194001 x1194002).bind fun t1216 => (if t1216 = true then ((laws_alive.f k).bind fun t1217 => (some t1217)) else (some false))))
def laws_FnDeskNew.f (k : Nat) (l0 : List Int) : Option (Bool) := if (l0.length : Int) > 1048576 then (some true) else ((spec_DrawDeskNew.f k l0).bind fun t1182 => ((impl_DeskNew.f t1182).bind fun bt1183 => ((spec_DeskNew.f k t1182).bind fun bt1194 => ((laws_sameDesk.f k bt1183.1 bt1183.2.1 bt1183.2.2.1 bt1194.1 bt1194.2.1 bt1194.2.2.1).bind fun t1205 => (if t1205 = true then (laws_FnDeskNew.j0 k t1182 bt1183.2.2.2 (bt1183.2.2.2 != bt1194.2.2.2) bt1183.1 bt1183.2.1 bt1183.2.2.1) else (laws_FnDeskNew.j0 k t1182 bt1183.2.2.2 true bt1183.1 bt1183.2.1 bt1183.2.2.1))))))
theorem laws_FnDeskNew.mono_l : ∀ k, (∀ y0 y1 y2 y3 y4 y5, LeO (laws_FnDeskNew.j0 k y0 y1 y2 y3 y4 y5) (laws_FnDeskNew.j0 (k + 1) y0 y1 y2 y3 y4 y5))
 | 0 => fun _ _ _ _ _ _ r h => by simp [laws_FnDeskNew.j0] at h
 | k + 1 => by
  have ih0 := laws_FnDeskNew.mono_l k
  ·intro y0 y1 y2 y3 y4 y5
   unfold laws_FnDeskNew.j0
   repeat' first
   | (with_reducible exact ih0 _ _ _ _ _ _)
   | (with_reducible exact laws_alive.mono _)
   | (with_reducible exact laws_noDesk.mono _ _ _ _)
   | (with_reducible exact laws_sameDesk.mono _ _ _ _ _ _ _)
   | (with_reducible exact laws_sameLogic.mono _ _ _ _ _)
   | (with_reducible exact spec_DeskNew.mono _ _)
   | (with_reducible exact spec_DrawDeskNew.mono _ _)
   | (with_reducible exact LeO.refl _)
   | (with_reducible exact LeO.none _)
   | (with_reducible refine LeO.ite ?_ ?_)
   | (with_reducible refine LeO.bind ?_ (fun _ => ?_))
   | exact ih0 _ _ _ _ _ _
   | exact laws_alive.mono _
   | exact laws_noDesk.mono _ _ _ _
   | exact laws_sameDesk.mono _ _ _ _ _ _ _
   | exact laws_sameLogic.mono _ _ _ _ _
   | exact spec_DeskNew.mono _ _
   | exact spec_DrawDeskNew.mono _ _
   | exact LeO.none _
   | refine LeO.ite ?_ ?_
   | refine LeO.bind ?_ (fun _ => ?_)
set_option maxHeartbeats 8000000 in
set_option maxRecDepth 100000 in
theorem laws_FnDeskNew.calls (k : Nat) (A0 : Option Addr) (c0 : Nat) (l0 : List Int) (r : Bool) (w : World) (hr0 : Kd.C (Kd.int .u8) w A0 l0.length l0) (hc0 : l0.length ≤ c0) (h : laws_FnDeskNew.f k l0 = some r) :
  Calls Try.prog 13 #[.slice A0 l0.length c0] w fun e w' => e = .returned (.bool r) ∧ Below w.heap.size w w' := by
 have hu56:=Try.underlying56;have hu26:=Try.underlying26;have HR0:=zqm hr0;have HC0:=zqm hc0;clear hr0 hc0;have HB:=zqm (Below.refl w.heap.size w);have H:(if(l0.length:Int)>1048576 then(some true) else((spec_DrawDeskNew.f k l0).bind fun e3=>((impl_DeskNew.f e3).bind fun f0=>((spec_DeskNew.f k e3).bind fun h5=>((laws_sameDesk.f k f0.1 f0.2.1 f0.2.2.1 h5.1 h5.2.1 h5.2.2.1).bind fun i0=>(if i0=true then(laws_FnDeskNew.j0 k e3 f0.2.2.2 (f0.2.2.2 !=h5.2.2.2) f0.1 f0.2.1 f0.2.2.1) else(laws_FnDeskNew.j0 k e3 f0.2.2.2 true f0.1 f0.2.1 f0.2.2.1)))))))=some r:=h;clear h
 by_cases c2:(l0.length:Int)>1048576
 ·rw [if_pos c2] at H;have o6:decide (1048576<(l0.length:Int))=true:=decide_eq_true c2;have o7:decide (1048576<l0.length)=true:=decide_eq_true (by omega);clear c2;obtain rfl:=Option.some.inj H
  go_enter Try.func13,Try.ntmps13
  go_wp2
  go_ret
  exact⟨zq8,zq0⟩
 ·rw [if_neg c2] at H;have o6:decide (1048576<(l0.length:Int))=false:=decide_eq_false c2;have o7:decide (1048576<l0.length)=false:=decide_eq_false (by omega);clear c2;replace H:=Option.bind_eq_some_iff.mp H;obtain⟨e3,p5,H⟩:=H;(try dsimp only at H);have A3:=zqm p5;clear p5;replace H:=Option.bind_eq_some_iff.mp H;obtain⟨⟨a6,a5,b0,h6⟩,p7,H⟩:=H;(try dsimp only at H);have A4:=zqm p7;clear p7;replace H:=Option.bind_eq_some_iff.mp H;obtain⟨⟨a9,a7,b5,k0⟩,p8,H⟩:=H;(try dsimp only at H);have A5:=zqm p8;clear p8;have o5:=zqm H;clear H
  go_enter Try.func13,Try.ntmps13
  go_upto_region 6 with (first|((with_reducible refine gate_callee (f:=62) rfl ?_);refine goesL_ (some 14) rfl rfl Try.func62 zqk rfl #[.slice A0 l0.length c0] rfl zq2 ?_;(with_reducible refine(spec_DrawDeskNew.calls k _ _ l0 e3 _ ?side1 ?side2 A3.out).mono ?_);(case side1=>repeat(first|exact HR0.out|(with_reducible refine Kd.C_alloc ?_ _)|(with_reducible refine Kd.C_drewN ?_ _)|(with_reducible refine Kd.C_drew ?_)));(case side2=>exact HC0.out);rintro e w7 ⟨rfl,hb⟩;refine⟨_,rfl,?_⟩;replace HB:=zqm (below_step zq0 hb);clear hb)|((with_reducible refine gate_callee (f:=63) rfl ?_);refine goesL_ (some 17) rfl rfl Try.func63 zqk rfl #[.int .i64 e3] rfl zq2 ?_;(with_reducible refine(impl_DeskNew.calls e3 a6 a5 b0 h6 _ A4.out).mono ?_);rintro e w8 ⟨a1o,a1p,a1q,rfl,e2,d7,h9,hb⟩;refine⟨_,rfl,?_⟩;have d9:=zqm (Kd.S_lower e2 (below_size zq0));have d8:=zqm (Kd.R_lower d7 (below_size zq0));have e0:=zqm (Kd.R_lower h9 (below_size zq0));replace HB:=zqm (below_step zq0 hb);clear hb e2 d7 h9)|((with_reducible refine gate_dst (N:=4) rfl ?_);(try(refine gate_guard (by rfl) ?_;dsimp only));refine box_event ?hg (N:=4) ?hd (cs:= #[.slice none 0 0,.slice none 0 0,.slice none 0 0]) (t:=56) ?hr ?_;(case hd=>rfl);(case hg=>rfl);(case hr=> exact zq10);intro a3 hg w9 hbox hb;replace d9:=zqm (Kd.S_below (zqfS d9.out) hb);replace d8:=zqm (Kd.R_below (zqfR d8.out) hb);replace e0:=zqm (Kd.R_below (zqfR e0.out) hb);have h1:=zqm (below_step zq0 hb);have a1:=zqm (hbox);have a0a:=zqm ((by rw [hg];exact(below_size zq0):w.heap.size≤a3));have c3:=zqm ((by rw [hg];exact(below_size zq0):w.heap.size≤a3));clear HB;have HB:=h1;clear h1 hb hbox hg;obtain⟨c4,b8,q3⟩:=Kd.S_slice d9.out;subst q3;have k2:w9.cell? ⟨a3,0,none⟩=some (.slice none 0 0):=(blk_cell a1.out 0).trans rfl;have k3:w9.cell? ⟨a3,1,none⟩=some (.slice none 0 0):=(blk_cell a1.out 1).trans rfl;have k4:w9.cell? ⟨a3,2,none⟩=some (.slice none 0 0):=(blk_cell a1.out 2).trans rfl;have m1:=blk_frozen a1.out 0;have m2:=blk_frozen a1.out 1;have m3:=blk_frozen a1.out 2;obtain⟨b6,b1,q4⟩:=Kd.R_slice d8.out;subst q4;obtain⟨c9,c7,q5⟩:=Kd.R_slice e0.out;subst q5)|((with_reducible refine gate_callee (f:=64) rfl ?_);refine goesL_ (some 22) rfl rfl Try.func64 zqk rfl #[.int .i64 e3] rfl zq2 ?_;(with_reducible refine(spec_DeskNew.calls k e3 a9 a7 b5 k0 _ A5.out).mono ?_);rintro e w14 ⟨a1r,a1s,a1t,rfl,e2,d7,h9,hb⟩;refine⟨_,rfl,?_⟩;have g9:=zqm (Kd.S_mono (Kd.S_told (Kd.S_told (Kd.S_old zq30 hb) (Kd.S_base e2)) (Kd.R_base d7)) (fun _ h_=>h_.1));have h0:=zqm (Kd.R_elder' zq19 (Kd.R_base d7) hb);have q0:=zqm (Kd.R_mono (Kd.R_told (Kd.R_told (Kd.R_told (Kd.R_old zq51 hb) (Kd.S_base e2)) (Kd.R_base d7)) (Kd.R_base h9)) (fun _ h_=>h_.1));have e7:=zqm (Kd.S_lower (Kd.S_new' (Kd.S_new' e2 (Kd.S_lt zq30)) (Kd.R_lt zq19)) (below_size zq25));have e8:=zqm (Kd.R_lower (Kd.R_new' d7 (Kd.R_lt zq19)) (below_size zq25));have e9:=zqm (Kd.R_lower (Kd.R_new' (Kd.R_new' (Kd.R_new' h9 (Kd.S_lt zq30)) (Kd.R_lt zq19)) (Kd.R_lt zq51)) (below_size zq25));replace a1:=zqm (blk_below (g:=a3) (o:= .cells #[.slice c4 a6.length b8,.slice b6 a5.length b1,.slice c9 b0.length c7] 56 (0,0)) (by refine zqe ?_;refine blk_put (cs:= #[.slice c4 a6.length b8,.slice b6 a5.length b1,.slice none 0 0]) ?_ 2 _ rfl;refine zqe ?_;refine blk_put (cs:= #[.slice c4 a6.length b8,.slice none 0 0,.slice none 0 0]) ?_ 1 _ rfl;refine zqe ?_;refine blk_put (cs:= #[.slice none 0 0,.slice none 0 0,.slice none 0 0]) ?_ 0 _ rfl;refine zqe ?_;exact a1.out) hb);replace HB:=zqm (below_step zq25 hb);clear d9 d8 e0;have d9:=g9;have d8:=h0;have e0:=q0;clear g9 h0 q0 hb e2 d7 h9)|((with_reducible refine gate_dst (N:=6) rfl ?_);(try(refine gate_guard (by rfl) ?_;dsimp only));refine box_event ?hg (N:=6) ?hd (cs:= #[.slice none 0 0,.slice none 0 0,.slice none 0 0]) (t:=56) ?hr ?_;(case hd=>rfl);(case hg=>rfl);(case hr=> exact zq10);intro a2 hg g8 hbox hb;replace d9:=zqm (Kd.S_below (zqfS d9.out) hb);replace d8:=zqm (Kd.R_below (zqfR d8.out) hb);replace e0:=zqm (Kd.R_below (zqfR e0.out) hb);replace e7:=zqm (Kd.S_below (zqfS e7.out) hb);replace e8:=zqm (Kd.R_below (zqfR e8.out) hb);replace e9:=zqm (Kd.R_below (zqfR e9.out) hb);have q1:=zqm (blk_below (g:=a3) (o:= .cells #[.slice c4 a6.length b8,.slice b6 a5.length b1,.slice c9 b0.length c7] 56 (0,0)) (zqe a1.out) hb);have q2:=zqm (below_step zq25 hb);have a4:=zqm (hbox);have a0b:=zqm ((by rw [hg];exact(below_size zq25):w.heap.size≤a2));have c8:=zqm ((by rw [hg];exact(below_size zq25):w.heap.size≤a2));have d4:=zqm ((by rw [hg];exact Nat.ne_of_lt (blk_lt (g:=a3) (o:= .cells #[.slice c4 a6.length b8,.slice b6 a5.length b1,.slice c9 b0.length c7] 56 (0,0)) (zqe a1.out)):a3≠a2));have e1:=zqm ((by rw [hg];exact Nat.ne_of_gt (blk_lt (g:=a3) (o:= .cells #[.slice c4 a6.length b8,.slice b6 a5.length b1,.slice c9 b0.length c7] 56 (0,0)) (zqe a1.out)):a2≠a3));clear a1 HB;have a1:=q1;have HB:=q2;clear q1 q2 hb hbox hg;obtain⟨c5,b9,q6⟩:=Kd.S_slice e7.out;subst q6;have a0g:=e1.out;have a0x:=d4.out;have k5:g8.cell? ⟨a2,0,none⟩=some (.slice none 0 0):=(blk_cell a4.out 0).trans rfl;have k6:g8.cell? ⟨a2,1,none⟩=some (.slice none 0 0):=(blk_cell a4.out 1).trans rfl;have k7:g8.cell? ⟨a2,2,none⟩=some (.slice none 0 0):=(blk_cell a4.out 2).trans rfl;have m4:=blk_frozen a4.out 0;have m5:=blk_frozen a4.out 1;have m6:=blk_frozen a4.out 2;obtain⟨b7,b4,q7⟩:=Kd.R_slice e8.out;subst q7;obtain⟨d1,d0,q8⟩:=Kd.R_slice e9.out;subst q8))
  (try simp only [Act.put,List.setIfInBounds_toArray,List.set_cons_zero,List.set_cons_succ])
  go_cut [33] (fun v33 wc=> ∃(kq:Nat) (h7:Bool),v33= .bool h7∧Aside0 (laws_FnDeskNew.j0 kq e3 h6 h7 a6 a5 b0=some r)∧Aside0 (kq≤k)∧Aside0 (Kd.S (Kd.slice 3 (Kd.int .i64)) 24 wc w.heap.size (fun k_=>some k_≠((.slice b6 a5.length b1):Value).ownBlock∧some k_≠((.slice c5 a9.length b9):Value).ownBlock∧some k_≠((.slice b7 a7.length b4):Value).ownBlock) (.slice c4 a6.length b8) a6)∧Aside0 (Kd.R (Kd.int .i64) 3 wc w.heap.size (fun k_=>some k_≠((.slice b7 a7.length b4):Value).ownBlock) (.slice b6 a5.length b1) a5)∧Aside0 (Kd.R k26 26 wc w.heap.size (fun k_=>some k_≠((.slice c4 a6.length b8):Value).ownBlock∧some k_≠((.slice b6 a5.length b1):Value).ownBlock∧some k_≠((.slice c5 a9.length b9):Value).ownBlock∧some k_≠((.slice b7 a7.length b4):Value).ownBlock∧some k_≠((.slice d1 b5.length d0):Value).ownBlock) (.slice c9 b0.length c7) b0)∧Aside0 (Kd.S (Kd.slice 3 (Kd.int .i64)) 24 wc w.heap.size (fun k_=>some k_≠((.slice c4 a6.length b8):Value).ownBlock∧some k_≠((.slice b6 a5.length b1):Value).ownBlock∧some k_≠((.slice b7 a7.length b4):Value).ownBlock) (.slice c5 a9.length b9) a9)∧Aside0 (Kd.R (Kd.int .i64) 3 wc w.heap.size (fun k_=>some k_≠((.slice b6 a5.length b1):Value).ownBlock) (.slice b7 a7.length b4) a7)∧Aside0 (Kd.R k26 26 wc w.heap.size (fun k_=>some k_≠((.slice c4 a6.length b8):Value).ownBlock∧some k_≠((.slice b6 a5.length b1):Value).ownBlock∧some k_≠((.slice c9 b0.length c7):Value).ownBlock∧some k_≠((.slice c5 a9.length b9):Value).ownBlock∧some k_≠((.slice b7 a7.length b4):Value).ownBlock) (.slice d1 b5.length d0) b5)∧Aside0 (wc.heap[a3]? =some (.cells #[(.slice c4 a6.length b8),(.slice b6 a5.length b1),(.slice c9 b0.length c7)] 56 (0,0)))∧Aside0 (wc.heap[a2]? =some (.cells #[(.slice c5 a9.length b9),(.slice b7 a7.length b4),(.slice d1 b5.length d0)] 56 (0,0)))∧Aside0 (Below w.heap.size w wc))
  case first=>
   have H:=o5.out;clear o5;replace H:=Option.bind_eq_some_iff.mp H;obtain⟨i0,n9,H⟩:=H;(try dsimp only at H);have p4:=zqm n9;clear n9
   by_cases i3:i0=true
   ·subst i3;rw [if_pos rfl] at H;have H':=zqm H;clear H;have a0h:=d4.out;have a0y:=e1.out;have k8:g8.cell? ⟨a3,0,none⟩=some (.slice c4 a6.length b8):=(blk_cell a1.out 0).trans rfl;have k9:g8.cell? ⟨a3,1,none⟩=some (.slice b6 a5.length b1):=(blk_cell a1.out 1).trans rfl;have l1:g8.cell? ⟨a3,2,none⟩=some (.slice c9 b0.length c7):=(blk_cell a1.out 2).trans rfl;have m7:=blk_frozen a1.out 0;have m8:=blk_frozen a1.out 1;have m9:=blk_frozen a1.out 2;have l2:g8.cell? ⟨a2,0,none⟩=some (.slice none 0 0):=(blk_cell a4.out 0).trans rfl;have l3:g8.cell? ⟨a2,1,none⟩=some (.slice none 0 0):=(blk_cell a4.out 1).trans rfl;have l4:g8.cell? ⟨a2,2,none⟩=some (.slice none 0 0):=(blk_cell a4.out 2).trans rfl;have n0:=blk_frozen a4.out 0;have n1:=blk_frozen a4.out 1;have n2:=blk_frozen a4.out 2
    go_wp2_with (first|((with_reducible refine gate_callee (f:=65) rfl ?_);refine goesL_ (some 27) rfl rfl Try.func65 zqk rfl #[.agg #[.slice c4 a6.length b8,.slice b6 a5.length b1,.slice c9 b0.length c7],.agg #[.slice c5 a9.length b9,.slice b7 a7.length b4,.slice d1 b5.length d0]] rfl zq2 ?_;(with_reducible refine(laws_sameDesk.calls k _ _ a6 _ _ a5 _ _ b0 _ _ a9 _ _ a7 _ _ b5 true _ ?side1 ?side2 ?side3 ?side4 ?side5 ?side6 ?side7 ?side8 ?side9 ?side10 ?side11 ?side12 p4.out).mono ?_);(case side1=> exact zq22);(case side2=>exact(Kd.S_reads' d9.out).2.1);(case side3=> exact zq29);(case side4=>exact(Kd.R_reads' d8.out).2.1);(case side5=> exact zq13);(case side6=>exact(Kd.R_reads' e0.out).2.1);(case side7=> exact zq23);(case side8=>exact(Kd.S_reads' e7.out).2.1);(case side9=> exact zq28);(case side10=>exact(Kd.R_reads' e8.out).2.1);(case side11=> exact zq14);(case side12=>exact(Kd.R_reads' e9.out).2.1);rintro e w26 ⟨rfl,hb⟩;refine⟨_,rfl,?_⟩;replace d9:=zqm (Kd.S_below zq20 hb);replace d8:=zqm (Kd.R_below zq15 hb);replace e0:=zqm (Kd.R_below zq16 hb);replace e7:=zqm (Kd.S_below zq21 hb);replace e8:=zqm (Kd.R_below zq17 hb);replace e9:=zqm (Kd.R_below zq18 hb);replace a1:=zqm (blk_below (g:=a3) (o:= .cells #[.slice c4 a6.length b8,.slice b6 a5.length b1,.slice c9 b0.length c7] 56 (0,0)) zq94 hb);replace a4:=zqm (blk_below (g:=a2) (o:= .cells #[.slice c5 a9.length b9,.slice b7 a7.length b4,.slice d1 b5.length d0] 56 (0,0)) zq45 hb);replace HB:=zqm (below_step zq1 hb);clear hb))
    go_meet
    case rel=>exact⟨_,((h6 !=k0)),zq5,H',⟨zq109⟩,⟨zq122⟩,⟨by refine zqfR ?_;exact Kd.R_mono d8.out (fun _ hk=>hk.2)⟩,⟨zq104⟩,⟨zq123⟩,⟨by refine zqfR ?_;exact Kd.R_mono e8.out (fun _ hk=>hk.2)⟩,⟨zq105⟩,⟨zqe a1.out⟩,⟨zqe a4.out⟩,⟨zq1⟩⟩
   ·replace i3:=Bool.eq_false_iff.mpr i3;subst i3;rw [if_neg (show¬(false=true) by decide)] at H;have H':=zqm H;clear H;have a0i:=d4.out;have a0z:=e1.out;have l5:g8.cell? ⟨a3,0,none⟩=some (.slice c4 a6.length b8):=(blk_cell a1.out 0).trans rfl;have l6:g8.cell? ⟨a3,1,none⟩=some (.slice b6 a5.length b1):=(blk_cell a1.out 1).trans rfl;have l7:g8.cell? ⟨a3,2,none⟩=some (.slice c9 b0.length c7):=(blk_cell a1.out 2).trans rfl;have n3:=blk_frozen a1.out 0;have n4:=blk_frozen a1.out 1;have n5:=blk_frozen a1.out 2;have l8:g8.cell? ⟨a2,0,none⟩=some (.slice none 0 0):=(blk_cell a4.out 0).trans rfl;have l9:g8.cell? ⟨a2,1,none⟩=some (.slice none 0 0):=(blk_cell a4.out 1).trans rfl;have m0:g8.cell? ⟨a2,2,none⟩=some (.slice none 0 0):=(blk_cell a4.out 2).trans rfl;have n6:=blk_frozen a4.out 0;have n7:=blk_frozen a4.out 1;have n8:=blk_frozen a4.out 2
    go_wp2_with (first|((with_reducible refine gate_callee (f:=65) rfl ?_);refine goesL_ (some 27) rfl rfl Try.func65 zqk rfl #[.agg #[.slice c4 a6.length b8,.slice b6 a5.length b1,.slice c9 b0.length c7],.agg #[.slice c5 a9.length b9,.slice b7 a7.length b4,.slice d1 b5.length d0]] rfl zq2 ?_;(with_reducible refine(laws_sameDesk.calls k _ _ a6 _ _ a5 _ _ b0 _ _ a9 _ _ a7 _ _ b5 false _ ?side1 ?side2 ?side3 ?side4 ?side5 ?side6 ?side7 ?side8 ?side9 ?side10 ?side11 ?side12 p4.out).mono ?_);(case side1=> exact zq22);(case side2=>exact(Kd.S_reads' d9.out).2.1);(case side3=> exact zq29);(case side4=>exact(Kd.R_reads' d8.out).2.1);(case side5=> exact zq13);(case side6=>exact(Kd.R_reads' e0.out).2.1);(case side7=> exact zq23);(case side8=>exact(Kd.S_reads' e7.out).2.1);(case side9=> exact zq28);(case side10=>exact(Kd.R_reads' e8.out).2.1);(case side11=> exact zq14);(case side12=>exact(Kd.R_reads' e9.out).2.1);rintro e w30 ⟨rfl,hb⟩;refine⟨_,rfl,?_⟩;replace d9:=zqm (Kd.S_below zq20 hb);replace d8:=zqm (Kd.R_below zq15 hb);replace e0:=zqm (Kd.R_below zq16 hb);replace e7:=zqm (Kd.S_below zq21 hb);replace e8:=zqm (Kd.R_below zq17 hb);replace e9:=zqm (Kd.R_below zq18 hb);replace a1:=zqm (blk_below (g:=a3) (o:= .cells #[.slice c4 a6.length b8,.slice b6 a5.length b1,.slice c9 b0.length c7] 56 (0,0)) zq94 hb);replace a4:=zqm (blk_below (g:=a2) (o:= .cells #[.slice c5 a9.length b9,.slice b7 a7.length b4,.slice d1 b5.length d0] 56 (0,0)) zq45 hb);replace HB:=zqm (below_step zq1 hb);clear hb))
    go_meet
    case rel=>exact⟨_,(true),zq5,H',⟨zq109⟩,⟨zq122⟩,⟨by refine zqfR ?_;exact Kd.R_mono d8.out (fun _ hk=>hk.2)⟩,⟨zq104⟩,⟨zq123⟩,⟨by refine zqfR ?_;exact Kd.R_mono e8.out (fun _ hk=>hk.2)⟩,⟨zq105⟩,⟨zqe a1.out⟩,⟨zqe a4.out⟩,⟨zq1⟩⟩
  case rest=>
   clear o5;(try clear c1);(try clear c2);(try clear o6);(try clear o7);(try clear p2);(try clear c6);(try clear c13);(try clear c17);(try clear i3);(try clear c23);(try clear c27);(try clear k2);(try clear k3);(try clear k4);(try clear k5);(try clear k6);(try clear k7);(try clear k8);(try clear k9);(try clear l1);(try clear l2);(try clear l3);(try clear l4);(try clear l5);(try clear l6);(try clear l7);(try clear l8);(try clear l9);(try clear m0);(try clear m1);(try clear m2);(try clear m3);(try clear m4);(try clear m5);(try clear m6);(try clear m7);(try clear m8);(try clear m9);(try clear n0);(try clear n1);(try clear n2);(try clear n3);(try clear n4);(try clear n5);(try clear n6);(try clear n7);(try clear n8);obtain⟨kq,h7,rfl,HA,HJ5,HO_1194000,HO_1194001,HO_1194002,HO_1205000,HO_1205001,HO_1205002,a1,a4,HB⟩:=hcut
   cases kq with
   |zero=>exact absurd HA.out (by simp [laws_FnDeskNew.j0])
   |succ i4=>
    have H:=HA.out;clear HA;simp only [laws_FnDeskNew.j0] at H
    by_cases j4:h7=true
    ·subst j4;rw [if_pos rfl] at H;obtain rfl:=Option.some.inj H
     go_wp2
     go_ret
     exact⟨zq8,zq1⟩
    ·replace j4:=Bool.eq_false_iff.mpr j4;subst j4;rw [if_neg (show¬(false=true) by decide)] at H
     by_cases j5:h6=true
     ·subst j5;rw [if_pos rfl] at H;replace H:=Option.bind_eq_some_iff.mp H;obtain⟨⟨b2,b3,k1⟩,o0,H⟩:=H;(try dsimp only at H);have j2:=zqm o0;clear o0;replace H:=Option.bind_eq_some_iff.mp H;obtain⟨o9,o1,H⟩:=H;(try dsimp only at H);have j3:=zqm o1;clear o1
      by_cases j6:o9=true
      ·subst j6;rw [if_pos rfl] at H
       by_cases j7:k1=true
       ·subst j7;rw [if_pos rfl] at H;replace H:=Option.bind_eq_some_iff.mp H;obtain⟨p0,o2,H⟩:=H;(try dsimp only at H);have p6:=zqm o2;clear o2
        by_cases j8:p0=true
        ·subst j8;rw [if_pos rfl] at H;obtain rfl:=Option.some.inj H
         go_wp2_with (first|((with_reducible refine gate_callee (f:=46) rfl ?_);refine goesL_ (some 43) rfl rfl Try.func46 zqk rfl #[.int .i64 e3] rfl zq2 ?_;(with_reducible refine(impl_SetsOf.calls e3 b2 b3 true _ j2.out).mono ?_);rintro e w39 ⟨i1,i2,rfl,e2,d7,hb⟩;refine⟨_,rfl,?_⟩;have g9:=zqm (Kd.S_mono (Kd.S_told (Kd.S_told (Kd.S_old (zqfS HO_1194000.out) hb) (Kd.S_base e2)) (Kd.R_base d7)) (fun _ h_=>h_.1));have h0:=zqm (Kd.R_elder' (zqfR HO_1194001.out) (Kd.R_base d7) hb);replace HO_1194002:=zqm (Kd.R_mono (Kd.R_told (Kd.R_told (Kd.R_old (zqfR HO_1194002.out) hb) (Kd.S_base e2)) (Kd.R_base d7)) (fun _ h_=>h_.1));have h1:=zqm (Kd.S_mono (Kd.S_told (Kd.S_told (Kd.S_old (zqfS HO_1205000.out) hb) (Kd.S_base e2)) (Kd.R_base d7)) (fun _ h_=>h_.1));have h2:=zqm (Kd.R_elder' (zqfR HO_1205001.out) (Kd.R_base d7) hb);replace HO_1205002:=zqm (Kd.R_mono (Kd.R_told (Kd.R_told (Kd.R_old (zqfR HO_1205002.out) hb) (Kd.S_base e2)) (Kd.R_base d7)) (fun _ h_=>h_.1));have d2:=zqm (Kd.S_lower (Kd.S_new' (Kd.S_new' (Kd.S_new' (Kd.S_new' e2 (Kd.S_lt (zqfS HO_1194000.out))) (Kd.R_lt (zqfR HO_1194001.out))) (Kd.S_lt (zqfS HO_1205000.out))) (Kd.R_lt (zqfR HO_1205001.out))) (below_size zq1));have d3:=zqm (Kd.R_lower (Kd.R_new' (Kd.R_new' d7 (Kd.R_lt (zqfR HO_1194001.out))) (Kd.R_lt (zqfR HO_1205001.out))) (below_size zq1));replace a1:=zqm (blk_below (g:=a3) (o:= .cells #[.slice c4 a6.length b8,.slice b6 a5.length b1,.slice c9 b0.length c7] 56 (0,0)) (zqe a1.out) hb);replace a4:=zqm (blk_below (g:=a2) (o:= .cells #[.slice c5 a9.length b9,.slice b7 a7.length b4,.slice d1 b5.length d0] 56 (0,0)) (zqe a4.out) hb);replace HB:=zqm (below_step zq1 hb);clear HO_1194000 HO_1194001 HO_1205000 HO_1205001;have HO_1194000:=g9;have HO_1194001:=h0;have HO_1205000:=h1;have HO_1205001:=h2;clear g9 h0 h1 h2 hb e2 d7)|((with_reducible refine gate_dst (N:=8) rfl ?_);(try(refine gate_guard (by rfl) ?_;dsimp only));refine box_event ?hg (N:=8) ?hd (cs:= #[.slice none 0 0,.slice none 0 0]) (t:=26) ?hr ?_;(case hd=>rfl);(case hg=>rfl);(case hr=> exact zq10);intro a0 hg i5 hbox hb;replace HO_1194000:=zqm (Kd.S_below (zqfS HO_1194000.out) hb);replace HO_1194001:=zqm (Kd.R_below (zqfR HO_1194001.out) hb);replace HO_1194002:=zqm (Kd.R_below (Kd.R_elderB (zqfR HO_1194002.out) a0 (Nat.le_of_eq hg.symm)) hb);replace HO_1205000:=zqm (Kd.S_below (zqfS HO_1205000.out) hb);replace HO_1205001:=zqm (Kd.R_below (zqfR HO_1205001.out) hb);replace HO_1205002:=zqm (Kd.R_below (Kd.R_elderB (zqfR HO_1205002.out) a0 (Nat.le_of_eq hg.symm)) hb);replace d2:=zqm (Kd.S_below (zqfS d2.out) hb);replace d3:=zqm (Kd.R_below (zqfR d3.out) hb);have h3:=zqm (blk_below (g:=a3) (o:= .cells #[.slice c4 a6.length b8,.slice b6 a5.length b1,.slice c9 b0.length c7] 56 (0,0)) (zqe a1.out) hb);have h4:=zqm (blk_below (g:=a2) (o:= .cells #[.slice c5 a9.length b9,.slice b7 a7.length b4,.slice d1 b5.length d0] 56 (0,0)) (zqe a4.out) hb);have g7:=zqm (below_step zq1 hb);have a8:=zqm (hbox);have h8:=zqm ((by rw [hg];exact(below_size zq1):w.heap.size≤a0));have e6:=zqm ((by rw [hg];exact(below_size zq1):w.heap.size≤a0));have d5:=zqm ((by rw [hg];exact Nat.ne_of_lt (blk_lt (g:=a3) (o:= .cells #[.slice c4 a6.length b8,.slice b6 a5.length b1,.slice c9 b0.length c7] 56 (0,0)) (zqe a1.out)):a3≠a0));have e4:=zqm ((by rw [hg];exact Nat.ne_of_gt (blk_lt (g:=a3) (o:= .cells #[.slice c4 a6.length b8,.slice b6 a5.length b1,.slice c9 b0.length c7] 56 (0,0)) (zqe a1.out)):a0≠a3));have d6:=zqm ((by rw [hg];exact Nat.ne_of_lt (blk_lt (g:=a2) (o:= .cells #[.slice c5 a9.length b9,.slice b7 a7.length b4,.slice d1 b5.length d0] 56 (0,0)) (zqe a4.out)):a2≠a0));have e5:=zqm ((by rw [hg];exact Nat.ne_of_gt (blk_lt (g:=a2) (o:= .cells #[.slice c5 a9.length b9,.slice b7 a7.length b4,.slice d1 b5.length d0] 56 (0,0)) (zqe a4.out)):a0≠a2));clear a1 a4 HB;have a1:=h3;have a4:=h4;have HB:=g7;clear h3 h4 g7 hb hbox hg;obtain⟨f1,f5,q9⟩:=Kd.S_slice d2.out;subst q9;have a0j:=e4.out;have a1a:=d5.out;have a0k:=e5.out;have a1b:=d6.out;have r7:i5.cell? ⟨a0,0,none⟩=some (.slice none 0 0):=(blk_cell a8.out 0).trans rfl;have r8:i5.cell? ⟨a0,1,none⟩=some (.slice none 0 0):=(blk_cell a8.out 1).trans rfl;have v7:=blk_frozen a8.out 0;have v8:=blk_frozen a8.out 1;obtain⟨f2,f6,r0⟩:=Kd.R_slice d3.out;subst r0;have a0l:=d4.out;have a1c:=e1.out;have r9:i5.cell? ⟨a3,0,none⟩=some (.slice c4 a6.length b8):=(blk_cell a1.out 0).trans rfl;have s0:i5.cell? ⟨a3,1,none⟩=some (.slice b6 a5.length b1):=(blk_cell a1.out 1).trans rfl;have s1:i5.cell? ⟨a3,2,none⟩=some (.slice c9 b0.length c7):=(blk_cell a1.out 2).trans rfl;have v9:=blk_frozen a1.out 0;have w0:=blk_frozen a1.out 1;have w1:=blk_frozen a1.out 2)|((with_reducible refine gate_callee (f:=60) rfl ?_);refine goesL_ (some 47) rfl rfl Try.func60 zqk rfl #[.agg #[.slice c4 a6.length b8,.slice b6 a5.length b1,.slice c9 b0.length c7]] rfl zq2 ?_;(with_reducible refine(impl_DeskOk.calls _ _ a6 _ _ a5 _ _ b0 true _ ?side1 ?side2 ?side3 ?side4 ?side5 ?side6 j3.out).mono ?_);(case side1=>refine(Kd.S_reads' (e:=24) (base:=w.heap.size) (ok:=fun k_=>(((some k_≠(.slice b6 a5.length b1:Value).ownBlock∧(some k_≠(.slice c5 a9.length b9:Value).ownBlock∧some k_≠(.slice b7 a7.length b4:Value).ownBlock))∧some k_≠(.slice f1 b2.length f5:Value).ownBlock)∧some k_≠(.slice f2 b3.length f6:Value).ownBlock)) (n:=a6.length) (c:=b8) ?_).2.2;exact zq65);(case side2=> exact zq96);(case side3=>refine(Kd.R_reads' (e:=3) (base:=w.heap.size) (ok:=fun k_=>(some k_≠(.slice b7 a7.length b4:Value).ownBlock∧some k_≠(.slice f2 b3.length f6:Value).ownBlock)) (n:=a5.length) (c:=b1) ?_).2.2;exact zq61);(case side4=> exact zq95);(case side5=>refine(Kd.R_reads' (e:=26) (base:=w.heap.size) (ok:=fun k_=>((((some k_≠(.slice c4 a6.length b8:Value).ownBlock∧(some k_≠(.slice b6 a5.length b1:Value).ownBlock∧(some k_≠(.slice c5 a9.length b9:Value).ownBlock∧(some k_≠(.slice b7 a7.length b4:Value).ownBlock∧some k_≠(.slice d1 b5.length d0:Value).ownBlock))))∧some k_≠(.slice f1 b2.length f5:Value).ownBlock)∧some k_≠(.slice f2 b3.length f6:Value).ownBlock)∧k_≠a0)) (n:=b0.length) (c:=c7) ?_).2.2;exact zq54);(case side6=> exact zq103);rintro e i6 ⟨rfl,hb⟩;refine⟨_,rfl,?_⟩;replace HO_1194000:=zqm (Kd.S_below zq65 hb);replace HO_1194001:=zqm (Kd.R_below zq61 hb);replace HO_1194002:=zqm (Kd.R_below zq54 hb);replace HO_1205000:=zqm (Kd.S_below (by refine zqfS ?_;exact(Kd.S_mono (Kd.S_far (p:=⟨a0,1,none⟩) (Kd.S_far (p:=⟨a0,0,none⟩) (Kd.S_types HO_1205000.out a8.out (by decide)) (fun _ hk=>hk.2) (.slice f1 b2.length f5)) (fun _ hk=>hk.2) (.slice f2 b3.length f6)) (fun _ h_=>h_.1))) hb);replace HO_1205001:=zqm (Kd.R_below (by refine zqfR ?_;exact(Kd.R_mono (Kd.R_far (p:=⟨a0,1,none⟩) (Kd.R_far (p:=⟨a0,0,none⟩) (Kd.R_types HO_1205001.out a8.out (by decide)) (fun _ hk=>hk.2) (.slice f1 b2.length f5)) (fun _ hk=>hk.2) (.slice f2 b3.length f6)) (fun _ h_=>h_.1))) hb);replace HO_1205002:=zqm (Kd.R_below (by refine zqfR ?_;exact(Kd.R_mono (Kd.R_far (p:=⟨a0,1,none⟩) (Kd.R_far (p:=⟨a0,0,none⟩) (Kd.R_mono HO_1205002.out (fun k_ hk=>(⟨hk,hk.2⟩:_∧k_≠a0))) (fun _ hk=>hk.2) (.slice f1 b2.length f5)) (fun _ hk=>hk.2) (.slice f2 b3.length f6)) (fun _ h_=>h_.1))) hb);replace d2:=zqm (Kd.S_below (by refine zqfS ?_;exact(Kd.S_mono (Kd.S_far (p:=⟨a0,1,none⟩) (Kd.S_far (p:=⟨a0,0,none⟩) (Kd.S_types d2.out a8.out (by decide)) (fun _ hk=>hk.2) (.slice f1 b2.length f5)) (fun _ hk=>hk.2) (.slice f2 b3.length f6)) (fun _ h_=>h_.1))) hb);replace d3:=zqm (Kd.R_below (by refine zqfR ?_;exact(Kd.R_mono (Kd.R_far (p:=⟨a0,1,none⟩) (Kd.R_far (p:=⟨a0,0,none⟩) (Kd.R_types d3.out a8.out (by decide)) (fun _ hk=>hk.2) (.slice f1 b2.length f5)) (fun _ hk=>hk.2) (.slice f2 b3.length f6)) (fun _ h_=>h_.1))) hb);replace a1:=zqm (blk_below (g:=a3) (o:= .cells #[.slice c4 a6.length b8,.slice b6 a5.length b1,.slice c9 b0.length c7] 56 (0,0)) zq72 hb);replace a4:=zqm (blk_below (g:=a2) (o:= .cells #[.slice c5 a9.length b9,.slice b7 a7.length b4,.slice d1 b5.length d0] 56 (0,0)) zq73 hb);replace a8:=zqm (blk_below (g:=a0) (o:= .cells #[.slice f1 b2.length f5,.slice f2 b3.length f6] 26 (0,0)) (by refine zqe ?_;refine blk_put (cs:= #[.slice f1 b2.length f5,.slice none 0 0]) ?_ 1 _ rfl;refine zqe ?_;refine blk_put (cs:= #[.slice none 0 0,.slice none 0 0]) ?_ 0 _ rfl;refine zqe ?_;exact a8.out) hb);replace HB:=zqm (below_step zq9 hb);clear hb;have s2:i6.cell? ⟨a3,0,none⟩=some (.slice c4 a6.length b8):=(blk_cell a1.out 0).trans rfl;have s3:i6.cell? ⟨a3,1,none⟩=some (.slice b6 a5.length b1):=(blk_cell a1.out 1).trans rfl;have s4:i6.cell? ⟨a3,2,none⟩=some (.slice c9 b0.length c7):=(blk_cell a1.out 2).trans rfl;have w2:=blk_frozen a1.out 0;have w3:=blk_frozen a1.out 1;have w4:=blk_frozen a1.out 2;have s5:i6.cell? ⟨a0,0,none⟩=some (.slice f1 b2.length f5):=(blk_cell a8.out 0).trans rfl;have s6:i6.cell? ⟨a0,1,none⟩=some (.slice f2 b3.length f6):=(blk_cell a8.out 1).trans rfl;have w5:=blk_frozen a8.out 0;have w6:=blk_frozen a8.out 1)|(go_at_call 67;(with_reducible refine(laws_sameLogic.calls i4 _ _ a6 _ _ a5 _ _ b2 _ _ b3 true _ ?side1 ?side2 ?side3 ?side4 ?side5 ?side6 ?side7 ?side8 p6.out).mono ?_);(case side1=> exact zq47);(case side2=> exact zq96);(case side3=> exact zq46);(case side4=> exact zq95);(case side5=> exact zq92);(case side6=>exact(Kd.S_reads' d2.out).2.1);(case side7=> exact zq91);(case side8=>exact(Kd.R_reads' d3.out).2.1);rintro e o8 ⟨rfl,hb⟩;replace HO_1194000:=zqm (Kd.S_below (zqfS HO_1194000.out) hb);replace HO_1194001:=zqm (Kd.R_below (zqfR HO_1194001.out) hb);replace HO_1194002:=zqm (Kd.R_below (zqfR HO_1194002.out) hb);replace HO_1205000:=zqm (Kd.S_below (zqfS HO_1205000.out) hb);replace HO_1205001:=zqm (Kd.R_below (zqfR HO_1205001.out) hb);replace HO_1205002:=zqm (Kd.R_below (zqfR HO_1205002.out) hb);replace d2:=zqm (Kd.S_below (zqfS d2.out) hb);replace d3:=zqm (Kd.R_below (zqfR d3.out) hb);replace a1:=zqm (blk_below (g:=a3) (o:= .cells #[.slice c4 a6.length b8,.slice b6 a5.length b1,.slice c9 b0.length c7] 56 (0,0)) (zqe a1.out) hb);replace a4:=zqm (blk_below (g:=a2) (o:= .cells #[.slice c5 a9.length b9,.slice b7 a7.length b4,.slice d1 b5.length d0] 56 (0,0)) (zqe a4.out) hb);replace a8:=zqm (blk_below (g:=a0) (o:= .cells #[.slice f1 b2.length f5,.slice f2 b3.length f6] 26 (0,0)) (zqe a8.out) hb);replace HB:=zqm (below_step zq9 hb);clear hb;have s7:o8.cell? ⟨a3,0,none⟩=some (.slice c4 a6.length b8):=(blk_cell a1.out 0).trans rfl;have s8:o8.cell? ⟨a3,1,none⟩=some (.slice b6 a5.length b1):=(blk_cell a1.out 1).trans rfl;have s9:o8.cell? ⟨a3,2,none⟩=some (.slice c9 b0.length c7):=(blk_cell a1.out 2).trans rfl;have x0:=blk_frozen a1.out 0;have x1:=blk_frozen a1.out 1;have x2:=blk_frozen a1.out 2))
         go_ret
         exact⟨zq8,zq9⟩
        ·replace j8:=Bool.eq_false_iff.mpr j8;subst j8;rw [if_neg (show¬(false=true) by decide)] at H;obtain rfl:=Option.some.inj H
         go_wp2_with (first|((with_reducible refine gate_callee (f:=46) rfl ?_);refine goesL_ (some 43) rfl rfl Try.func46 zqk rfl #[.int .i64 e3] rfl zq2 ?_;(with_reducible refine(impl_SetsOf.calls e3 b2 b3 true _ j2.out).mono ?_);rintro e w53 ⟨i1,i2,rfl,e2,d7,hb⟩;refine⟨_,rfl,?_⟩;have g9:=zqm (Kd.S_mono (Kd.S_told (Kd.S_told (Kd.S_old (zqfS HO_1194000.out) hb) (Kd.S_base e2)) (Kd.R_base d7)) (fun _ h_=>h_.1));have h0:=zqm (Kd.R_elder' (zqfR HO_1194001.out) (Kd.R_base d7) hb);replace HO_1194002:=zqm (Kd.R_mono (Kd.R_told (Kd.R_told (Kd.R_old (zqfR HO_1194002.out) hb) (Kd.S_base e2)) (Kd.R_base d7)) (fun _ h_=>h_.1));have h1:=zqm (Kd.S_mono (Kd.S_told (Kd.S_told (Kd.S_old (zqfS HO_1205000.out) hb) (Kd.S_base e2)) (Kd.R_base d7)) (fun _ h_=>h_.1));have h2:=zqm (Kd.R_elder' (zqfR HO_1205001.out) (Kd.R_base d7) hb);replace HO_1205002:=zqm (Kd.R_mono (Kd.R_told (Kd.R_told (Kd.R_old (zqfR HO_1205002.out) hb) (Kd.S_base e2)) (Kd.R_base d7)) (fun _ h_=>h_.1));have d2:=zqm (Kd.S_lower (Kd.S_new' (Kd.S_new' (Kd.S_new' (Kd.S_new' e2 (Kd.S_lt (zqfS HO_1194000.out))) (Kd.R_lt (zqfR HO_1194001.out))) (Kd.S_lt (zqfS HO_1205000.out))) (Kd.R_lt (zqfR HO_1205001.out))) (below_size zq1));have d3:=zqm (Kd.R_lower (Kd.R_new' (Kd.R_new' d7 (Kd.R_lt (zqfR HO_1194001.out))) (Kd.R_lt (zqfR HO_1205001.out))) (below_size zq1));replace a1:=zqm (blk_below (g:=a3) (o:= .cells #[.slice c4 a6.length b8,.slice b6 a5.length b1,.slice c9 b0.length c7] 56 (0,0)) (zqe a1.out) hb);replace a4:=zqm (blk_below (g:=a2) (o:= .cells #[.slice c5 a9.length b9,.slice b7 a7.length b4,.slice d1 b5.length d0] 56 (0,0)) (zqe a4.out) hb);replace HB:=zqm (below_step zq1 hb);clear HO_1194000 HO_1194001 HO_1205000 HO_1205001;have HO_1194000:=g9;have HO_1194001:=h0;have HO_1205000:=h1;have HO_1205001:=h2;clear g9 h0 h1 h2 hb e2 d7)|((with_reducible refine gate_dst (N:=8) rfl ?_);(try(refine gate_guard (by rfl) ?_;dsimp only));refine box_event ?hg (N:=8) ?hd (cs:= #[.slice none 0 0,.slice none 0 0]) (t:=26) ?hr ?_;(case hd=>rfl);(case hg=>rfl);(case hr=> exact zq10);intro a0 hg i7 hbox hb;replace HO_1194000:=zqm (Kd.S_below (zqfS HO_1194000.out) hb);replace HO_1194001:=zqm (Kd.R_below (zqfR HO_1194001.out) hb);replace HO_1194002:=zqm (Kd.R_below (Kd.R_elderB (zqfR HO_1194002.out) a0 (Nat.le_of_eq hg.symm)) hb);replace HO_1205000:=zqm (Kd.S_below (zqfS HO_1205000.out) hb);replace HO_1205001:=zqm (Kd.R_below (zqfR HO_1205001.out) hb);replace HO_1205002:=zqm (Kd.R_below (Kd.R_elderB (zqfR HO_1205002.out) a0 (Nat.le_of_eq hg.symm)) hb);replace d2:=zqm (Kd.S_below (zqfS d2.out) hb);replace d3:=zqm (Kd.R_below (zqfR d3.out) hb);have h3:=zqm (blk_below (g:=a3) (o:= .cells #[.slice c4 a6.length b8,.slice b6 a5.length b1,.slice c9 b0.length c7] 56 (0,0)) (zqe a1.out) hb);have h4:=zqm (blk_below (g:=a2) (o:= .cells #[.slice c5 a9.length b9,.slice b7 a7.length b4,.slice d1 b5.length d0] 56 (0,0)) (zqe a4.out) hb);have g7:=zqm (below_step zq1 hb);have a8:=zqm (hbox);have h8:=zqm ((by rw [hg];exact(below_size zq1):w.heap.size≤a0));have e6:=zqm ((by rw [hg];exact(below_size zq1):w.heap.size≤a0));have d5:=zqm ((by rw [hg];exact Nat.ne_of_lt (blk_lt (g:=a3) (o:= .cells #[.slice c4 a6.length b8,.slice b6 a5.length b1,.slice c9 b0.length c7] 56 (0,0)) (zqe a1.out)):a3≠a0));have e4:=zqm ((by rw [hg];exact Nat.ne_of_gt (blk_lt (g:=a3) (o:= .cells #[.slice c4 a6.length b8,.slice b6 a5.length b1,.slice c9 b0.length c7] 56 (0,0)) (zqe a1.out)):a0≠a3));have d6:=zqm ((by rw [hg];exact Nat.ne_of_lt (blk_lt (g:=a2) (o:= .cells #[.slice c5 a9.length b9,.slice b7 a7.length b4,.slice d1 b5.length d0] 56 (0,0)) (zqe a4.out)):a2≠a0));have e5:=zqm ((by rw [hg];exact Nat.ne_of_gt (blk_lt (g:=a2) (o:= .cells #[.slice c5 a9.length b9,.slice b7 a7.length b4,.slice d1 b5.length d0] 56 (0,0)) (zqe a4.out)):a0≠a2));clear a1 a4 HB;have a1:=h3;have a4:=h4;have HB:=g7;clear h3 h4 g7 hb hbox hg;obtain⟨f3,f7,r1⟩:=Kd.S_slice d2.out;subst r1;have a0m:=e4.out;have a1d:=d5.out;have a0n:=e5.out;have a1e:=d6.out;have t0:i7.cell? ⟨a0,0,none⟩=some (.slice none 0 0):=(blk_cell a8.out 0).trans rfl;have t1:i7.cell? ⟨a0,1,none⟩=some (.slice none 0 0):=(blk_cell a8.out 1).trans rfl;have x3:=blk_frozen a8.out 0;have x4:=blk_frozen a8.out 1;obtain⟨f4,f8,r2⟩:=Kd.R_slice d3.out;subst r2;have a0o:=d4.out;have a1f:=e1.out;have t2:i7.cell? ⟨a3,0,none⟩=some (.slice c4 a6.length b8):=(blk_cell a1.out 0).trans rfl;have t3:i7.cell? ⟨a3,1,none⟩=some (.slice b6 a5.length b1):=(blk_cell a1.out 1).trans rfl;have t4:i7.cell? ⟨a3,2,none⟩=some (.slice c9 b0.length c7):=(blk_cell a1.out 2).trans rfl;have x5:=blk_frozen a1.out 0;have x6:=blk_frozen a1.out 1;have x7:=blk_frozen a1.out 2)|((with_reducible refine gate_callee (f:=60) rfl ?_);refine goesL_ (some 47) rfl rfl Try.func60 zqk rfl #[.agg #[.slice c4 a6.length b8,.slice b6 a5.length b1,.slice c9 b0.length c7]] rfl zq2 ?_;(with_reducible refine(impl_DeskOk.calls _ _ a6 _ _ a5 _ _ b0 true _ ?side1 ?side2 ?side3 ?side4 ?side5 ?side6 j3.out).mono ?_);(case side1=>refine(Kd.S_reads' (e:=24) (base:=w.heap.size) (ok:=fun k_=>(((some k_≠(.slice b6 a5.length b1:Value).ownBlock∧(some k_≠(.slice c5 a9.length b9:Value).ownBlock∧some k_≠(.slice b7 a7.length b4:Value).ownBlock))∧some k_≠(.slice f3 b2.length f7:Value).ownBlock)∧some k_≠(.slice f4 b3.length f8:Value).ownBlock)) (n:=a6.length) (c:=b8) ?_).2.2;exact zq66);(case side2=> exact zq96);(case side3=>refine(Kd.R_reads' (e:=3) (base:=w.heap.size) (ok:=fun k_=>(some k_≠(.slice b7 a7.length b4:Value).ownBlock∧some k_≠(.slice f4 b3.length f8:Value).ownBlock)) (n:=a5.length) (c:=b1) ?_).2.2;exact zq62);(case side4=> exact zq95);(case side5=>refine(Kd.R_reads' (e:=26) (base:=w.heap.size) (ok:=fun k_=>((((some k_≠(.slice c4 a6.length b8:Value).ownBlock∧(some k_≠(.slice b6 a5.length b1:Value).ownBlock∧(some k_≠(.slice c5 a9.length b9:Value).ownBlock∧(some k_≠(.slice b7 a7.length b4:Value).ownBlock∧some k_≠(.slice d1 b5.length d0:Value).ownBlock))))∧some k_≠(.slice f3 b2.length f7:Value).ownBlock)∧some k_≠(.slice f4 b3.length f8:Value).ownBlock)∧k_≠a0)) (n:=b0.length) (c:=c7) ?_).2.2;exact zq55);(case side6=> exact zq103);rintro e i8 ⟨rfl,hb⟩;refine⟨_,rfl,?_⟩;replace HO_1194000:=zqm (Kd.S_below zq66 hb);replace HO_1194001:=zqm (Kd.R_below zq62 hb);replace HO_1194002:=zqm (Kd.R_below zq55 hb);replace HO_1205000:=zqm (Kd.S_below (by refine zqfS ?_;exact(Kd.S_mono (Kd.S_far (p:=⟨a0,1,none⟩) (Kd.S_far (p:=⟨a0,0,none⟩) (Kd.S_types HO_1205000.out a8.out (by decide)) (fun _ hk=>hk.2) (.slice f3 b2.length f7)) (fun _ hk=>hk.2) (.slice f4 b3.length f8)) (fun _ h_=>h_.1))) hb);replace HO_1205001:=zqm (Kd.R_below (by refine zqfR ?_;exact(Kd.R_mono (Kd.R_far (p:=⟨a0,1,none⟩) (Kd.R_far (p:=⟨a0,0,none⟩) (Kd.R_types HO_1205001.out a8.out (by decide)) (fun _ hk=>hk.2) (.slice f3 b2.length f7)) (fun _ hk=>hk.2) (.slice f4 b3.length f8)) (fun _ h_=>h_.1))) hb);replace HO_1205002:=zqm (Kd.R_below (by refine zqfR ?_;exact(Kd.R_mono (Kd.R_far (p:=⟨a0,1,none⟩) (Kd.R_far (p:=⟨a0,0,none⟩) (Kd.R_mono HO_1205002.out (fun k_ hk=>(⟨hk,hk.2⟩:_∧k_≠a0))) (fun _ hk=>hk.2) (.slice f3 b2.length f7)) (fun _ hk=>hk.2) (.slice f4 b3.length f8)) (fun _ h_=>h_.1))) hb);replace d2:=zqm (Kd.S_below (by refine zqfS ?_;exact(Kd.S_mono (Kd.S_far (p:=⟨a0,1,none⟩) (Kd.S_far (p:=⟨a0,0,none⟩) (Kd.S_types d2.out a8.out (by decide)) (fun _ hk=>hk.2) (.slice f3 b2.length f7)) (fun _ hk=>hk.2) (.slice f4 b3.length f8)) (fun _ h_=>h_.1))) hb);replace d3:=zqm (Kd.R_below (by refine zqfR ?_;exact(Kd.R_mono (Kd.R_far (p:=⟨a0,1,none⟩) (Kd.R_far (p:=⟨a0,0,none⟩) (Kd.R_types d3.out a8.out (by decide)) (fun _ hk=>hk.2) (.slice f3 b2.length f7)) (fun _ hk=>hk.2) (.slice f4 b3.length f8)) (fun _ h_=>h_.1))) hb);replace a1:=zqm (blk_below (g:=a3) (o:= .cells #[.slice c4 a6.length b8,.slice b6 a5.length b1,.slice c9 b0.length c7] 56 (0,0)) zq72 hb);replace a4:=zqm (blk_below (g:=a2) (o:= .cells #[.slice c5 a9.length b9,.slice b7 a7.length b4,.slice d1 b5.length d0] 56 (0,0)) zq73 hb);replace a8:=zqm (blk_below (g:=a0) (o:= .cells #[.slice f3 b2.length f7,.slice f4 b3.length f8] 26 (0,0)) (by refine zqe ?_;refine blk_put (cs:= #[.slice f3 b2.length f7,.slice none 0 0]) ?_ 1 _ rfl;refine zqe ?_;refine blk_put (cs:= #[.slice none 0 0,.slice none 0 0]) ?_ 0 _ rfl;refine zqe ?_;exact a8.out) hb);replace HB:=zqm (below_step zq9 hb);clear hb;have t5:i8.cell? ⟨a3,0,none⟩=some (.slice c4 a6.length b8):=(blk_cell a1.out 0).trans rfl;have t6:i8.cell? ⟨a3,1,none⟩=some (.slice b6 a5.length b1):=(blk_cell a1.out 1).trans rfl;have t7:i8.cell? ⟨a3,2,none⟩=some (.slice c9 b0.length c7):=(blk_cell a1.out 2).trans rfl;have x8:=blk_frozen a1.out 0;have x9:=blk_frozen a1.out 1;have y0:=blk_frozen a1.out 2;have t8:i8.cell? ⟨a0,0,none⟩=some (.slice f3 b2.length f7):=(blk_cell a8.out 0).trans rfl;have t9:i8.cell? ⟨a0,1,none⟩=some (.slice f4 b3.length f8):=(blk_cell a8.out 1).trans rfl;have y1:=blk_frozen a8.out 0;have y2:=blk_frozen a8.out 1)|(go_at_call 67;(with_reducible refine(laws_sameLogic.calls i4 _ _ a6 _ _ a5 _ _ b2 _ _ b3 false _ ?side1 ?side2 ?side3 ?side4 ?side5 ?side6 ?side7 ?side8 p6.out).mono ?_);(case side1=> exact zq47);(case side2=> exact zq96);(case side3=> exact zq46);(case side4=> exact zq95);(case side5=> exact zq92);(case side6=>exact(Kd.S_reads' d2.out).2.1);(case side7=> exact zq91);(case side8=>exact(Kd.R_reads' d3.out).2.1);rintro e w65 ⟨rfl,hb⟩;replace HO_1194000:=zqm (Kd.S_below (zqfS HO_1194000.out) hb);replace HO_1194001:=zqm (Kd.R_below (zqfR HO_1194001.out) hb);replace HO_1194002:=zqm (Kd.R_below (zqfR HO_1194002.out) hb);replace HO_1205000:=zqm (Kd.S_below (zqfS HO_1205000.out) hb);replace HO_1205001:=zqm (Kd.R_below (zqfR HO_1205001.out) hb);replace HO_1205002:=zqm (Kd.R_below (zqfR HO_1205002.out) hb);replace d2:=zqm (Kd.S_below (zqfS d2.out) hb);replace d3:=zqm (Kd.R_below (zqfR d3.out) hb);replace a1:=zqm (blk_below (g:=a3) (o:= .cells #[.slice c4 a6.length b8,.slice b6 a5.length b1,.slice c9 b0.length c7] 56 (0,0)) (zqe a1.out) hb);replace a4:=zqm (blk_below (g:=a2) (o:= .cells #[.slice c5 a9.length b9,.slice b7 a7.length b4,.slice d1 b5.length d0] 56 (0,0)) (zqe a4.out) hb);replace a8:=zqm (blk_below (g:=a0) (o:= .cells #[.slice f3 b2.length f7,.slice f4 b3.length f8] 26 (0,0)) (zqe a8.out) hb);replace HB:=zqm (below_step zq9 hb);clear hb))
         go_ret
         exact⟨zq8,zq9⟩
       ·replace j7:=Bool.eq_false_iff.mpr j7;subst j7;rw [if_neg (show¬(false=true) by decide)] at H;obtain rfl:=Option.some.inj H
        go_wp2_with (first|((with_reducible refine gate_callee (f:=46) rfl ?_);refine goesL_ (some 43) rfl rfl Try.func46 zqk rfl #[.int .i64 e3] rfl zq2 ?_;(with_reducible refine(impl_SetsOf.calls e3 b2 b3 false _ j2.out).mono ?_);rintro e w66 ⟨i1,i2,rfl,e2,d7,hb⟩;refine⟨_,rfl,?_⟩;have g9:=zqm (Kd.S_mono (Kd.S_told (Kd.S_told (Kd.S_old (zqfS HO_1194000.out) hb) (Kd.S_base e2)) (Kd.R_base d7)) (fun _ h_=>h_.1));have h0:=zqm (Kd.R_elder' (zqfR HO_1194001.out) (Kd.R_base d7) hb);replace HO_1194002:=zqm (Kd.R_mono (Kd.R_told (Kd.R_told (Kd.R_old (zqfR HO_1194002.out) hb) (Kd.S_base e2)) (Kd.R_base d7)) (fun _ h_=>h_.1));have h1:=zqm (Kd.S_mono (Kd.S_told (Kd.S_told (Kd.S_old (zqfS HO_1205000.out) hb) (Kd.S_base e2)) (Kd.R_base d7)) (fun _ h_=>h_.1));have h2:=zqm (Kd.R_elder' (zqfR HO_1205001.out) (Kd.R_base d7) hb);replace HO_1205002:=zqm (Kd.R_mono (Kd.R_told (Kd.R_told (Kd.R_old (zqfR HO_1205002.out) hb) (Kd.S_base e2)) (Kd.R_base d7)) (fun _ h_=>h_.1));have d2:=zqm (Kd.S_lower (Kd.S_new' (Kd.S_new' (Kd.S_new' (Kd.S_new' e2 (Kd.S_lt (zqfS HO_1194000.out))) (Kd.R_lt (zqfR HO_1194001.out))) (Kd.S_lt (zqfS HO_1205000.out))) (Kd.R_lt (zqfR HO_1205001.out))) (below_size zq1));have d3:=zqm (Kd.R_lower (Kd.R_new' (Kd.R_new' d7 (Kd.R_lt (zqfR HO_1194001.out))) (Kd.R_lt (zqfR HO_1205001.out))) (below_size zq1));replace a1:=zqm (blk_below (g:=a3) (o:= .cells #[.slice c4 a6.length b8,.slice b6 a5.length b1,.slice c9 b0.length c7] 56 (0,0)) (zqe a1.out) hb);replace a4:=zqm (blk_below (g:=a2) (o:= .cells #[.slice c5 a9.length b9,.slice b7 a7.length b4,.slice d1 b5.length d0] 56 (0,0)) (zqe a4.out) hb);replace HB:=zqm (below_step zq1 hb);clear HO_1194000 HO_1194001 HO_1205000 HO_1205001;have HO_1194000:=g9;have HO_1194001:=h0;have HO_1205000:=h1;have HO_1205001:=h2;clear g9 h0 h1 h2 hb e2 d7)|((with_reducible refine gate_dst (N:=8) rfl ?_);(try(refine gate_guard (by rfl) ?_;dsimp only));refine box_event ?hg (N:=8) ?hd (cs:= #[.slice none 0 0,.slice none 0 0]) (t:=26) ?hr ?_;(case hd=>rfl);(case hg=>rfl);(case hr=> exact zq10);intro a0 hg i9 hbox hb;replace HO_1194000:=zqm (Kd.S_below (zqfS HO_1194000.out) hb);replace HO_1194001:=zqm (Kd.R_below (zqfR HO_1194001.out) hb);replace HO_1194002:=zqm (Kd.R_below (Kd.R_elderB (zqfR HO_1194002.out) a0 (Nat.le_of_eq hg.symm)) hb);replace HO_1205000:=zqm (Kd.S_below (zqfS HO_1205000.out) hb);replace HO_1205001:=zqm (Kd.R_below (zqfR HO_1205001.out) hb);replace HO_1205002:=zqm (Kd.R_below (Kd.R_elderB (zqfR HO_1205002.out) a0 (Nat.le_of_eq hg.symm)) hb);replace d2:=zqm (Kd.S_below (zqfS d2.out) hb);replace d3:=zqm (Kd.R_below (zqfR d3.out) hb);have h3:=zqm (blk_below (g:=a3) (o:= .cells #[.slice c4 a6.length b8,.slice b6 a5.length b1,.slice c9 b0.length c7] 56 (0,0)) (zqe a1.out) hb);have h4:=zqm (blk_below (g:=a2) (o:= .cells #[.slice c5 a9.length b9,.slice b7 a7.length b4,.slice d1 b5.length d0] 56 (0,0)) (zqe a4.out) hb);have g7:=zqm (below_step zq1 hb);have a8:=zqm (hbox);have h8:=zqm ((by rw [hg];exact(below_size zq1):w.heap.size≤a0));have e6:=zqm ((by rw [hg];exact(below_size zq1):w.heap.size≤a0));have d5:=zqm ((by rw [hg];exact Nat.ne_of_lt (blk_lt (g:=a3) (o:= .cells #[.slice c4 a6.length b8,.slice b6 a5.length b1,.slice c9 b0.length c7] 56 (0,0)) (zqe a1.out)):a3≠a0));have e4:=zqm ((by rw [hg];exact Nat.ne_of_gt (blk_lt (g:=a3) (o:= .cells #[.slice c4 a6.length b8,.slice b6 a5.length b1,.slice c9 b0.length c7] 56 (0,0)) (zqe a1.out)):a0≠a3));have d6:=zqm ((by rw [hg];exact Nat.ne_of_lt (blk_lt (g:=a2) (o:= .cells #[.slice c5 a9.length b9,.slice b7 a7.length b4,.slice d1 b5.length d0] 56 (0,0)) (zqe a4.out)):a2≠a0));have e5:=zqm ((by rw [hg];exact Nat.ne_of_gt (blk_lt (g:=a2) (o:= .cells #[.slice c5 a9.length b9,.slice b7 a7.length b4,.slice d1 b5.length d0] 56 (0,0)) (zqe a4.out)):a0≠a2));clear a1 a4 HB;have a1:=h3;have a4:=h4;have HB:=g7;clear h3 h4 g7 hb hbox hg;obtain⟨f9,g3,r3⟩:=Kd.S_slice d2.out;subst r3;have a0p:=e4.out;have a1g:=d5.out;have a0q:=e5.out;have a1h:=d6.out;have u0:i9.cell? ⟨a0,0,none⟩=some (.slice none 0 0):=(blk_cell a8.out 0).trans rfl;have u1:i9.cell? ⟨a0,1,none⟩=some (.slice none 0 0):=(blk_cell a8.out 1).trans rfl;have y3:=blk_frozen a8.out 0;have y4:=blk_frozen a8.out 1;obtain⟨g0,g4,r4⟩:=Kd.R_slice d3.out;subst r4;have a0r:=d4.out;have a1i:=e1.out;have u2:i9.cell? ⟨a3,0,none⟩=some (.slice c4 a6.length b8):=(blk_cell a1.out 0).trans rfl;have u3:i9.cell? ⟨a3,1,none⟩=some (.slice b6 a5.length b1):=(blk_cell a1.out 1).trans rfl;have u4:i9.cell? ⟨a3,2,none⟩=some (.slice c9 b0.length c7):=(blk_cell a1.out 2).trans rfl;have y5:=blk_frozen a1.out 0;have y6:=blk_frozen a1.out 1;have y7:=blk_frozen a1.out 2)|((with_reducible refine gate_callee (f:=60) rfl ?_);refine goesL_ (some 47) rfl rfl Try.func60 zqk rfl #[.agg #[.slice c4 a6.length b8,.slice b6 a5.length b1,.slice c9 b0.length c7]] rfl zq2 ?_;(with_reducible refine(impl_DeskOk.calls _ _ a6 _ _ a5 _ _ b0 true _ ?side1 ?side2 ?side3 ?side4 ?side5 ?side6 j3.out).mono ?_);(case side1=>refine(Kd.S_reads' (e:=24) (base:=w.heap.size) (ok:=fun k_=>(((some k_≠(.slice b6 a5.length b1:Value).ownBlock∧(some k_≠(.slice c5 a9.length b9:Value).ownBlock∧some k_≠(.slice b7 a7.length b4:Value).ownBlock))∧some k_≠(.slice f9 b2.length g3:Value).ownBlock)∧some k_≠(.slice g0 b3.length g4:Value).ownBlock)) (n:=a6.length) (c:=b8) ?_).2.2;exact zq67);(case side2=> exact zq96);(case side3=>refine(Kd.R_reads' (e:=3) (base:=w.heap.size) (ok:=fun k_=>(some k_≠(.slice b7 a7.length b4:Value).ownBlock∧some k_≠(.slice g0 b3.length g4:Value).ownBlock)) (n:=a5.length) (c:=b1) ?_).2.2;exact zq63);(case side4=> exact zq95);(case side5=>refine(Kd.R_reads' (e:=26) (base:=w.heap.size) (ok:=fun k_=>((((some k_≠(.slice c4 a6.length b8:Value).ownBlock∧(some k_≠(.slice b6 a5.length b1:Value).ownBlock∧(some k_≠(.slice c5 a9.length b9:Value).ownBlock∧(some k_≠(.slice b7 a7.length b4:Value).ownBlock∧some k_≠(.slice d1 b5.length d0:Value).ownBlock))))∧some k_≠(.slice f9 b2.length g3:Value).ownBlock)∧some k_≠(.slice g0 b3.length g4:Value).ownBlock)∧k_≠a0)) (n:=b0.length) (c:=c7) ?_).2.2;exact zq56);(case side6=> exact zq103);rintro e w75 ⟨rfl,hb⟩;refine⟨_,rfl,?_⟩;replace HO_1194000:=zqm (Kd.S_below zq67 hb);replace HO_1194001:=zqm (Kd.R_below zq63 hb);replace HO_1194002:=zqm (Kd.R_below zq56 hb);replace HO_1205000:=zqm (Kd.S_below (by refine zqfS ?_;exact(Kd.S_mono (Kd.S_far (p:=⟨a0,1,none⟩) (Kd.S_far (p:=⟨a0,0,none⟩) (Kd.S_types HO_1205000.out a8.out (by decide)) (fun _ hk=>hk.2) (.slice f9 b2.length g3)) (fun _ hk=>hk.2) (.slice g0 b3.length g4)) (fun _ h_=>h_.1))) hb);replace HO_1205001:=zqm (Kd.R_below (by refine zqfR ?_;exact(Kd.R_mono (Kd.R_far (p:=⟨a0,1,none⟩) (Kd.R_far (p:=⟨a0,0,none⟩) (Kd.R_types HO_1205001.out a8.out (by decide)) (fun _ hk=>hk.2) (.slice f9 b2.length g3)) (fun _ hk=>hk.2) (.slice g0 b3.length g4)) (fun _ h_=>h_.1))) hb);replace HO_1205002:=zqm (Kd.R_below (by refine zqfR ?_;exact(Kd.R_mono (Kd.R_far (p:=⟨a0,1,none⟩) (Kd.R_far (p:=⟨a0,0,none⟩) (Kd.R_mono HO_1205002.out (fun k_ hk=>(⟨hk,hk.2⟩:_∧k_≠a0))) (fun _ hk=>hk.2) (.slice f9 b2.length g3)) (fun _ hk=>hk.2) (.slice g0 b3.length g4)) (fun _ h_=>h_.1))) hb);replace d2:=zqm (Kd.S_below (by refine zqfS ?_;exact(Kd.S_mono (Kd.S_far (p:=⟨a0,1,none⟩) (Kd.S_far (p:=⟨a0,0,none⟩) (Kd.S_types d2.out a8.out (by decide)) (fun _ hk=>hk.2) (.slice f9 b2.length g3)) (fun _ hk=>hk.2) (.slice g0 b3.length g4)) (fun _ h_=>h_.1))) hb);replace d3:=zqm (Kd.R_below (by refine zqfR ?_;exact(Kd.R_mono (Kd.R_far (p:=⟨a0,1,none⟩) (Kd.R_far (p:=⟨a0,0,none⟩) (Kd.R_types d3.out a8.out (by decide)) (fun _ hk=>hk.2) (.slice f9 b2.length g3)) (fun _ hk=>hk.2) (.slice g0 b3.length g4)) (fun _ h_=>h_.1))) hb);replace a1:=zqm (blk_below (g:=a3) (o:= .cells #[.slice c4 a6.length b8,.slice b6 a5.length b1,.slice c9 b0.length c7] 56 (0,0)) zq72 hb);replace a4:=zqm (blk_below (g:=a2) (o:= .cells #[.slice c5 a9.length b9,.slice b7 a7.length b4,.slice d1 b5.length d0] 56 (0,0)) zq73 hb);replace a8:=zqm (blk_below (g:=a0) (o:= .cells #[.slice f9 b2.length g3,.slice g0 b3.length g4] 26 (0,0)) (by refine zqe ?_;refine blk_put (cs:= #[.slice f9 b2.length g3,.slice none 0 0]) ?_ 1 _ rfl;refine zqe ?_;refine blk_put (cs:= #[.slice none 0 0,.slice none 0 0]) ?_ 0 _ rfl;refine zqe ?_;exact a8.out) hb);replace HB:=zqm (below_step zq9 hb);clear hb))
        go_ret
        exact⟨zq8,zq9⟩
      ·replace j6:=Bool.eq_false_iff.mpr j6;subst j6;rw [if_neg (show¬(false=true) by decide)] at H;obtain rfl:=Option.some.inj H
       go_wp2_with (first|((with_reducible refine gate_callee (f:=46) rfl ?_);refine goesL_ (some 43) rfl rfl Try.func46 zqk rfl #[.int .i64 e3] rfl zq2 ?_;(with_reducible refine(impl_SetsOf.calls e3 b2 b3 k1 _ j2.out).mono ?_);rintro e w76 ⟨i1,i2,rfl,e2,d7,hb⟩;refine⟨_,rfl,?_⟩;have g9:=zqm (Kd.S_mono (Kd.S_told (Kd.S_told (Kd.S_old (zqfS HO_1194000.out) hb) (Kd.S_base e2)) (Kd.R_base d7)) (fun _ h_=>h_.1));have h0:=zqm (Kd.R_elder' (zqfR HO_1194001.out) (Kd.R_base d7) hb);replace HO_1194002:=zqm (Kd.R_mono (Kd.R_told (Kd.R_told (Kd.R_old (zqfR HO_1194002.out) hb) (Kd.S_base e2)) (Kd.R_base d7)) (fun _ h_=>h_.1));have h1:=zqm (Kd.S_mono (Kd.S_told (Kd.S_told (Kd.S_old (zqfS HO_1205000.out) hb) (Kd.S_base e2)) (Kd.R_base d7)) (fun _ h_=>h_.1));have h2:=zqm (Kd.R_elder' (zqfR HO_1205001.out) (Kd.R_base d7) hb);replace HO_1205002:=zqm (Kd.R_mono (Kd.R_told (Kd.R_told (Kd.R_old (zqfR HO_1205002.out) hb) (Kd.S_base e2)) (Kd.R_base d7)) (fun _ h_=>h_.1));have d2:=zqm (Kd.S_lower (Kd.S_new' (Kd.S_new' (Kd.S_new' (Kd.S_new' e2 (Kd.S_lt (zqfS HO_1194000.out))) (Kd.R_lt (zqfR HO_1194001.out))) (Kd.S_lt (zqfS HO_1205000.out))) (Kd.R_lt (zqfR HO_1205001.out))) (below_size zq1));have d3:=zqm (Kd.R_lower (Kd.R_new' (Kd.R_new' d7 (Kd.R_lt (zqfR HO_1194001.out))) (Kd.R_lt (zqfR HO_1205001.out))) (below_size zq1));replace a1:=zqm (blk_below (g:=a3) (o:= .cells #[.slice c4 a6.length b8,.slice b6 a5.length b1,.slice c9 b0.length c7] 56 (0,0)) (zqe a1.out) hb);replace a4:=zqm (blk_below (g:=a2) (o:= .cells #[.slice c5 a9.length b9,.slice b7 a7.length b4,.slice d1 b5.length d0] 56 (0,0)) (zqe a4.out) hb);replace HB:=zqm (below_step zq1 hb);clear HO_1194000 HO_1194001 HO_1205000 HO_1205001;have HO_1194000:=g9;have HO_1194001:=h0;have HO_1205000:=h1;have HO_1205001:=h2;clear g9 h0 h1 h2 hb e2 d7)|((with_reducible refine gate_dst (N:=8) rfl ?_);(try(refine gate_guard (by rfl) ?_;dsimp only));refine box_event ?hg (N:=8) ?hd (cs:= #[.slice none 0 0,.slice none 0 0]) (t:=26) ?hr ?_;(case hd=>rfl);(case hg=>rfl);(case hr=> exact zq10);intro a0 hg j1 hbox hb;replace HO_1194000:=zqm (Kd.S_below (zqfS HO_1194000.out) hb);replace HO_1194001:=zqm (Kd.R_below (zqfR HO_1194001.out) hb);replace HO_1194002:=zqm (Kd.R_below (Kd.R_elderB (zqfR HO_1194002.out) a0 (Nat.le_of_eq hg.symm)) hb);replace HO_1205000:=zqm (Kd.S_below (zqfS HO_1205000.out) hb);replace HO_1205001:=zqm (Kd.R_below (zqfR HO_1205001.out) hb);replace HO_1205002:=zqm (Kd.R_below (Kd.R_elderB (zqfR HO_1205002.out) a0 (Nat.le_of_eq hg.symm)) hb);replace d2:=zqm (Kd.S_below (zqfS d2.out) hb);replace d3:=zqm (Kd.R_below (zqfR d3.out) hb);have h3:=zqm (blk_below (g:=a3) (o:= .cells #[.slice c4 a6.length b8,.slice b6 a5.length b1,.slice c9 b0.length c7] 56 (0,0)) (zqe a1.out) hb);have h4:=zqm (blk_below (g:=a2) (o:= .cells #[.slice c5 a9.length b9,.slice b7 a7.length b4,.slice d1 b5.length d0] 56 (0,0)) (zqe a4.out) hb);have g7:=zqm (below_step zq1 hb);have a8:=zqm (hbox);have h8:=zqm ((by rw [hg];exact(below_size zq1):w.heap.size≤a0));have e6:=zqm ((by rw [hg];exact(below_size zq1):w.heap.size≤a0));have d5:=zqm ((by rw [hg];exact Nat.ne_of_lt (blk_lt (g:=a3) (o:= .cells #[.slice c4 a6.length b8,.slice b6 a5.length b1,.slice c9 b0.length c7] 56 (0,0)) (zqe a1.out)):a3≠a0));have e4:=zqm ((by rw [hg];exact Nat.ne_of_gt (blk_lt (g:=a3) (o:= .cells #[.slice c4 a6.length b8,.slice b6 a5.length b1,.slice c9 b0.length c7] 56 (0,0)) (zqe a1.out)):a0≠a3));have d6:=zqm ((by rw [hg];exact Nat.ne_of_lt (blk_lt (g:=a2) (o:= .cells #[.slice c5 a9.length b9,.slice b7 a7.length b4,.slice d1 b5.length d0] 56 (0,0)) (zqe a4.out)):a2≠a0));have e5:=zqm ((by rw [hg];exact Nat.ne_of_gt (blk_lt (g:=a2) (o:= .cells #[.slice c5 a9.length b9,.slice b7 a7.length b4,.slice d1 b5.length d0] 56 (0,0)) (zqe a4.out)):a0≠a2));clear a1 a4 HB;have a1:=h3;have a4:=h4;have HB:=g7;clear h3 h4 g7 hb hbox hg;obtain⟨g1,g5,r5⟩:=Kd.S_slice d2.out;subst r5;have a0s:=e4.out;have a1j:=d5.out;have a0t:=e5.out;have a1k:=d6.out;have u5:j1.cell? ⟨a0,0,none⟩=some (.slice none 0 0):=(blk_cell a8.out 0).trans rfl;have u6:j1.cell? ⟨a0,1,none⟩=some (.slice none 0 0):=(blk_cell a8.out 1).trans rfl;have y8:=blk_frozen a8.out 0;have y9:=blk_frozen a8.out 1;obtain⟨g2,g6,r6⟩:=Kd.R_slice d3.out;subst r6;have a0u:=d4.out;have a1l:=e1.out;have u7:j1.cell? ⟨a3,0,none⟩=some (.slice c4 a6.length b8):=(blk_cell a1.out 0).trans rfl;have u9:j1.cell? ⟨a3,1,none⟩=some (.slice b6 a5.length b1):=(blk_cell a1.out 1).trans rfl;have v0:j1.cell? ⟨a3,2,none⟩=some (.slice c9 b0.length c7):=(blk_cell a1.out 2).trans rfl;have z0:=blk_frozen a1.out 0;have z1:=blk_frozen a1.out 1;have z2:=blk_frozen a1.out 2)|((with_reducible refine gate_callee (f:=60) rfl ?_);refine goesL_ (some 47) rfl rfl Try.func60 zqk rfl #[.agg #[.slice c4 a6.length b8,.slice b6 a5.length b1,.slice c9 b0.length c7]] rfl zq2 ?_;(with_reducible refine(impl_DeskOk.calls _ _ a6 _ _ a5 _ _ b0 false _ ?side1 ?side2 ?side3 ?side4 ?side5 ?side6 j3.out).mono ?_);(case side1=>refine(Kd.S_reads' (e:=24) (base:=w.heap.size) (ok:=fun k_=>(((some k_≠(.slice b6 a5.length b1:Value).ownBlock∧(some k_≠(.slice c5 a9.length b9:Value).ownBlock∧some k_≠(.slice b7 a7.length b4:Value).ownBlock))∧some k_≠(.slice g1 b2.length g5:Value).ownBlock)∧some k_≠(.slice g2 b3.length g6:Value).ownBlock)) (n:=a6.length) (c:=b8) ?_).2.2;exact zq68);(case side2=> exact zq96);(case side3=>refine(Kd.R_reads' (e:=3) (base:=w.heap.size) (ok:=fun k_=>(some k_≠(.slice b7 a7.length b4:Value).ownBlock∧some k_≠(.slice g2 b3.length g6:Value).ownBlock)) (n:=a5.length) (c:=b1) ?_).2.2;exact zq64);(case side4=> exact zq95);(case side5=>refine(Kd.R_reads' (e:=26) (base:=w.heap.size) (ok:=fun k_=>((((some k_≠(.slice c4 a6.length b8:Value).ownBlock∧(some k_≠(.slice b6 a5.length b1:Value).ownBlock∧(some k_≠(.slice c5 a9.length b9:Value).ownBlock∧(some k_≠(.slice b7 a7.length b4:Value).ownBlock∧some k_≠(.slice d1 b5.length d0:Value).ownBlock))))∧some k_≠(.slice g1 b2.length g5:Value).ownBlock)∧some k_≠(.slice g2 b3.length g6:Value).ownBlock)∧k_≠a0)) (n:=b0.length) (c:=c7) ?_).2.2;exact zq57);(case side6=> exact zq103);rintro e w85 ⟨rfl,hb⟩;refine⟨_,rfl,?_⟩;replace HO_1194000:=zqm (Kd.S_below zq68 hb);replace HO_1194001:=zqm (Kd.R_below zq64 hb);replace HO_1194002:=zqm (Kd.R_below zq57 hb);replace HO_1205000:=zqm (Kd.S_below (by refine zqfS ?_;exact(Kd.S_mono (Kd.S_far (p:=⟨a0,1,none⟩) (Kd.S_far (p:=⟨a0,0,none⟩) (Kd.S_types HO_1205000.out a8.out (by decide)) (fun _ hk=>hk.2) (.slice g1 b2.length g5)) (fun _ hk=>hk.2) (.slice g2 b3.length g6)) (fun _ h_=>h_.1))) hb);replace HO_1205001:=zqm (Kd.R_below (by refine zqfR ?_;exact(Kd.R_mono (Kd.R_far (p:=⟨a0,1,none⟩) (Kd.R_far (p:=⟨a0,0,none⟩) (Kd.R_types HO_1205001.out a8.out (by decide)) (fun _ hk=>hk.2) (.slice g1 b2.length g5)) (fun _ hk=>hk.2) (.slice g2 b3.length g6)) (fun _ h_=>h_.1))) hb);replace HO_1205002:=zqm (Kd.R_below (by refine zqfR ?_;exact(Kd.R_mono (Kd.R_far (p:=⟨a0,1,none⟩) (Kd.R_far (p:=⟨a0,0,none⟩) (Kd.R_mono HO_1205002.out (fun k_ hk=>(⟨hk,hk.2⟩:_∧k_≠a0))) (fun _ hk=>hk.2) (.slice g1 b2.length g5)) (fun _ hk=>hk.2) (.slice g2 b3.length g6)) (fun _ h_=>h_.1))) hb);replace d2:=zqm (Kd.S_below (by refine zqfS ?_;exact(Kd.S_mono (Kd.S_far (p:=⟨a0,1,none⟩) (Kd.S_far (p:=⟨a0,0,none⟩) (Kd.S_types d2.out a8.out (by decide)) (fun _ hk=>hk.2) (.slice g1 b2.length g5)) (fun _ hk=>hk.2) (.slice g2 b3.length g6)) (fun _ h_=>h_.1))) hb);replace d3:=zqm (Kd.R_below (by refine zqfR ?_;exact(Kd.R_mono (Kd.R_far (p:=⟨a0,1,none⟩) (Kd.R_far (p:=⟨a0,0,none⟩) (Kd.R_types d3.out a8.out (by decide)) (fun _ hk=>hk.2) (.slice g1 b2.length g5)) (fun _ hk=>hk.2) (.slice g2 b3.length g6)) (fun _ h_=>h_.1))) hb);replace a1:=zqm (blk_below (g:=a3) (o:= .cells #[.slice c4 a6.length b8,.slice b6 a5.length b1,.slice c9 b0.length c7] 56 (0,0)) zq72 hb);replace a4:=zqm (blk_below (g:=a2) (o:= .cells #[.slice c5 a9.length b9,.slice b7 a7.length b4,.slice d1 b5.length d0] 56 (0,0)) zq73 hb);replace a8:=zqm (blk_below (g:=a0) (o:= .cells #[.slice g1 b2.length g5,.slice g2 b3.length g6] 26 (0,0)) (by refine zqe ?_;refine blk_put (cs:= #[.slice g1 b2.length g5,.slice none 0 0]) ?_ 1 _ rfl;refine zqe ?_;refine blk_put (cs:= #[.slice none 0 0,.slice none 0 0]) ?_ 0 _ rfl;refine zqe ?_;exact a8.out) hb);replace HB:=zqm (below_step zq9 hb);clear hb))
       go_ret
       exact⟨zq8,zq9⟩
     ·replace j5:=Bool.eq_false_iff.mpr j5;subst j5;rw [if_neg (show¬(false=true) by decide)] at H;replace H:=Option.bind_eq_some_iff.mp H;obtain⟨p1,o3,H⟩:=H;(try dsimp only at H);have p9:=zqm o3;clear o3
      by_cases j9:p1=true
      ·subst j9;rw [if_pos rfl] at H;replace H:=Option.bind_eq_some_iff.mp H;obtain⟨p3,o4,H⟩:=H;(try dsimp only at H);have z9:=zqm o4;clear o4;obtain rfl:=Option.some.inj H;have a0v:=d4.out;have a1m:=e1.out;have v1:wc.cell? ⟨a3,0,none⟩=some (.slice c4 a6.length b8):=(blk_cell a1.out 0).trans rfl;have v2:wc.cell? ⟨a3,1,none⟩=some (.slice b6 a5.length b1):=(blk_cell a1.out 1).trans rfl;have v3:wc.cell? ⟨a3,2,none⟩=some (.slice c9 b0.length c7):=(blk_cell a1.out 2).trans rfl;have z3:=blk_frozen a1.out 0;have z4:=blk_frozen a1.out 1;have z5:=blk_frozen a1.out 2
       go_wp2_with (first|((with_reducible refine gate_callee (f:=66) rfl ?_);refine goesL_ (some 37) rfl rfl Try.func66 zqk rfl #[.agg #[.slice c4 a6.length b8,.slice b6 a5.length b1,.slice c9 b0.length c7]] rfl zq2 ?_;(with_reducible refine(laws_noDesk.calls i4 _ _ a6 _ _ a5 _ _ b0 true _ ?side1 ?side2 ?side3 ?side4 ?side5 ?side6 p9.out).mono ?_);(case side1=> exact zq47);(case side2=> exact zq96);(case side3=> exact zq46);(case side4=> exact zq95);(case side5=> exact zq83);(case side6=> exact zq103);rintro e w91 ⟨rfl,hb⟩;refine⟨_,rfl,?_⟩;replace HO_1194000:=zqm (Kd.S_below (zqfS HO_1194000.out) hb);replace HO_1194001:=zqm (Kd.R_below (zqfR HO_1194001.out) hb);replace HO_1194002:=zqm (Kd.R_below (zqfR HO_1194002.out) hb);replace HO_1205000:=zqm (Kd.S_below (zqfS HO_1205000.out) hb);replace HO_1205001:=zqm (Kd.R_below (zqfR HO_1205001.out) hb);replace HO_1205002:=zqm (Kd.R_below (zqfR HO_1205002.out) hb);replace a1:=zqm (blk_below (g:=a3) (o:= .cells #[.slice c4 a6.length b8,.slice b6 a5.length b1,.slice c9 b0.length c7] 56 (0,0)) (zqe a1.out) hb);replace a4:=zqm (blk_below (g:=a2) (o:= .cells #[.slice c5 a9.length b9,.slice b7 a7.length b4,.slice d1 b5.length d0] 56 (0,0)) (zqe a4.out) hb);replace HB:=zqm (below_step zq1 hb);clear hb)|(go_at_call 18;(with_reducible refine(laws_alive.calls i4 p3 _ z9.out).mono ?_);rintro e w92 ⟨rfl,hb⟩;replace HO_1194000:=zqm (Kd.S_below (zqfS HO_1194000.out) hb);replace HO_1194001:=zqm (Kd.R_below (zqfR HO_1194001.out) hb);replace HO_1194002:=zqm (Kd.R_below (zqfR HO_1194002.out) hb);replace HO_1205000:=zqm (Kd.S_below (zqfS HO_1205000.out) hb);replace HO_1205001:=zqm (Kd.R_below (zqfR HO_1205001.out) hb);replace HO_1205002:=zqm (Kd.R_below (zqfR HO_1205002.out) hb);replace a1:=zqm (blk_below (g:=a3) (o:= .cells #[.slice c4 a6.length b8,.slice b6 a5.length b1,.slice c9 b0.length c7] 56 (0,0)) (zqe a1.out) hb);replace a4:=zqm (blk_below (g:=a2) (o:= .cells #[.slice c5 a9.length b9,.slice b7 a7.length b4,.slice d1 b5.length d0] 56 (0,0)) (zqe a4.out) hb);replace HB:=zqm (below_step zq1 hb);clear hb))
       go_ret
       exact⟨zq8,zq1⟩
      ·replace j9:=Bool.eq_false_iff.mpr j9;subst j9;rw [if_neg (show¬(false=true) by decide)] at H;obtain rfl:=Option.some.inj H;have a0w:=d4.out;have a1n:=e1.out;have v4:wc.cell? ⟨a3,0,none⟩=some (.slice c4 a6.length b8):=(blk_cell a1.out 0).trans rfl;have v5:wc.cell? ⟨a3,1,none⟩=some (.slice b6 a5.length b1):=(blk_cell a1.out 1).trans rfl;have v6:wc.cell? ⟨a3,2,none⟩=some (.slice c9 b0.length c7):=(blk_cell a1.out 2).trans rfl;have z6:=blk_frozen a1.out 0;have z7:=blk_frozen a1.out 1;have z8:=blk_frozen a1.out 2
       go_wp2_with (first|((with_reducible refine gate_callee (f:=66) rfl ?_);refine goesL_ (some 37) rfl rfl Try.func66 zqk rfl #[.agg #[.slice c4 a6.length b8,.slice b6 a5.length b1,.slice c9 b0.length c7]] rfl zq2 ?_;(with_reducible refine(laws_noDesk.calls i4 _ _ a6 _ _ a5 _ _ b0 false _ ?side1 ?side2 ?side3 ?side4 ?side5 ?side6 p9.out).mono ?_);(case side1=> exact zq47);(case side2=> exact zq96);(case side3=> exact zq46);(case side4=> exact zq95);(case side5=> exact zq83);(case side6=> exact zq103);rintro e w95 ⟨rfl,hb⟩;refine⟨_,rfl,?_⟩;replace HO_1194000:=zqm (Kd.S_below (zqfS HO_1194000.out) hb);replace HO_1194001:=zqm (Kd.R_below (zqfR HO_1194001.out) hb);replace HO_1194002:=zqm (Kd.R_below (zqfR HO_1194002.out) hb);replace HO_1205000:=zqm (Kd.S_below (zqfS HO_1205000.out) hb);replace HO_1205001:=zqm (Kd.R_below (zqfR HO_1205001.out) hb);replace HO_1205002:=zqm (Kd.R_below (zqfR HO_1205002.out) hb);replace a1:=zqm (blk_below (g:=a3) (o:= .cells #[.slice c4 a6.length b8,.slice b6 a5.length b1,.slice c9 b0.length c7] 56 (0,0)) (zqe a1.out) hb);replace a4:=zqm (blk_below (g:=a2) (o:= .cells #[.slice c5 a9.length b9,.slice b7 a7.length b4,.slice d1 b5.length d0] 56 (0,0)) (zqe a4.out) hb);replace HB:=zqm (below_step zq1 hb);clear hb))
       go_ret
       exact⟨zq8,zq1⟩
def laws_FnDeskNew.Pure : Prop := ∀ (l0 : List Int), l0.length ≤ maxLen → l0.length * 1 ≤ 140737488351232 → (∀ x ∈ l0, (Lit.int .u8 x).wf = true) → ∃ k, laws_FnDeskNew.f k l0 = some true
theorem laws_FnDeskNew.walk (P : laws_FnDeskNew.Pure) (a0 : Option Addr) (len0 cap0 : Nat) (z0 : List Int) (w : World) (w0 : (a0 = none ∧ len0 = 0 ∧ cap0 = 0 ∧ z0 = []) ∨ ∃ x, a0 = some x ∧ len0 ≤ cap0 ∧ cap0 ≤ maxLen ∧ z0.length = cap0 ∧ (∀ i, i < z0.length → w.cell? (x.add i) = some (.int .u8 (z0.getD i 0))) ∧ ∀ n ∈ z0, (Lit.int .u8 n).wf = true) (y0 : len0 * 1 ≤ 140737488351232) :
  Calls Try.prog 13 #[.slice a0 len0 cap0] w fun e w' => e = .returned (.bool true) ∧ Below w.heap.size w w' := by
 obtain ⟨l0, rfl, hr0, hm0, hw0, hc0⟩ := ReadsInt.ofRowC w0
 obtain ⟨k, h⟩ := P l0 hm0 y0 hw0
 refine (laws_FnDeskNew.calls k _ _ l0 true w (Kd.C_of_reads (d := (0 : Int)) (h1 := fun _ => rfl) hr0) hc0 h).mono ?_
 rintro e w' ⟨rfl, hd⟩
 exact ⟨rfl, hd⟩
end
end Go.Proofs.Ytcbjpdaogicibaa.Print
end
section
namespace Go.Proofs.Ytcbjpdaogicibaa.Print
open Go.RowKit Go.Proofs.YtcbjpdaogicibaaW.PrintWords Go.Proofs.YtcbjpdaogicibaaW.PrintLast Go.Proofs.YtcbjpdaogicibaaW.PrintMore
open Oml
def Bytes (b : List Int) : Prop := ∀ x ∈ b, 0 ≤ x ∧ x ≤ 255
theorem bytes_rd {b : List Int} (h : Bytes b) (i : Int) : 0 ≤ rd b i ∧ rd b i ≤ 255 := by
 by_cases hi:i.toNat<b.length
 ·have e:rd b i=b[i.toNat]:=by
   show b.getD i.toNat 0=_
   rw [List.getD_eq_getElem?_getD,List.getElem?_eq_getElem hi];rfl
  rw [e]
  exact h _ (List.getElem_mem hi)
 ·have e:rd b i=0:=by
   show b.getD i.toNat 0=_
   rw [List.getD_eq_getElem?_getD,List.getElem?_eq_none (by omega)];rfl
  rw [e];omega
theorem ofInt_nat' (a : Nat) (ha : a < 18446744073709551616) : (BitVec.ofInt 64 (a : Int)).toNat = a := by
 rw [BitVec.ofInt_natCast, BitVec.toNat_ofNat]; exact Nat.mod_eq_of_lt (by omega)
theorem bxor_nat (a b : Nat) (ha : a < 4611686018427387904) (hb : b < 4611686018427387904) : Go.bits .xor .i64 (a : Int) (b : Int) = ((a ^^^ b : Nat) : Int) := by
 have hx:a ^^^ b<2 ^ 62:=Nat.xor_lt_two_pow (by omega) (by omega)
 show IntKind.i64.wrap ((BitVec.ofInt 64 (a:Int) ^^^ BitVec.ofInt 64 (b:Int)).toNat:Int)=_
 rw [BitVec.toNat_xor,ofInt_nat' a (by omega),ofInt_nat' b (by omega),i64_w]
 unfold wrap64;omega
theorem pick_mod {x n : Int} (hx : 0 ≤ x) (hn : 1 ≤ n) : 0 ≤ Int.tmod x n ∧ Int.tmod x n < n := by
 rw [Int.tmod_eq_emod_of_nonneg hx]
 exact⟨Int.emod_nonneg _ (by omega),Int.emod_lt_of_pos _ (by omega)⟩
theorem wrap_pos {x : Int} (h : 0 ≤ x) (h2 : x ≤ 4611686018427387904) : wrap64 x = x := by unfold wrap64; omega
theorem pick_ev {b : List Int} (hb : Bytes b) (hl : b.length ≤ 2000) {p : Int} (h0 : 0 ≤ p) (h1 : p ≤ 1000000000) (n : Int) : ∃ v, Ev (fun k => spec_l20Rd_pick.f k b p n) (v, p + 1) ∧ 0 ≤ v ∧ (1 ≤ n → v < n) := by
 have w1:wrap64 (p+1)=p+1:=wrap_pos (by omega) (by omega)
 have w2:wrap64 (p+1 - 1)=p:=by rw [Int.add_sub_cancel];exact wrap_pos (by omega) (by omega)
 have hz:Ev (fun k=>spec_l20Rd_pick.j0 k n true b (p+1)) (0,p+1):=by
  refine Ev.succ ?_
  simp only [spec_l20Rd_pick.j0]
  repeat(with_reducible first|refine Ev.ip ?_|refine Ev.iq ?_)
  exact Ev.now _
 unfold spec_l20Rd_pick.f
 rw [w1]
 by_cases hn:n<1
 ·exact⟨0,Ev.ite_pos hn hz,by omega,fun h=>by omega⟩
 by_cases hlen:b.length=0
 ·refine⟨0,Ev.ite_neg hn ?_,by omega,fun h=>by omega⟩
  rw [show ((b.length:Int)==0)=true by rw [hlen];rfl]
  exact hz
 have hbf:((b.length:Int)==0)=false:=by rw [beq_eq_false_iff_ne];omega
 by_cases hp:p<(b.length:Int)
 ·obtain⟨r0,r1⟩:=bytes_rd hb p
  have hm:=pick_mod (x:=rd b p) (n:=n) r0 (by omega)
  refine⟨Int.tmod (rd b p) n,Ev.ite_neg hn ?_,hm.1,fun _=>hm.2⟩
  rw [hbf]
  refine Ev.succ ?_
  simp only [spec_l20Rd_pick.j0,w2]
  rw [wrap_pos (x:=rd b p) r0 (by omega)]
  refine Ev.ite_neg (by simp) (Ev.ite_pos hp (Ev.ite_pos h0 (Ev.ite_neg (by omega) (Ev.now _))))
 ·have m1:=pick_mod (x:=p) (n:=(b.length:Int)) h0 (by omega)
  have w3:wrap64 (wrap64 (p*7)+3)=p*7+3:=by
   rw [wrap_pos (x:=p*7) (by omega) (by omega)]
   exact wrap_pos (by omega) (by omega)
  have m2:=pick_mod (x:=p*7+3) (n:=(b.length:Int)) (by omega) (by omega)
  obtain⟨a0,a1⟩:=bytes_rd hb (Int.tmod p b.length)
  obtain⟨c0,c1⟩:=bytes_rd hb (Int.tmod (p*7+3) b.length)
  have hd:0≤Int.tdiv p b.length∧Int.tdiv p b.length≤p:=by
   rw [Int.tdiv_eq_ediv_of_nonneg h0]
   exact⟨Int.ediv_nonneg h0 (by omega),Int.ediv_le_self _ h0⟩
  generalize hA:rd b (Int.tmod p b.length)=A at a0 a1
  generalize hC:rd b (Int.tmod (p*7+3) b.length)=C at c0 c1
  generalize hD:Int.tdiv p b.length=D at hd
  obtain⟨x,hx⟩: ∃x:Nat,A*131+C*1117+p*29+D*53=(x:Int):=⟨(A*131+C*1117+p*29+D*53).toNat,by omega⟩
  have hx2:x≤1000000000000:=by omega
  obtain⟨y,hy⟩: ∃y:Nat,Int.tdiv (x:Int) 64=(y:Int):=⟨x / 64,by rw [Int.tdiv_eq_ediv_of_nonneg (by omega)];omega⟩
  have hy2:y≤1000000000000:=by
   have:Int.tdiv (x:Int) 64≤x:=by rw [Int.tdiv_eq_ediv_of_nonneg (by omega)];omega
   omega
  have hm:=pick_mod (x:=((x ^^^ y:Nat):Int)) (n:=n) (by omega) (by omega)
  refine⟨Int.tmod ((x ^^^ y:Nat):Int) n,Ev.ite_neg hn ?_,hm.1,fun _=>hm.2⟩
  rw [hbf]
  refine Ev.succ ?_
  simp only [spec_l20Rd_pick.j0,w2,w3,hA,hC,hD]
  rw [wrap_pos (x:=A) a0 (by omega),wrap_pos (x:=C) c0 (by omega),wrap_pos (x:=A*131) (by omega) (by omega),wrap_pos (x:=C*1117) (by omega) (by omega),wrap_pos (x:=A*131+C*1117) (by omega) (by omega),wrap_pos (x:=p*29) (by omega) (by omega),wrap_pos (x:=A*131+C*1117+p*29) (by omega) (by omega),wrap_pos (x:=D) hd.1 (by omega),wrap_pos (x:=D*53) (by omega) (by omega),wrap_pos (x:=A*131+C*1117+p*29+D*53) (by omega) (by omega),hx,hy,wrap_pos (x:=(y:Int)) (by omega) (by omega),bxor_nat x y (by omega) (by omega)]
  exact Ev.ite_neg (by simp) (Ev.ite_neg hp (Ev.ite_neg (by omega) (Ev.ite_pos m1.1 (Ev.ite_pos m1.2 (Ev.ite_pos m2.1 (Ev.ite_pos m2.2 (Ev.ite_neg (by omega) (Ev.now _))))))))
theorem open_ev {l : List Int} (h : Bytes l) : ∃ b, Bytes b ∧ b.length ≤ 2000 ∧ spec_l20Open.f l = some (b, 0) := by
 unfold spec_l20Open.f
 by_cases hl:(l.length:Int)>2000
 ·rw [if_pos hl,if_pos (by omega)]
  exact⟨l.take 2000,fun x hx=>h x (List.mem_of_mem_take hx),by rw [List.length_take];omega,rfl⟩
 ·rw [if_neg hl]
  exact⟨l,h,by omega,rfl⟩
end Go.Proofs.Ytcbjpdaogicibaa.Print
end
