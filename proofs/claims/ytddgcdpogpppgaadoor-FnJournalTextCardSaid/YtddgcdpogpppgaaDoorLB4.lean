/- Part 4 of what is common to several claims of this seat: RdL, JtL. -/
import Derived.Test.YtddgcdpogpppgaaDoorLB3
import Derived.Below
import Derived.Deep.Draws
import Derived.Deep.AppendLies
import Derived.Maps.AppendAt
import Derived.OwnWalk
import Derived.Laws.BytesArg
import Derived.Laws.MakeOwn
import Derived.Laws.OwnMore
import Derived.Deep.OwnRows
import Derived.Tactics
import Derived.Lib.ConvBytes
import Derived.Laws.Slices
import Derived.WalkKit
import Derived.KernelRfl
import Derived.RowKit3
import Derived.Deep.LoopGhost
import Derived.Deep.QuietTactic
import Derived.BigQuiet
import Derived.WideLaws
import Derived.Deep.DeepCutAuto
import Derived.Deep.CutBlock
import Derived.Deep.RegionHeld3
import Derived.Laws.Rows
import Derived.Lib.AppendStr
import Derived.ArgAppend
import Derived.Laws.IdiomCopy
import Derived.RowKit
import Derived.OrdersHeld
import Derived.Laws.BitsLemmas
import Derived.Laws.StructEq
import Derived.Test.YtddgcdpogpppgaaDoorProg
set_option linter.all false
section
namespace Go.Proofs.YtddgcdpogpppgaaDoor
section
variable {p : Prop}
open Go.RowKit Go.Proofs.YtddgcdpogpppgaaDoorW.PrintWords Go.Proofs.YtddgcdpogpppgaaDoorW.PrintLast
theorem zqm {p : Prop} (h : p) : Aside0 p := Aside0.mk h
theorem zqp {P : Program} {ops : Array Oper} {Q : Exit → Act → World → Prop} {md : Region.Mode} {S : World → Prop} {ds : List Nat} {T : Bool × List (List Nat × List Nat)} {oi : Oper} {v : Value} {fuel : Nat} {l : Array Bool} {a a' : Act} {w : World} (i n : Nat) (l' : Array Bool) (HT : Aside0 (rtab md ops = T)) (h : wpAnyLast P md ops Q S ds fuel l' a' w) (hi : ops[i]? = some oi := by exact rfl) (hN : oi.dst = some n := by exact rfl) (hc : anyT T l.toList l'.toList i = true := by kernel_rfl) (hQ : ∀ c a w, Q (.panic c) (a.put oi.dst v) w → Q (.panic c) a w := by exact fun _ _ _ h => h) (hw : Region.wanted oi (yielded ops a.tmps) = true := by rfl) (hr : ∀ w', (execOp a.eval oi).run P w' = .ok (.value v) w' := by intro w'; go_simp; with_reducible rfl) (ha : a.put (some n) v = a' := by simp only [Act.put, List.setIfInBounds_toArray, List.set_cons_zero, List.set_cons_succ, i64_w, i32_w]; rfl) : wpAnyLast P md ops Q S ds (fuel + 1) l a w :=
  pure_ l' hi hN (any_of HT.out hc) hQ (Or.inl ⟨hw, hr⟩) ha h
theorem zqw {P : Program} {ops : Array Oper} {Q : Exit → Act → World → Prop} {md : Region.Mode} {S : World → Prop} {ds : List Nat} {T : Bool × List (List Nat × List Nat)} {oi : Oper} {v : Value} {fuel : Nat} {l : Array Bool} {a a' : Act} {w : World} (i n : Nat) (l' : Array Bool) (HT : Aside0 (rtab md ops = T)) {B : List Nat} (HW : Aside0 (waitsOk T.2 B = true)) (hS : S w) (h : wpAnyLast P md ops Q S ds fuel l' a' w) (hi : ops[i]? = some oi := by exact rfl) (hN : oi.dst = some n := by exact rfl) (hc : takeW T B ds l.toList l'.toList i = true := by kernel_rfl) (hQ : ∀ c a w, Q (.panic c) (a.put oi.dst v) w → Q (.panic c) a w := by exact fun _ _ _ h => h) (hw : Region.wanted oi (yielded ops a.tmps) = true := by rfl) (hr : ∀ w', S w' → (execOp a.eval oi).run P w' = .ok (.value v) w' := by intro w' hs_; (repeat obtain ⟨_, hs_⟩ := hs_); go_simp; with_reducible rfl) (ha : a.put (some n) v = a' := by simp only [Act.put, List.setIfInBounds_toArray, List.set_cons_zero, List.set_cons_succ, i64_w, i32_w]; rfl) : wpAnyLast P md ops Q S ds (fuel + 1) l a w :=
  take_ l' hi hN (take_ofW HT.out HW.out hc) hQ (Or.inl ⟨hw, hr⟩) hS ha h
theorem zqe {p q : Prop} (a : p) (h : p → q := by intro h_; (with_reducible repeat (first | refine blk_drewN ?_ _ | refine blk_drew ?_ | refine blk_alloc ?_ _)); exact h_) : q := h a
theorem zqfS {p q : Prop} (a : p) (h : p → q := by intro h_; (with_reducible repeat (first | apply Kd.S_alloc | apply Kd.S_drewN | apply Kd.S_drew)); exact h_) : q := h a
theorem zqfR {p q : Prop} (a : p) (h : p → q := by intro h_; (with_reducible repeat (first | apply Kd.R_alloc | apply Kd.R_drewN | apply Kd.R_drew)); exact h_) : q := h a
theorem zqfQ {p q : Prop} (a : p) (h : p → q := by intro h_; (with_reducible repeat (first | apply Kd.Q_alloc | apply Kd.Q_drewN | apply Kd.Q_drew)); exact h_) : q := h a
theorem zqy {α : Type} {y z : α} {P Q : Prop} (h : y = z) (H : P) (k : y = z → P → Q := by intro h H; first | (rw [h]; with_reducible exact H) | (have hv := (Option.bind_some _ _).symm.trans H; rw [h]; with_reducible exact hv) | (have hv := (Option.bind_some _ _).symm.trans H; with_reducible exact hv) | with_reducible exact H | (rw [h]; exact H) | exact H) : Q := k h H
def zqb (n k : Nat) : Array Bool := ((List.range n).map fun i => Nat.testBit k i).toArray
theorem zqk (h:p:=by kernel_rfl):p:=h
theorem zqo [Decidable p] (h:decide p=true:=by first|(with_reducible assumption)|assumption):p:=of_decide_eq_true h
theorem zqs {p : Prop} (h : p := by simp only [Act.put, List.setIfInBounds_toArray, List.set_cons_zero, List.set_cons_succ, i64_w, i32_w]; rfl) : p := h
theorem zq0 (h:p:=by repeat(first|(with_reducible first|exact HK.out|apply KeepBut.set_|apply keep_drewN|apply keep_drew|apply keep_alloc|refine keep_far ?_ a9.out _|refine keep_far ?_ b0.out _)|exact HK.out)):p:=h
theorem zq1 (h:p:=by repeat(first|(with_reducible first|exact a2.out|apply IsS78.alloc|apply IsS78.drewN|apply IsS78.drew|apply IsS78.set_1|refine IsS78.far ?_ a7.out _|refine IsS78.far ?_ a6.out _)|exact a2.out)):p:=h
theorem zq2 (h:p:=by (try simp only [List.map_toArray,List.map_cons,List.map_nil]);first|done|rfl|(simp only [List.length_drop,List.length_take];rfl)):p:=h
theorem zq3 (h:p:=by repeat(first|(with_reducible first|exact HB.out|apply below_alloc|apply pw_below_drewN|apply below_drew1|refine below_set ?_ (IsS78.ge a2.out)|refine below_set ?_ b4.out|refine below_set ?_ b5.out)|exact HB.out)):p:=h
theorem zq4 (h:p:=by repeat(first|(with_reducible first|exact HB.out|apply below_alloc|apply pw_below_drewN|apply below_drew1|refine below_set ?_ b1.out|refine below_set ?_ b2.out|refine below_set ?_ b3.out|refine below_set ?_ b4.out)|exact HB.out)):p:=h
theorem zq5 (h:p:=by repeat(first|(with_reducible first|exact HB.out|apply below_alloc|apply pw_below_drewN|apply below_drew1)|exact HB.out)):p:=h
theorem zq6 (h:p:=by repeat(first|(with_reducible first|exact a1.out|apply IsS78.alloc|apply IsS78.drewN|apply IsS78.drew|apply IsS78.set_1|refine IsS78.far ?_ a7.out _|refine IsS78.far ?_ a8.out _|refine IsS78.far ?_ a9.out _)|exact a1.out)):p:=h
theorem zq7 (h:p:=by repeat(first|(with_reducible first|exact HK.out|apply KeepBut.set_|apply keep_drewN|apply keep_drew|apply keep_alloc|refine keep_far ?_ b2.out _|refine keep_far ?_ b4.out _|refine keep_far ?_ b7.out _)|exact HK.out)):p:=h
theorem zq8 (h:p:=by repeat(first|(with_reducible first|exact HB.out|apply below_alloc|apply pw_below_drewN|apply below_drew1|refine below_set ?_ (IsS78.ge a1.out)|refine below_set ?_ c3.out|refine below_set ?_ c6.out|refine below_set ?_ c0.out)|exact HB.out)):p:=h
theorem zq9 (h:p:=by repeat(first|(with_reducible first|exact a1.out|apply IsS78.alloc|apply IsS78.drewN|apply IsS78.drew|apply IsS78.set_1|refine IsS78.far ?_ a7.out _|refine IsS78.far ?_ a8.out _)|exact a1.out)):p:=h
theorem zq10 (h:p:=by first|(simp only [putAll,Act.put,List.setIfInBounds_toArray,List.set_cons_zero,List.set_cons_succ];done)|(simp only [putAll,Act.put,List.setIfInBounds_toArray,List.set_cons_zero,List.set_cons_succ];rfl)):p:=h
theorem zq11 (h:p:=by repeat(first|(with_reducible first|exact HK.out|apply KeepBut.set_|apply keep_drewN|apply keep_drew|apply keep_alloc|refine keep_far ?_ b2.out _|refine keep_far ?_ b4.out _)|exact HK.out)):p:=h
theorem zq12 (h:p:=by repeat(first|(with_reducible first|exact HB.out|apply below_alloc|apply pw_below_drewN|apply below_drew1|refine below_set ?_ a6.out|refine below_set ?_ a7.out)|exact HB.out)):p:=h
theorem zq13 (h:p:=by repeat(first|(with_reducible first|exact HB.out|apply below_alloc|apply pw_below_drewN|apply below_drew1|refine below_set ?_ (IsS78.ge a1.out)|refine below_set ?_ c3.out|refine below_set ?_ c6.out)|exact HB.out)):p:=h
theorem zq14 (h:p:=by repeat(first|(with_reducible first|exact HK.out|apply KeepBut.set_|apply keep_drewN|apply keep_drew|apply keep_alloc)|exact HK.out)):p:=h
theorem zq15 (h:p:=by first|rfl|(simp;done)|(simp [*];done)):p:=h
theorem zq16 (h:p:=by repeat(first|(with_reducible first|exact HB.out|apply below_alloc|apply pw_below_drewN|apply below_drew1|refine below_set ?_ (IsS78.ge a0.out))|exact HB.out)):p:=h
theorem zq17 (h:p:=by repeat(first|(with_reducible first|exact a0.out|apply IsS78.alloc|apply IsS78.drewN|apply IsS78.drew|apply IsS78.set_1)|exact a0.out)):p:=h
theorem zq18 (h:p:=by first|(go_simp;done)|(go_simp;rfl)):p:=h
theorem zq19 (h:p:=by repeat(first|(with_reducible first|exact HB.out|apply below_alloc|apply pw_below_drewN|apply below_drew1|refine below_set ?_ a2.out)|exact HB.out)):p:=h
theorem zq20 (h:p:=by exact(below_size (by repeat(first|(with_reducible first|exact HB.out|apply below_alloc|apply pw_below_drewN|apply below_drew1|refine below_set ?_ b1.out|refine below_set ?_ b2.out|refine below_set ?_ b3.out|refine below_set ?_ b4.out)|exact HB.out)))):p:=h
theorem zq21 (h:p:=by exact(by repeat(first|(with_reducible first|exact HB.out|apply below_alloc|apply pw_below_drewN|apply below_drew1|refine below_set ?_ b1.out|refine below_set ?_ b2.out|refine below_set ?_ b3.out|refine below_set ?_ b4.out)|exact HB.out))):p:=h
theorem zq23 (h:p:=by first|rfl|(simp [errW_none,errW_some] <;> rfl)|(simp [*,errW_none,errW_some] <;> rfl)):p:=h
theorem zq24 (h:p:=by exact(Reps.one (show Kd.M (Kd.int .i64) _ _ _ 0 [.int .i64 0] from rfl) (Reps.one (show Kd.M (Kd.int .i64) _ _ _ 0 [.int .i64 0] from rfl) (Reps.one (show Kd.M (Kd.int .i64) _ _ _ 1 [.int .i64 1] from rfl) (Reps.one (show Kd.M (Kd.int .i64) _ _ _ 2 [.int .i64 2] from rfl) (Reps.one (show Kd.M (Kd.int .i64) _ _ _ 3 [.int .i64 3] from rfl) (Reps.one (show Kd.M (Kd.int .i64) _ _ _ 3 [.int .i64 3] from rfl) (Reps.one (show Kd.M (Kd.int .i64) _ _ _ 4 [.int .i64 4] from rfl) (Reps.none _ _))))))))):p:=h
theorem zq25 (h:p:=by repeat(first|(with_reducible first|exact HB.out|apply below_alloc|apply pw_below_drewN|apply below_drew1|refine below_set ?_ b1.out|refine below_set ?_ b4.out|refine below_set ?_ b9.out)|exact HB.out)):p:=h
theorem zq26 (h:p:=by repeat(first|(with_reducible first|exact HB.out|apply below_alloc|apply pw_below_drewN|apply below_drew1|refine below_set ?_ GE.out)|exact HB.out)):p:=h
theorem zq27 (h:p:=by repeat(first|(with_reducible first|exact a2.out|apply IsS78.alloc|apply IsS78.drewN|apply IsS78.drew|apply IsS78.set_1)|exact a2.out)):p:=h
theorem zq28 (h:p:=by repeat(first|exact Drawn0.refl _|apply Drawn0.step)):p:=h
theorem zq29 (h:p:=by exact(below_size (by repeat(first|(with_reducible first|exact HB.out|apply below_alloc|apply pw_below_drewN|apply below_drew1|refine below_set ?_ a6.out|refine below_set ?_ a7.out)|exact HB.out)))):p:=h
theorem zq30 (h:p:=by exact(by repeat(first|(with_reducible first|exact HB.out|apply below_alloc|apply pw_below_drewN|apply below_drew1|refine below_set ?_ a6.out|refine below_set ?_ a7.out)|exact HB.out))):p:=h
theorem zq32 (h:p:=by repeat(first|exact HB.out|apply below_alloc|apply pw_below_drewN|apply below_drew1)):p:=h
theorem zq33 (h:p:=by repeat(first|(with_reducible first|exact HB.out|apply below_alloc|apply pw_below_drewN|apply below_drew1|refine below_set ?_ (IsS78.ge a2.out))|exact HB.out)):p:=h
theorem zq34 (h:p:=by repeat(first|(with_reducible first|exact HB.out|apply below_alloc|apply pw_below_drewN|apply below_drew1|refine below_set ?_ b1.out)|exact HB.out)):p:=h
theorem zq37 (h:p:=by repeat(first|(with_reducible first|exact HB.out|apply below_alloc|apply pw_below_drewN|apply below_drew1|refine below_set ?_ b1.out|refine below_set ?_ b4.out)|exact HB.out)):p:=h
theorem zq38 (h:p:=by (try simp only [List.map_toArray,List.map_cons,List.map_nil]);first|done|rfl):p:=h
theorem zq39 (h:p:=by refine zqe ?_;refine blk_put (cs:= #[.int .i64 0,.int .i64 0,.int .i64 0]) ?_ 2 _ rfl;refine blk_put (cs:= #[.int .i64 0,.int .i64 0,.int .i64 0]) ?_ 1 _ rfl;refine blk_put (cs:= #[.int .i64 0,.int .i64 0,.int .i64 0]) ?_ 0 _ rfl;refine zqe ?_;exact HR.out):p:=h
theorem zq40 (h:p:=by exact Kd.M_row (Kd.R_mono (Kd.R_tight rfl (Kd.R_mono (ok':=fun k_=>((fun k_=>some k_≠(a1:Value).ownBlock)) k_∧some k_≠(b0:Value).ownBlock) (Kd.R_apart' (HO_9.out) (Kd.S_typed HO_326000.out) (by decide)) (fun k_ hk=>⟨hk.1,hk.2⟩))) (fun _ h_=>h_))):p:=h
theorem zq41 (h:p:=by refine zqe ?_;refine blk_far ?_ b3.out _;refine zqe ?_;refine blk_far ?_ b3.out _;refine zqe ?_;exact a4.out):p:=h
theorem zq42 (h:p:=by have:=b2.out;have:=b3.out;have:=b6.out;have:=b5.out;omega):p:=h
theorem zq43 (h:p:=by repeat(first|(with_reducible first|exact HB.out|apply below_alloc|apply pw_below_drewN|apply below_drew1|refine below_set ?_ b1.out|refine below_set ?_ b5.out)|exact HB.out)):p:=h
theorem zq44 (h:p:=by repeat(first|exact HB2.out|apply pw_below_drewN|apply below_drew1|apply below_alloc)):p:=h
theorem zq45 (h:p:=by refine zqe ?_;refine blk_put (cs:= #[.int .i64 (wrap64 ((rd a4 b1)+(wrap64 ((wrap64 (Int.tdiv b6 59))*5)))),.int .i64 0,.int .i64 0]) ?_ 2 _ rfl;refine zqe ?_;refine blk_put (cs:= #[.int .i64 (wrap64 ((rd a4 b1)+(wrap64 ((wrap64 (Int.tdiv b6 59))*5)))),.int .i64 0,.int .i64 0]) ?_ 1 _ rfl;refine zqe ?_;refine blk_put (cs:= #[.int .i64 0,.int .i64 0,.int .i64 0]) ?_ 0 _ rfl;refine zqe ?_;exact b0.out):p:=h
theorem zq48 (h:p:=by repeat(first|exact HB.out|apply below_alloc|apply pw_below_drewN|apply below_drew1|refine below_set ?_ HRW.out)):p:=h
theorem zq49 (h:p:=by refine zqfS ?_;exact Kd.S_mono HO_326000.out (fun _ hk=>⟨hk.2,hk.1⟩)):p:=h
theorem zq50 (h:p:=by exact(below_size (by repeat(first|(with_reducible first|exact HB.out|apply below_alloc|apply pw_below_drewN|apply below_drew1)|exact HB.out)))):p:=h
theorem zq51 (h:p:=by exact(below_size (by repeat(first|(with_reducible first|exact HB.out|apply below_alloc|apply pw_below_drewN|apply below_drew1|refine below_set ?_ b1.out|refine below_set ?_ b4.out|refine below_set ?_ b9.out)|exact HB.out)))):p:=h
theorem zq52 (h:p:=by exact(by repeat(first|(with_reducible first|exact HB.out|apply below_alloc|apply pw_below_drewN|apply below_drew1)|exact HB.out))):p:=h
theorem zq53 (h:p:=by exact(by repeat(first|(with_reducible first|exact HB.out|apply below_alloc|apply pw_below_drewN|apply below_drew1|refine below_set ?_ b1.out|refine below_set ?_ b4.out|refine below_set ?_ b9.out)|exact HB.out))):p:=h
theorem zq54 (h:p:=by refine zqfS ?_;exact Kd.S_mono HO_367000.out (fun _ hk=>⟨trivial,hk⟩)):p:=h
theorem zq55 (h:p:=by refine zqfS ?_;exact Kd.S_mono HO_367000.out (fun _ hk=>hk.2)):p:=h
theorem zq56 (h:p:=by repeat(first|(with_reducible first|exact HB.out|apply below_alloc|apply pw_below_drewN|apply below_drew1|refine below_set ?_ b1.out|refine below_set ?_ b2.out|refine below_set ?_ b3.out)|exact HB.out)):p:=h
theorem zq57 (h:p:=by rw [hg];exact Nat.ne_of_lt (blk_lt HR.out)):p:=h
theorem zq58 (h:p:=by rw [hg];exact Nat.ne_of_lt (blk_lt HZ.out)):p:=h
theorem zq59 (h:p:=by exact(fun k_ hk=>Kd.fresh' (Kd.R_lt (zqfR HO_326001.out)) k_ hk)):p:=h
theorem zq60 (h:p:=by have:=b1.out;have:=b2.out;have:=e8.out;have:=b3.out;have:=h1.out;omega):p:=h
theorem zq61 (h:p:=by first|omega|exact Nat.le_refl _):p:=h
theorem zq62 (h:p:=by refine zqe ?_;refine blk_far ?_ c0.out _;refine zqe ?_;exact a2.out):p:=h
theorem zq63 (h:p:=by refine zqe ?_;refine blk_far ?_ c1.out _;refine zqe ?_;exact a4.out):p:=h
theorem zq64 (h:p:=by refine zqe ?_;refine blk_far ?_ c2.out _;refine zqe ?_;exact a7.out):p:=h
theorem zq65 (h:p:=by first|exact Kd.R_nil _ _ _ _ _|exact Kd.N_nil _ _ _ _ _|exact Kd.V_nil _ _ _ _ _|exact Kd.Q_nil _ _ _ _ _|exact Kd.S_nil _ _ _ _ _):p:=h
theorem zq66 (h:p:=by first|exact Kd.S_nil _ _ _ _ _|exact Kd.N_nil _ _ _ _ _|exact Kd.V_nil _ _ _ _ _|exact Kd.Q_nil _ _ _ _ _|exact Kd.R_nil _ _ _ _ _):p:=h
theorem zq67 (h:p:=by repeat(first|(with_reducible first|exact HB.out|apply below_alloc|apply pw_below_drewN|apply below_drew1|refine below_set ?_ b1.out|refine below_set ?_ b2.out)|exact HB.out)):p:=h
theorem zq69 (h:p:=by refine zqe ?_;refine blk_put (cs:= #[.int .i64 k,.int .i64 v1,.int .i64 0]) ?_ 2 _ rfl;refine blk_put (cs:= #[.int .i64 k,.int .i64 0,.int .i64 0]) ?_ 1 _ rfl;refine blk_put (cs:= #[.int .i64 0,.int .i64 0,.int .i64 0]) ?_ 0 _ rfl;refine zqe ?_;exact HR.out):p:=h
theorem zq70 (h:p:=by repeat(first|(with_reducible first|exact a1.out|apply IsS78.alloc|apply IsS78.drewN|apply IsS78.drew|apply IsS78.set_1|refine IsS78.far ?_ a7.out _)|exact a1.out)):p:=h
theorem zq71 (h:p:=by repeat(first|(with_reducible first|exact a2.out|apply IsS78.alloc|apply IsS78.drewN|apply IsS78.drew|apply IsS78.set_1|refine IsS78.far ?_ a7.out _)|exact a2.out)):p:=h
theorem zq72 (h:p:=by repeat(first|(with_reducible first|exact HBW.out|apply below_alloc|apply pw_below_drewN|apply below_drew1)|exact HBW.out)):p:=h
theorem zq73 (h:p:=by repeat(first|(with_reducible first|exact HK.out|apply KeepBut.set_|apply keep_drewN|apply keep_drew|apply keep_alloc|refine keep_far ?_ a9.out _)|exact HK.out)):p:=h
theorem zq74 (h:p:=by repeat(first|(with_reducible first|exact HK.out|apply KeepBut.set_|apply keep_drewN|apply keep_drew|apply keep_alloc|refine keep_far ?_ b2.out _)|exact HK.out)):p:=h
theorem zq75 (h:p:=by refine zqfS ?_;exact Kd.S_mono HO_434000.out (fun _ hk=>⟨hk.2,hk.1⟩)):p:=h
theorem zq76 (h:p:=by repeat(first|(with_reducible first|exact HB.out|apply below_alloc|apply pw_below_drewN|apply below_drew1|refine below_set ?_ (IsS78.ge HI0.out))|exact HB.out)):p:=h
theorem zq77 (h:p:=by have h_:=HW2.out.e0;simpa [Addr.add] using h_):p:=h
theorem zq78 (h:p:=by have h_:=HW2.out.e1;simpa [Addr.add] using h_):p:=h
theorem zq79 (h:p:=by have h_:=HW2.out.e2;simpa [Addr.add] using h_):p:=h
theorem zq80 (h:p:=by have h_:=HW2.out.e3;simpa [Addr.add] using h_):p:=h
theorem zq81 (h:p:=by have h_:=HW2.out.e4;simpa [Addr.add] using h_):p:=h
theorem zq82 (h:p:=by repeat(first|(with_reducible first|exact HB.out|apply below_alloc|apply pw_below_drewN|apply below_drew1|refine below_set ?_ a6.out)|exact HB.out)):p:=h
theorem zq83 (h:p:=by have:=b1.out;have:=b2.out;have:=e7.out;have:=b3.out;have:=g5.out;omega):p:=h
theorem zq84 (h:p:=by have:=d1.out;have:=d2.out;have:=d5.out;have:=e0.out;have:=g3.out;omega):p:=h
theorem zq85 (h:p:=by repeat(first|(with_reducible first|exact HI0.out|apply IsS78.alloc|apply IsS78.drewN|apply IsS78.drew|apply IsS78.set_1)|exact HI0.out)):p:=h
theorem zq86 (h:p:=by repeat(first|(with_reducible first|exact a1.out|apply IsS78.alloc|apply IsS78.drewN|apply IsS78.drew|apply IsS78.set_1)|exact a1.out)):p:=h
theorem zq87 (h:p:=by refine zqe ?_;refine blk_put (cs:= #[.slice none 0 0,.slice none 0 0]) ?_ 1 _ rfl;refine zqe ?_;refine blk_put (cs:= #[.slice none 0 0,.slice none 0 0]) ?_ 0 _ rfl;refine zqe ?_;exact a0.out):p:=h
theorem zq88 (h:p:=by refine zqe ?_;refine blk_put (cs:= #[.slice none 0 0,.slice none 0 0]) ?_ 1 _ rfl;refine zqe ?_;refine blk_put (cs:= #[.slice none 0 0,.slice none 0 0]) ?_ 0 _ rfl;refine zqe ?_;exact a1.out):p:=h
theorem zq89 (h:p:=by refine zqfR ?_;exact Kd.R_mono HO_326001.out (fun _ hk=>hk.2)):p:=h
theorem zq90 (h:p:=by exact(by refine zqfS ?_;exact Kd.S_mono HO_326000.out (fun k_ hk=>⟨hk.2,fun e_=>hk.1 e_⟩))):p:=h
theorem zq91 (h:p:=by rw [hg];exact HB.out.size):p:=h
theorem zq92 (h:p:=by refine zqfR ?_;exact Kd.R_mono HO_326001.out (fun _ hk=>⟨trivial,hk⟩)):p:=h
theorem zq93 (h:p:=by have:=i8.out;have:=o3.out;first|omega|exact Nat.le_refl _):p:=h
theorem zq94 (h:p:=by refine zqe ?_;refine blk_put (cs:= #[.int .i64 (wrap64 ((rd a4 b1)+(wrap64 ((wrap64 (Int.tdiv b6 59))*5)))),.int .i64 0,.int .i64 0]) ?_ 1 _ rfl;refine zqe ?_;exact b0.out):p:=h
theorem zq96 (h:p:=by refine zqe ?_;refine blk_put (cs:= #[b0,a1]) ?_ 0 _ rfl;refine zqe ?_;exact a0.out):p:=h
theorem zq97 (h:p:=by exact(Reps.one (show Kd.M (Kd.int .u8) _ _ _ ((wrap64 (48+(Int.tmod a0 10))) % 256) [.int .u8 ((wrap64 (48+(Int.tmod a0 10))) % 256)] from rfl) (Reps.none _ _))):p:=h
theorem zq99 (h:p:=by repeat(first|exact(Kd.N_reads' a0.out).2.2|(with_reducible refine Kd.C_alloc ?_ _)|(with_reducible refine Kd.C_drewN ?_ _)|(with_reducible refine Kd.C_drew ?_))):p:=h
theorem zq101 (h:p:=by repeat(first|exact(Kd.R_reads' d2.out).2.2|(with_reducible refine Kd.C_alloc ?_ _)|(with_reducible refine Kd.C_drewN ?_ _)|(with_reducible refine Kd.C_drew ?_))):p:=h
theorem zq103 (h:p:=by rw [← hN];exact Nat.ne_of_lt (blk_lt HR.out)):p:=h
theorem zq104 (h:p:=by first|rfl|(simp [errW_none,errW_some] <;> rfl)|(simp only [← a7];first|rfl|(simp [errW_none,errW_some] <;> rfl))|(simp [*,errW_none,errW_some] <;> rfl)):p:=h
theorem zq105 (h:p:=by first|rfl|(simp [errW_none,errW_some] <;> rfl)|(simp only [← h0];first|rfl|(simp [errW_none,errW_some] <;> rfl))|(simp [*,errW_none,errW_some] <;> rfl)):p:=h
theorem zq106 (h:p:=by (try simp only [List.map_toArray,List.map_cons,List.map_nil]);first|done|(simp only [h0];rfl)|rfl|(simp only [List.length_drop,List.length_take];rfl)):p:=h
theorem zq107 (h:p:=by refine zqe ?_;refine blk_far ?_ b3.out _;refine zqe ?_;refine blk_far ?_ b3.out _;refine zqe ?_;refine blk_far ?_ b3.out _;refine zqe ?_;exact a2.out):p:=h
theorem zq108 (h:p:=by refine zqe ?_;refine blk_far ?_ b5.out _;refine zqe ?_;refine blk_far ?_ b5.out _;refine zqe ?_;refine blk_far ?_ b5.out _;refine zqe ?_;exact a3.out):p:=h
theorem zq109 (h:p:=by (with_reducible repeat(first|apply Kd.N_alloc|apply Kd.N_drewN|apply Kd.N_drew));exact a0.out):p:=h
theorem zq110 (h:p:=by simp only [putAll,Act.put,List.setIfInBounds_toArray,List.set_cons_zero,List.set_cons_succ]):p:=h
theorem zq111 (h:p:=by have:=d1.out;have:=d2.out;have:=d5.out;have:=e0.out;first|omega|exact Nat.le_refl _):p:=h
theorem zq112 (h:p:=by have:=d1.out;have:=d2.out;omega):p:=h
theorem zq113 (h:p:=by refine zqfQ ?_;exact Kd.Q_mono HO_434001.out (fun _ hk=>hk.2)):p:=h
theorem zq114 (h:p:=by exact(fun k_ hk=>⟨Kd.fresh' (Kd.R_lt (zqfR HO_5.out)) k_ hk,Kd.fresh' (Kd.R_lt (zqfR HO_413001.out)) k_ hk⟩)):p:=h
theorem zq115 (h:p:=by have:=b2.out;have:=b3.out;have:=b6.out;first|omega|exact Nat.le_refl _):p:=h
theorem zq116 (h:p:=by refine zqfQ ?_;exact Kd.Q_mono HO_434001.out (fun _ hk=>⟨trivial,hk⟩)):p:=h
theorem zq117 (h:p:=by refine zqe ?_;refine blk_far ?_ b3.out _;refine zqe ?_;exact a2.out):p:=h
theorem zq118 (h:p:=by refine zqe ?_;refine blk_far ?_ b5.out _;refine zqe ?_;exact a3.out):p:=h
theorem zq120 (h:p:=by refine zqfR ?_;exact Kd.R_mono HO_5.out (fun _ hk=>⟨hk.2,hk.1⟩)):p:=h
theorem zq121 (h:p:=by rw [← hN];exact HB.out.size):p:=h
theorem zq122 (h:p:=by have:=b0.out;have:=b1.out;omega):p:=h
theorem zq123 (h:p:=by have:=t4.out;have:=t5.out;have:=HK3.out;omega):p:=h
theorem zq125 (h:p:=by exact(Reps.one (show Kd.M (Kd.int .i64) _ _ _ 1 [.int .i64 1] from rfl) (Reps.none _ _))):p:=h
theorem zq126 (h:p:=by have:=e4.out;have:=j1.out;have:=j2.out;omega):p:=h
theorem zq128 (h:p:=by have:=b2.out;have:=b3.out;first|omega|exact Nat.le_refl _):p:=h
theorem zq129 (h:p:=by have:=d8.out;have:=h8.out;first|omega|exact Nat.le_refl _):p:=h
theorem zq130 (h:p:=by refine zqfS ?_;exact Kd.S_mono HO_3.out (fun _ hk=>hk.2)):p:=h
theorem zq132 (h:p:=by have:=b1.out;have:=b2.out;have:=e7.out;have:=b3.out;first|omega|exact Nat.le_refl _):p:=h
theorem zq133 (h:p:=by refine zqfS ?_;exact Kd.S_mono HO_413000.out (fun _ hk=>⟨hk.1.1,⟨hk.2,hk.1.2⟩⟩)):p:=h
theorem zq134 (h:p:=by rw [MakeChecks.laidMetH_plain _ _ _ zqk];exact laidMet_laidAll _ zqk zqk):p:=h
theorem zq135 (h:p:=by have:=d1.out;have:=d2.out;have:=d5.out;first|omega|exact Nat.le_refl _):p:=h
theorem zq137 (h:p:=by refine zqe ?_;refine blk_far ?_ b7.out _;refine zqe ?_;exact a2.out):p:=h
theorem zq138 (h:p:=by refine zqe ?_;refine blk_far ?_ b8.out _;refine zqe ?_;exact a4.out):p:=h
theorem zq139 (h:p:=by have:=d8.out;first|omega|exact Nat.le_refl _):p:=h
theorem zq140 (h:p:=by have:=i8.out;first|omega|exact Nat.le_refl _):p:=h
theorem zq141 (h:p:=by have:=l0.out;first|omega|exact Nat.le_refl _):p:=h
end
end Go.Proofs.YtddgcdpogpppgaaDoor
end
section
namespace Go.Proofs.YtddgcdpogpppgaaDoor.Print
open Go.RowKit Go.Proofs.YtddgcdpogpppgaaDoorW.PrintWords Go.Proofs.YtddgcdpogpppgaaDoorW.PrintLast Go.Proofs.YtddgcdpogpppgaaDoorW.PrintMore
section
attribute [local go_sem] max2_int min2_int max_two min_two max_three min_three max_four min_four
def errW : Option Int → Value
 | none => .nilIface
 | some c => .iface 87 (.int .i64 c)
theorem errW_none : errW none = .nilIface := rfl
theorem errW_some (c : Int) : errW (some c) = .iface 87 (.int .i64 c) := rfl
theorem info3 : (Tryd.prog.info? 3).map (fun i => (i.zero, i.size, i.bytes)) = some (some (.int .i64 0), 1, 8) := by kernel_rfl
theorem info5 : (Tryd.prog.info? 5).map (fun i => (i.zero, i.size, i.bytes)) = some (some (.int .u8 0), 1, 1) := by kernel_rfl
theorem info25 : (Tryd.prog.info? 25).map (fun i => (i.zero, i.size, i.bytes)) = some (some (.agg #[(.int .i64 0), (.int .i64 0), (.int .i64 0)]), 3, 24) := by kernel_rfl
theorem info66 : (Tryd.prog.info? 66).map (fun i => (i.zero, i.size, i.bytes)) = some (some (.slice none 0 0), 1, 24) := by kernel_rfl
structure S25 where
 f0 : Int
 f1 : Int
 f2 : Int
def z25 : S25 := ⟨(0 : Int), (0 : Int), (0 : Int)⟩
def k25 : Kd S25 := Kd.iso (Kd.pair (Kd.int .i64) (Kd.pair (Kd.int .i64) (Kd.int .i64))) (fun x : S25 => (x.f0, x.f1, x.f2))
theorem k25_open {w : World} {x : S25} {cs : List Value} (h : k25.K w x cs) : cs = [.int .i64 x.f0, .int .i64 x.f1, .int .i64 x.f2] := by
 obtain ⟨_, _, rfl, rfl, ⟨_, _, rfl, rfl, rfl⟩⟩ := h
 exact rfl
theorem k25_mkM (w : World) (base : Nat) (ok : Nat → Prop) (x : S25)  : k25.M w base ok x [.int .i64 x.f0, .int .i64 x.f1, .int .i64 x.f2] := ⟨[.int .i64 x.f0], [.int .i64 x.f1, .int .i64 x.f2], rfl, rfl, ⟨[.int .i64 x.f1], [.int .i64 x.f2], rfl, rfl, rfl⟩⟩
def rd_T25 (xs : List S25) (i : Int) : S25 := xs.getD i.toNat z25
theorem at_T25 {w : World} {A : Option Addr} {n : Nat} {xs : List S25} (h : Kd.C k25 w A n xs) (i : Int) (h0 : 0 ≤ i) (h1 : i < n) : ∃ ad , A = some ad ∧ w.cell? (ad.add (i.toNat * 3)) = some (.int .i64 (rd_T25 xs i).f0) ∧ w.cell? ⟨(ad.add (i.toNat * 3)).block, (ad.add (i.toNat * 3)).off + 1, none⟩ = some (.int .i64 (rd_T25 xs i).f1) ∧ w.cell? ⟨(ad.add (i.toNat * 3)).block, (ad.add (i.toNat * 3)).off + 2, none⟩ = some (.int .i64 (rd_T25 xs i).f2) := by
 obtain ⟨ad, c, e, _, hK, hc0⟩ := Kd.C_get h z25 i h0 h1
 have hc : ∀ j u, c[j]? = some u → w.cell? (ad.add (i.toNat * 3 + j)) = some u := hc0
 obtain rfl := k25_open hK
 exact ⟨ad, e, hc 0 _ rfl, by rw [← add_field _ _ 1 (by omega)]; exact hc 1 _ rfl, by rw [← add_field _ _ 2 (by omega)]; exact hc 2 _ rfl⟩
def rd_L5 (xs : List (List Int)) (i : Int) : (List Int) := xs.getD i.toNat ([] : List Int)
theorem at_L5 {w : World} {A : Option Addr} {n : Nat} {xs : List (List Int)} (h : Kd.C (Kd.slice 3 (Kd.int .i64)) w A n xs) (i : Int) (h0 : 0 ≤ i) (h1 : i < n) : ∃ ad A0 c0, A = some ad ∧ w.cell? (ad.add i.toNat) = some (.slice A0 (rd_L5 xs i).length c0) ∧ (rd_L5 xs i).length ≤ c0 ∧ (Kd.int .i64).C w A0 (rd_L5 xs i).length (rd_L5 xs i) := by
 obtain ⟨ad, c, e, _, hK, hc0⟩ := Kd.C_get h ([] : List Int) i h0 h1
 have hc : ∀ j u, c[j]? = some u → w.cell? (ad.add (i.toNat * 1 + j)) = some u := hc0
 obtain ⟨A0, c0, rfl, l0, g0⟩ := hK
 exact ⟨ad, A0, c0, e, by have hq := hc 0 _ rfl; rwa [Nat.mul_one, Nat.add_zero] at hq, l0, g0⟩
end
end Go.Proofs.YtddgcdpogpppgaaDoor.Print
end
section
namespace Go.Proofs.YtddgcdpogpppgaaDoor.Print
open Go.RowKit Go.Proofs.YtddgcdpogpppgaaDoorW.PrintWords Go.Proofs.YtddgcdpogpppgaaDoorW.PrintLast Go.Proofs.YtddgcdpogpppgaaDoorW.PrintMore
open Oml
theorem Ev.eq {α : Type} {g : Nat → Option α} {r r' : α} (h : Ev g r) (e : r = r') : Ev g r' := e ▸ h
theorem wrap_nat {i : Nat} (h : i < 4611686018427387904) : wrap64 ((i : Int) + 1) = ((i + 1 : Nat) : Int) := by unfold wrap64; omega
theorem Ev.succ {α : Type} {g : Nat → Option α} {r : α} (h : Ev (fun k => g (k + 1)) r) : Ev g r := Ev.step (fun _ => rfl) h
theorem Ev.ite_pos {α : Type} {c : Prop} [Decidable c] {a b : Nat → Option α} {r : α} (h : c) (k : Ev a r) : Ev (fun n => if c then a n else b n) r := by simpa only [if_pos h] using k
theorem Ev.ite_neg {α : Type} {c : Prop} [Decidable c] {a b : Nat → Option α} {r : α} (h : ¬ c) (k : Ev b r) : Ev (fun n => if c then a n else b n) r := by simpa only [if_neg h] using k
theorem Ev.ip {α : Type} {c : Prop} [Decidable c] {a b : Nat → Option α} {r : α} (k : Ev a r) (h : c := by first | assumption | (focus omega) | (simp <;> fail)) : Ev (fun n => if c then a n else b n) r := Ev.ite_pos h k
theorem Ev.iq {α : Type} {c : Prop} [Decidable c] {a b : Nat → Option α} {r : α} (k : Ev b r) (h : ¬ c := by first | assumption | (focus omega) | (simp <;> fail)) : Ev (fun n => if c then a n else b n) r := Ev.ite_neg h k
theorem Ev.pure {α : Type} {o : Option α} {r : α} (h : o = some r) : Ev (fun _ => o) r := h ▸ Ev.now r
theorem Ev.pbind {α β : Type} {g : Option α} {f : Nat → α → Option β} {a : α} {r : β} (h : g = some a) (k : Ev (fun n => f n a) r) : Ev (fun n => g.bind (f n)) r := Ev.bind (g := fun _ => g) (Ev.pure h) k
theorem Ev.loop {σ ρ : Type} {g : Nat → σ → Int → Option ρ} (n : Nat) (I : Nat → σ → Prop) {R : ρ} (hn : n < 4611686018427387904) (hend : ∀ s, I n s → Ev (fun k => g k s (n : Int)) R)
 (hstep: ∀i s,i<n→I i s→ ∃s',I (i+1) s'∧(Ev (fun k=>g k s' (wrap64 ((i:Int)+1))) R→Ev (fun k=>g k s (i:Int)) R)): ∀s,I 0 s→Ev (fun k=>g k s 0) R:=by
 have key: ∀d i,i+d=n→ ∀s,I i s→Ev (fun k=>g k s (i:Int)) R:=by
  intro d
  induction d with
  |zero=>
   intro i hi s hs
   obtain rfl:i=n:=by omega
   exact hend s hs
  |succ d ih=>
   intro i hi s hs
   obtain⟨s',h1,h2⟩:=hstep i s (by omega) hs
   refine h2 ?_
   rw [wrap_nat (by omega)]
   exact ih (i+1) (by omega) s' h1
 exact fun s hs=>key n 0 (by omega) s hs
theorem rdL_nat (U : List (List Int)) (i : Nat) : rd_L5 U (i : Int) = U.getD i [] := by simp [rd_L5]
end Go.Proofs.YtddgcdpogpppgaaDoor.Print
end
section
namespace Go.Proofs.YtddgcdpogpppgaaDoor.Print
open Go.RowKit Go.Proofs.YtddgcdpogpppgaaDoorW.PrintWords Go.Proofs.YtddgcdpogpppgaaDoorW.PrintLast Go.Proofs.YtddgcdpogpppgaaDoorW.PrintMore
section
attribute [local go_sem] max2_int min2_int max_two min_two max_three min_three max_four min_four
def spec_l1Number.f : Nat → Int → Option (ByteArray)
 | 0, _ => none
 | k + 1, a0 => if a0 < 10 then (some (strOfNums (([(wrap64 (48 + (mx a0 0))) % 256] : List Int)))) else ((spec_l1Number.f k (wrap64 (Int.tdiv a0 10))).bind fun t104 => ((some (([(wrap64 (48 + (Int.tmod a0 10))) % 256] : List Int) : List Int)).bind fun y105 => (if t104.size + (strOfNums y105).size ≤ 9223372036854775807 then (some (t104 ++ (strOfNums y105))) else (none))))
theorem spec_l1Number.mono_l : ∀ k, (∀ y0, LeO (spec_l1Number.f k y0) (spec_l1Number.f (k + 1) y0))
 | 0 => fun _ r h => by simp [spec_l1Number.f] at h
 | k + 1 => by
  have ih0 := spec_l1Number.mono_l k
  ·intro y0
   unfold spec_l1Number.f
   repeat' first
   | (with_reducible exact ih0 _)
   | (with_reducible exact LeO.refl _)
   | (with_reducible exact LeO.none _)
   | (with_reducible refine LeO.ite ?_ ?_)
   | (with_reducible refine LeO.bind ?_ (fun _ => ?_))
   | exact ih0 _
   | exact LeO.none _
   | refine LeO.ite ?_ ?_
   | refine LeO.bind ?_ (fun _ => ?_)
theorem spec_l1Number.mono : ∀ a0 k, LeO (spec_l1Number.f k a0) (spec_l1Number.f (k + 1) a0) := by
 intro a0 k
 have ih0 := spec_l1Number.mono_l k
 exact ih0 a0
def spec_l1Number.T3 : Bool × List (List Nat × List Nat) := (true, [([], []), ([0], [0]), ([1], [1]), ([], []), ([3], [3]), ([4], [4]), ([5], [5]), ([6], [6]), ([7], [7]), ([2, 8], [2, 8]), ([9, 2, 0, 1, 2, 3, 4, 5, 6, 7, 8, 9], [9])])
def spec_l1Number.B3 : List Nat := [0, 1, 3, 0, 8, 24, 56, 120, 248, 511, 1023]
theorem spec_l1Number.tab3 : rtab .any (opsOf Tryd.f31 3) = spec_l1Number.T3 := by kernel_rfl
theorem spec_l1Number.bits3 : waitsOk spec_l1Number.T3.2 spec_l1Number.B3 = true := by kernel_rfl
set_option maxHeartbeats 8000000 in
set_option maxRecDepth 100000 in
theorem spec_l1Number.calls (k : Nat) : ∀ (a0 : Int) (r : ByteArray) (w : World) (h : spec_l1Number.f k a0 = some r),
  Calls Tryd.prog 31 #[.int .i64 a0] w fun e w' => e = .returned (.string r) ∧ Below w.heap.size w w' := by
 induction k using Nat.strongRecOn with
 |_ k ih=>
 intro a0 r w h
 cases k with
 |zero=>exact absurd h (by simp [spec_l1Number.f])
 |succ k=>
 simp only [spec_l1Number.f] at h;have HB:=zqm (Below.refl w.heap.size w);have H:(if a0<10 then(some (strOfNums (([(wrap64 (48+(mx a0 0))) % 256]:List Int)))) else((spec_l1Number.f k (wrap64 (Int.tdiv a0 10))).bind fun a2=>((some (([(wrap64 (48+(Int.tmod a0 10))) % 256]:List Int):List Int)).bind fun a3=>(if a2.size+(strOfNums a3).size≤9223372036854775807 then(some (a2 ++ (strOfNums a3))) else(none)))))=some r:=h;clear h
 by_cases c2:a0<10
 ·rw [if_pos c2] at H;have b9:decide (a0<10)=true:=decide_eq_true c2;clear c2;obtain⟨a4,a7⟩: ∃j_:Int,(mx a0 0)=j_:=⟨_,rfl⟩;(replace H:(some (strOfNums (([(wrap64 (48+(a4))) % 256]:List Int))))=some r:=by first|(rw [a7] at H;exact H)|(simp only [a7] at H ⊢;exact H));(try(have hji3l:0≤a4:=by(rw [← a7];unfold mx;(repeat' split) <;> omega)));(try(have hji3m:0≤a4:=by omega));have c3:(if a0<0 then 0 else a0)=a4:=a7;obtain⟨c0,b0⟩: ∃y_:List Int,y_=(([(wrap64 (48+(a4))) % 256]:List Int)):=⟨_,rfl⟩;replace H:(some (strOfNums c0))=some r:=zqy b0 H;have b3:=zqm b0;clear b0;obtain rfl:=Option.some.inj H
  go_enter Tryd.func31,Tryd.ntmps31
  go_wp2_with (first|((with_reducible refine gate_dst (N:=9) rfl ?_);refine Kd.R_lit (Kd.int .u8) _ 5 ?hg (N:=9) ?hd (xs:=([(wrap64 (48+(a4))) % 256]:List Int)) (inner:= [.int .u8 ((wrap64 (48+(a4))) % 256)]) (ok:=fun _=>True) (okp:=fun _=>True) ?hr ?hp (fun _ hk=>hk) trivial (Below.refl _ _) (Nat.le_refl _) (by simp) ?_;(case hd=>rfl);(case hg=>rfl);(case hr=> exact zq18);(case hp=>exact(Reps.one (show Kd.M (Kd.int .u8) _ _ _ ((wrap64 (48+(a4))) % 256) [.int .u8 ((wrap64 (48+(a4))) % 256)] from rfl) (Reps.none _ _)));intro c7 w4 b2 hb hg_ hnew_;clear hg_ hnew_;(first|rw [← b3.out] at b2|(simp only [Int.reduceToNat] at b2;rw [← b3.out] at b2));have b4:=zqm (Kd.R_lower b2 (below_size zq5));replace HB:=zqm (below_step zq5 hb);clear hb b2;have hcv6:=own_string (P:=Tryd.prog) Tryd.underlying42 Tryd.underlying5 Tryd.underlying9 (Kd.own_of_R b4.out)))
  go_ret
  exact⟨zq104,zq5⟩
 ·rw [if_neg c2] at H;have b9:decide (a0<10)=false:=decide_eq_false c2;clear c2;replace H:=Option.bind_eq_some_iff.mp H;obtain⟨a2,b5,H⟩:=H;(try dsimp only at H);have A7:=zqm b5;clear b5;obtain⟨a3,b1⟩: ∃y_:List Int,y_=(([(wrap64 (48+(Int.tmod a0 10))) % 256]:List Int)):=⟨_,rfl⟩;replace H:(if a2.size+(strOfNums a3).size≤9223372036854775807 then(some (a2 ++ (strOfNums a3))) else(none))=some r:=zqy b1 H;have a6:=zqm b1;clear b1
  by_cases c8:a2.size+(strOfNums a3).size≤9223372036854775807
  ·rw [if_pos c8] at H;have c4:=eq_true c8;have c5:decide (a2.size+(strOfNums a3).size≤9223372036854775807)=true:=decide_eq_true c8;(try have c6:(9223372036854775807<a2.size+(strOfNums a3).size)=False:=eq_false (Nat.not_lt.2 c8));obtain rfl:=Option.some.inj H
   go_enter Tryd.func31,Tryd.ntmps31
   (try go_wp2);replace HB:=zqm (below_drew1 HB.out);refine start_ (n:=11) (S:=fun w'=>True) (ds:= []) (zqb 11 0) zqk rfl rfl trivial (fun hHeld=>?_);refine with_tabW spec_l1Number.tab3 spec_l1Number.bits3 (fun HT_ HW_=>?_);generalize w.drew=w9 at HB hHeld ⊢;refine zqp 0 11 (zqb 11 1) HT_ ?_;refine zqp 1 12 (zqb 11 3) HT_ ?_;refine zqp 3 14 (zqb 11 11) HT_ ?_;refine zqp 4 15 (zqb 11 27) HT_ ?_;refine zqp 5 16 (zqb 11 59) HT_ ?_;refine zqp 6 17 (zqb 11 123) HT_ ?_;refine join_ (σ:=Value) 2 (zqb 11 511) (fun s_=> [(13,.string a2),(18,s_),(19,.string (strOfNums a3))]) (fun s_ w'=>(Kd.R (Kd.int .u8) 5 w' w.heap.size (fun _=>True) s_ a3)∧(Below w.heap.size w w')) ?_ ?_;rotate_left
   ·intro hCont;refine two_ (i:=2) (j:=7) (Ni:=some 13) (Nj:=some 18) (zqb 11 127) (zqb 11 251) rfl rfl rfl rfl (two_of HT_.out zqk) (by decide) (by decide) (fun K hK=>?_) (fun K hK=>?_)
    ·skip
     refine goes_ Tryd.func31 zqk rfl #[.int .i64 (wrap64 (Int.tdiv a0 10))] (by rfl) rfl rfl zq2 ?_;(with_reducible refine(ih k (by omega) (wrap64 (Int.tdiv a0 10)) a2 _ A7.out).mono ?_);rintro e c1 ⟨rfl,hb⟩;refine⟨_,rfl,?_⟩;replace HB:=zqm (below_step zq5 hb);clear hb;refine hK.out _ _ trivial (fun hHeld=>?_);clear hK K;refine norm_ (a':=?_) ?_ ?_;rotate_left
     ·show Act.put _ (some 13) _=_;exact zqs
     refine one_ (i:=7) (N:=some 18) (zqb 11 255) rfl rfl (one_of HT_.out zqk) (by decide) (fun K hK=>?_);refine Kd.R_lit_step (Kd.int .u8) _ 5 ?hg (N:=18) ?hd (xs:=([(wrap64 (48+(Int.tmod a0 10))) % 256]:List Int)) (inner:= [.int .u8 ((wrap64 (48+(Int.tmod a0 10))) % 256)]) (ok:=fun _=>True) (okp:=fun _=>True) ?hr ?hp (fun _ hk=>hk) trivial (Below.refl _ _) (Nat.le_refl _) (by simp) ?_;(case hd=>rfl);(case hg=>rfl);(case hr=> exact zq18);(case hp=> exact zq97);intro a5 c9 a9 hb hg_ hnew_;clear hg_ hnew_;(first|rw [← a6.out] at a9|(simp only [Int.reduceToNat] at a9;rw [← a6.out] at a9));have a1:=zqm (Kd.R_lower a9 (below_size zq5));replace HB:=zqm (below_step zq5 hb);clear hb a9;refine hK.out _ _ trivial (fun hHeld=>?_);clear hK K;refine norm_ (a':=?_) ?_ ?_;rotate_left
     ·show Act.put _ (some 18) _=_;exact zqs
     refine one_ (i:=8) (N:=some 19) (zqb 11 511) rfl rfl (one_of HT_.out zqk) (by decide) (fun K hK=>?_);have hcv13:=own_string (P:=Tryd.prog) Tryd.underlying42 Tryd.underlying5 Tryd.underlying9 (Kd.own_of_R a1.out);refine value_ (w1:=?_) (v:=?_) (by rfl) rfl ?_ ?_;rotate_left 2
     ·go_simp
      constructor
      ·rfl
      ·rfl
     clear hcv13;refine hK.out _ _ trivial (fun hHeld=>?_);clear hK K;refine norm_ (a':=?_) ?_ ?_;rotate_left
     ·show Act.put _ (some 19) _=_;exact zqs
     exact norm_ zq110 (hCont (a5) _ ⟨(zqfR a1.out),zq5⟩)
    ·skip
     refine Kd.R_lit_step (Kd.int .u8) _ 5 ?hg (N:=18) ?hd (xs:=([(wrap64 (48+(Int.tmod a0 10))) % 256]:List Int)) (inner:= [.int .u8 ((wrap64 (48+(Int.tmod a0 10))) % 256)]) (ok:=fun _=>True) (okp:=fun _=>True) ?hr ?hp (fun _ hk=>hk) trivial (Below.refl _ _) (Nat.le_refl _) (by simp) ?_;(case hd=>rfl);(case hg=>rfl);(case hr=> exact zq18);(case hp=> exact zq97);intro a5 c1 a8 hb hg_ hnew_;clear hg_ hnew_;(first|rw [← a6.out] at a8|(simp only [Int.reduceToNat] at a8;rw [← a6.out] at a8));have a1:=zqm (Kd.R_lower a8 (below_size zq5));replace HB:=zqm (below_step zq5 hb);clear hb a8;refine hK.out _ _ trivial (fun hHeld=>?_);clear hK K;refine norm_ (a':=?_) ?_ ?_;rotate_left
     ·show Act.put _ (some 18) _=_;exact zqs
     refine two_ (i:=2) (j:=8) (Ni:=some 13) (Nj:=some 19) (zqb 11 255) (zqb 11 507) rfl rfl rfl rfl (two_of HT_.out zqk) (by decide) (by decide) (fun K hK=>?_) (fun K hK=>?_)
     ·skip
      refine goes_ Tryd.func31 zqk rfl #[.int .i64 (wrap64 (Int.tdiv a0 10))] (by rfl) rfl rfl zq2 ?_;(with_reducible refine(ih k (by omega) (wrap64 (Int.tdiv a0 10)) a2 _ A7.out).mono ?_);rintro e d0 ⟨rfl,hb⟩;refine⟨_,rfl,?_⟩;replace a1:=zqm (Kd.R_below (zqfR a1.out) hb);replace HB:=zqm (below_step zq5 hb);clear hb;refine hK.out _ _ trivial (fun hHeld=>?_);clear hK K;refine norm_ (a':=?_) ?_ ?_;rotate_left
      ·show Act.put _ (some 13) _=_;exact zqs
      refine one_ (i:=8) (N:=some 19) (zqb 11 511) rfl rfl (one_of HT_.out zqk) (by decide) (fun K hK=>?_);have hcv13:=own_string (P:=Tryd.prog) Tryd.underlying42 Tryd.underlying5 Tryd.underlying9 (Kd.own_of_R a1.out);refine value_ (w1:=?_) (v:=?_) (by rfl) rfl ?_ ?_;rotate_left 2
      ·go_simp
       constructor
       ·rfl
       ·rfl
      clear hcv13;refine hK.out _ _ trivial (fun hHeld=>?_);clear hK K;refine norm_ (a':=?_) ?_ ?_;rotate_left
      ·show Act.put _ (some 19) _=_;exact zqs
      exact norm_ zq110 (hCont (a5) _ ⟨(zqfR a1.out),zq5⟩)
     ·skip
      have hcv12:=own_string (P:=Tryd.prog) Tryd.underlying42 Tryd.underlying5 Tryd.underlying9 (Kd.own_of_R a1.out);refine value_ (w1:=?_) (v:=?_) (by rfl) rfl ?_ ?_;rotate_left 2
      ·go_simp
       constructor
       ·rfl
       ·rfl
      clear hcv12;refine hK.out _ _ trivial (fun hHeld=>?_);clear hK K;refine norm_ (a':=?_) ?_ ?_;rotate_left
      ·show Act.put _ (some 19) _=_;exact zqs
      refine one_ (i:=2) (N:=some 13) (zqb 11 511) rfl rfl (one_of HT_.out zqk) (by decide) (fun K hK=>?_);refine goes_ Tryd.func31 zqk rfl #[.int .i64 (wrap64 (Int.tdiv a0 10))] (by rfl) rfl rfl zq2 ?_;(with_reducible refine(ih k (by omega) (wrap64 (Int.tdiv a0 10)) a2 _ A7.out).mono ?_);rintro e d1 ⟨rfl,hb⟩;refine⟨_,rfl,?_⟩;replace a1:=zqm (Kd.R_below (zqfR a1.out) hb);replace HB:=zqm (below_step zq5 hb);clear hb;refine hK.out _ _ trivial (fun hHeld=>?_);clear hK K;refine norm_ (a':=?_) ?_ ?_;rotate_left
      ·show Act.put _ (some 13) _=_;exact zqs
      exact norm_ zq110 (hCont (a5) _ ⟨(zqfR a1.out),zq5⟩)
   rintro a5 b8 ⟨h0_,h1_⟩;have b6:Aside0 (Kd.R (Kd.int .u8) 5 b8 w.heap.size (fun _=>True) a5 a3):=⟨h0_⟩;have b7:Aside0 (Below w.heap.size w b8):=⟨h1_⟩;clear HB h0_ h1_;have a1:=b6;have HB:=b7;clear b6 b7;have hHeld:=trivial;refine norm_ (a':=?_) ?_ ?_;rotate_left
   ·simp only [putAll,Act.put,List.setIfInBounds_toArray,List.set_cons_zero,List.set_cons_succ];rfl
   refine zqp 9 20 (zqb 11 1023) HT_ ?_;refine zqp 10 2 (zqb 11 2047) HT_ ?_;refine done_ (done_of HT_.out zqk) ?_;try go_wp2
   go_ret
   exact⟨zq23,zq5⟩
  ·rw [if_neg c8] at H;exact absurd H (by simp)
end
section
attribute [local go_sem] max2_int min2_int max_two min_two max_three min_three max_four min_four
def spec_l1In.f (a0 : Int) (a1 : Int) (a2 : Int) : Option (Bool) := if a0 ≥ a1 then (some (decide (a0 ≤ a2))) else (some false)
set_option maxHeartbeats 8000000 in
set_option maxRecDepth 100000 in
theorem spec_l1In.calls (a0 : Int) (a1 : Int) (a2 : Int) (r : Bool) (w : World) (h : spec_l1In.f a0 a1 a2 = some r) :
  Calls Tryd.prog 30 #[.int .i64 a0, .int .i64 a1, .int .i64 a2] w fun e w' => e = .returned (.bool r) ∧ Drawn0 w w' := by
 have H : (if a0 ≥ a1 then (some (decide (a0 ≤ a2))) else (some false)) = some r := h
 clear h
 by_cases c4 : a0 ≥ a1
 ·rw [if_pos c4] at H
  have c4b0 : decide (a1 ≤ a0) = true := decide_eq_true c4
  clear c4
  obtain rfl := Option.some.inj H
  go_enter Tryd.func30, Tryd.ntmps30
  go_wp2
  go_ret
  exact ⟨by first | rfl | (simp; done) | (simp [*]; done), by repeat (first | exact Drawn0.refl _ | apply Drawn0.step)⟩
 ·rw [if_neg c4] at H
  have c4b0 : decide (a1 ≤ a0) = false := decide_eq_false c4
  clear c4
  obtain rfl := Option.some.inj H
  go_enter Tryd.func30, Tryd.ntmps30
  go_wp2
  go_ret
  exact ⟨by first | rfl | (simp; done) | (simp [*]; done), by repeat (first | exact Drawn0.refl _ | apply Drawn0.step)⟩
end
section
attribute [local go_sem] max2_int min2_int max_two min_two max_three min_three max_four min_four
theorem eqA25 (d : Nat) (w : World) (x0 y0 : Int) (x1 y1 : Int) (x2 y2 : Int) :
  (Op.equalIn (d + 2) 25 (.agg #[.int .i64 x0, .int .i64 x1, .int .i64 x2]) (.agg #[.int .i64 y0, .int .i64 y1, .int .i64 y2])).run Tryd.prog w = .ok (x0 == y0 && (x1 == y1 && (x2 == y2))) w := by
 refine eqA_of Tryd.underlying25 (by kernel_rfl) ?_
 refine eqf_cons (by rfl) (by go_simp; rfl) (by go_simp; rfl) (by go_simp) ?_
 refine eqf_cons (by rfl) (by go_simp; rfl) (by go_simp; rfl) (by go_simp) ?_
 exact eqf_last (by rfl) (by go_simp; rfl) (by go_simp; rfl) (by go_simp)
end
section
attribute [local go_sem] max2_int min2_int max_two min_two max_three min_three max_four min_four
attribute [local go_sem high] eqA25
mutual
def spec_DeedText.j0 : Nat → Bool → Int → Int → Int → Option (ByteArray)
 | 0, _, _, _, _ => none
 | k + 1, x3, x109000, x109001, x109002 => if x3 = true then ((spec_l1Number.f k x109001).bind fun t110 => (if 5 + t110.size ≤ 9223372036854775807 then (some ((⟨#[103, 108, 117, 101, 32]⟩ : ByteArray) ++ t110)) else (none))) else (if x109000 = 1 then ((spec_l1In.f x109001 0 9).bind fun t111 => (if t111 = true then (spec_DeedText.j1 k (x109002 == 0) x109000 x109001 x109002) else (spec_DeedText.j1 k false x109000 x109001 x109002))) else (spec_DeedText.j1 k false x109000 x109001 x109002))
def spec_DeedText.j1 : Nat → Bool → Int → Int → Int → Option (ByteArray)
 | 0, _, _, _, _ => none
 | k + 1, x21, x109000, x109001, x109002 => if x21 = true then ((spec_l1Number.f k x109001).bind fun t112 => (if 6 + t112.size ≤ 9223372036854775807 then (some ((⟨#[116, 105, 109, 101, 115, 32]⟩ : ByteArray) ++ t112)) else (none))) else (if (x109000 == 2 && (x109001 == 0 && (x109002 == 0))) = true then (some (⟨#[114, 105, 110, 103]⟩ : ByteArray)) else (if x109000 = 3 then ((spec_l1In.f x109001 0 99).bind fun t113 => (if t113 = true then ((spec_l1In.f x109002 0 99).bind fun t114 => (spec_DeedText.j2 k t114 x109000 x109001 x109002)) else (spec_DeedText.j2 k false x109000 x109001 x109002))) else (spec_DeedText.j2 k false x109000 x109001 x109002)))
def spec_DeedText.j2 : Nat → Bool → Int → Int → Int → Option (ByteArray)
 | 0, _, _, _, _ => none
 | k + 1, x43, x109000, x109001, x109002 => if x43 = true then ((spec_l1Number.f k x109001).bind fun t115 => (if 5 + t115.size ≤ 9223372036854775807 then (if ((⟨#[112, 97, 114, 116, 32]⟩ : ByteArray) ++ t115).size + 1 ≤ 9223372036854775807 then ((spec_l1Number.f k x109002).bind fun t116 => (if (((⟨#[112, 97, 114, 116, 32]⟩ : ByteArray) ++ t115) ++ (⟨#[32]⟩ : ByteArray)).size + t116.size ≤ 9223372036854775807 then (some ((((⟨#[112, 97, 114, 116, 32]⟩ : ByteArray) ++ t115) ++ (⟨#[32]⟩ : ByteArray)) ++ t116)) else (none))) else (none)) else (none))) else (if (x109000 == 4 && (x109001 == 0 && (x109002 == 0))) = true then (some (⟨#[98, 97, 99, 107]⟩ : ByteArray)) else (some (⟨#[]⟩ : ByteArray)))
end
def spec_DeedText.f (k : Nat) (a0_0 : Int) (a0_1 : Int) (a0_2 : Int) : Option (ByteArray) := if a0_0 = 0 then ((spec_l1In.f a0_1 0 9).bind fun t109 => (if t109 = true then (spec_DeedText.j0 k (a0_2 == 0) a0_0 a0_1 a0_2) else (spec_DeedText.j0 k false a0_0 a0_1 a0_2))) else (spec_DeedText.j0 k false a0_0 a0_1 a0_2)
def spec_DeedText.T8 : Bool × List (List Nat × List Nat) := (true, [([], []), ([0], [0]), ([1], [1]), ([2], [2]), ([3], [3]), ([], []), ([5], [5]), ([6, 2], [6]), ([4, 7], [4, 7]), ([8, 7, 0, 1, 2, 3, 4, 5, 6, 7, 8], [8])])
def spec_DeedText.B8 : List Nat := [0, 1, 3, 7, 15, 0, 32, 103, 255, 511]
theorem spec_DeedText.tab8 : rtab .any (opsOf Tryd.f10 8) = spec_DeedText.T8 := by kernel_rfl
theorem spec_DeedText.bits8 : waitsOk spec_DeedText.T8.2 spec_DeedText.B8 = true := by kernel_rfl
set_option maxHeartbeats 8000000 in
set_option maxRecDepth 100000 in
theorem spec_DeedText.calls (k : Nat) (a0_0 : Int) (a0_1 : Int) (a0_2 : Int) (r : ByteArray) (w : World) (h : spec_DeedText.f k a0_0 a0_1 a0_2 = some r) :
  Calls Tryd.prog 10 #[.agg #[.int .i64 a0_0, .int .i64 a0_1, .int .i64 a0_2]] w fun e w' => e = .returned (.string r) ∧ Below w.heap.size w w' := by
 have hu25:=Tryd.underlying25;have HB:=zqm (Below.refl w.heap.size w);have H:(if a0_0=0 then((spec_l1In.f a0_1 0 9).bind fun h9=>(if h9=true then(spec_DeedText.j0 k (a0_2==0) a0_0 a0_1 a0_2) else(spec_DeedText.j0 k false a0_0 a0_1 a0_2))) else(spec_DeedText.j0 k false a0_0 a0_1 a0_2))=some r:=h;clear h;have n4:=zqm H;clear H
 go_enter Tryd.func10,Tryd.ntmps10
 go_upto_region 1 with (first|((with_reducible refine gate_dst (N:=1) rfl ?_);refine box_event ?hg (N:=1) ?hd (cs:= #[.int .i64 a0_0,.int .i64 a0_1,.int .i64 a0_2]) (t:=25) ?hr ?_;(case hd=>rfl);(case hg=>rfl);(case hr=> exact zq18);intro a1 hg w3 hbox hb;have o8:=zqm (below_step zq5 hb);have a0:=zqm (hbox);have r1:=zqm ((by rw [hg];exact(below_size zq5):w.heap.size≤a1));have a2:=zqm ((by rw [hg];exact(below_size zq5):w.heap.size≤a1));clear HB;have HB:=o8;clear o8 hb hbox hg))
 (try simp only [Act.put,List.setIfInBounds_toArray,List.set_cons_zero,List.set_cons_succ])
 go_cut [3] (fun v3 wc=> ∃(kq:Nat) (h2:Bool),v3= .bool h2∧Aside0 (spec_DeedText.j0 kq h2 a0_0 a0_1 a0_2=some r)∧Aside0 (kq≤k)∧Aside0 (wc.heap[a1]? =some (.cells #[.int .i64 a0_0,.int .i64 a0_1,.int .i64 a0_2] 25 (0,0)))∧Aside0 (Below w.heap.size w wc))
 case first=>
  have H:=n4.out;clear n4
  by_cases c4:a0_0=0
  ·rw [if_pos c4] at H;have a7:(a0_0==0)=true:=beq_iff_eq.mpr c4;have g9:(a0_0 !=0)=false:=bne_eq_false_iff_eq.mpr c4;clear c4;(first|rw [a7]|(simp only [i64_w,i32_w];rw [a7])|skip);replace H:=Option.bind_eq_some_iff.mp H;obtain⟨h9,o6,H⟩:=H;(try dsimp only at H);have A5:=zqm o6;clear o6
   by_cases c6:h9=true
   ·subst c6;rw [if_pos rfl] at H;have H':=zqm H;clear H;have b4:w3.cell? ⟨a1,0,none⟩=some (.int .i64 a0_0):=(blk_cell a0.out 0).trans rfl;have b5:w3.cell? ⟨a1,1,none⟩=some (.int .i64 a0_1):=(blk_cell a0.out 1).trans rfl;have b6:w3.cell? ⟨a1,2,none⟩=some (.int .i64 a0_2):=(blk_cell a0.out 2).trans rfl;have c8:=blk_frozen a0.out 0;have c9:=blk_frozen a0.out 1;have d0:=blk_frozen a0.out 2
    go_wp2_with (first|(go_at_call 30;(with_reducible refine(spec_l1In.calls a0_1 0 9 true _ A5.out).mono ?_);rintro e w' ⟨rfl,⟨nd,rfl⟩⟩))
    go_meet
    case rel=>exact⟨_,((a0_2==0)),zq15,H',⟨zq61⟩,⟨zqe a0.out⟩,⟨zq19⟩⟩
   ·replace c6:=Bool.eq_false_iff.mpr c6;subst c6;rw [if_neg (show¬(false=true) by decide)] at H;have H':=zqm H;clear H;have b7:w3.cell? ⟨a1,0,none⟩=some (.int .i64 a0_0):=(blk_cell a0.out 0).trans rfl;have b8:w3.cell? ⟨a1,1,none⟩=some (.int .i64 a0_1):=(blk_cell a0.out 1).trans rfl;have b9:w3.cell? ⟨a1,2,none⟩=some (.int .i64 a0_2):=(blk_cell a0.out 2).trans rfl;have d1:=blk_frozen a0.out 0;have d2:=blk_frozen a0.out 1;have d3:=blk_frozen a0.out 2
    go_wp2_with (first|(go_at_call 30;(with_reducible refine(spec_l1In.calls a0_1 0 9 false _ A5.out).mono ?_);rintro e w' ⟨rfl,⟨nd,rfl⟩⟩))
    go_meet
    case rel=>exact⟨_,(false),zq15,H',⟨zq61⟩,⟨zqe a0.out⟩,⟨zq19⟩⟩
  ·rw [if_neg c4] at H;have a7:(a0_0==0)=false:=beq_eq_false_iff_ne.mpr c4;have g9:(a0_0 !=0)=true:=bne_iff_ne.mpr c4;(first|rw [a7]|(simp only [i64_w,i32_w];rw [a7])|skip);have H':=zqm H;clear H;have c0:w3.cell? ⟨a1,0,none⟩=some (.int .i64 a0_0):=(blk_cell a0.out 0).trans rfl;have c5:w3.cell? ⟨a1,1,none⟩=some (.int .i64 a0_1):=(blk_cell a0.out 1).trans rfl;have c7:w3.cell? ⟨a1,2,none⟩=some (.int .i64 a0_2):=(blk_cell a0.out 2).trans rfl;have d4:=blk_frozen a0.out 0;have d5:=blk_frozen a0.out 1;have d6:=blk_frozen a0.out 2
   go_wp2
   go_meet
   case rel=>exact⟨_,(false),zq15,H',⟨zq61⟩,⟨zqe a0.out⟩,⟨zq19⟩⟩
 case rest=>
  clear n4;(try clear c1);(try clear p2);(try clear c4);(try clear a7);(try clear g9);(try clear c6);(try clear b4);(try clear b5);(try clear b6);(try clear b7);(try clear b8);(try clear b9);(try clear c0);(try clear c5);(try clear c7);(try clear c8);(try clear c9);(try clear d0);(try clear d1);(try clear d2);(try clear d3);(try clear d4);(try clear d5);(try clear d6);obtain⟨kq,h2,rfl,HA,d8,a0,HB⟩:=hcut
  cases kq with
  |zero=>exact absurd HA.out (by simp [spec_DeedText.j0])
  |succ o7=>
   have H:=HA.out;clear HA;simp only [spec_DeedText.j0] at H
   by_cases d9:h2=true
   ·subst d9;rw [if_pos rfl] at H;replace H:=Option.bind_eq_some_iff.mp H;obtain⟨h0,m7,H⟩:=H;(try dsimp only at H);have q4:=zqm m7;clear m7
    by_cases b3:5+h0.size≤9223372036854775807
    ·rw [if_pos b3] at H;have i0:=eq_true b3;have i1:decide (5+h0.size≤9223372036854775807)=true:=decide_eq_true b3;(try have i2:(9223372036854775807<5+h0.size)=False:=eq_false (Nat.not_lt.2 b3));obtain rfl:=Option.some.inj H;have e4:wc.cell? ⟨a1,0,none⟩=some (.int .i64 a0_0):=(blk_cell a0.out 0).trans rfl;have e5:wc.cell? ⟨a1,1,none⟩=some (.int .i64 a0_1):=(blk_cell a0.out 1).trans rfl;have e6:wc.cell? ⟨a1,2,none⟩=some (.int .i64 a0_2):=(blk_cell a0.out 2).trans rfl;have f6:=blk_frozen a0.out 0;have f7:=blk_frozen a0.out 1;have f8:=blk_frozen a0.out 2
     go_wp2_with (first|((with_reducible refine gate_callee (f:=31) rfl ?_);refine goesL_ (some 19) rfl rfl Tryd.func31 zqk rfl #[.int .i64 a0_1] rfl zq2 ?_;(with_reducible refine(spec_l1Number.calls o7 a0_1 h0 _ q4.out).mono ?_);rintro e s4 ⟨rfl,hb⟩;refine⟨_,rfl,?_⟩;replace a0:=zqm (blk_below (g:=a1) (o:= .cells #[.int .i64 a0_0,.int .i64 a0_1,.int .i64 a0_2] 25 (0,0)) (zqe a0.out) hb);replace HB:=zqm (below_step zq19 hb);clear hb))
     go_ret
     exact⟨zq23,zq19⟩
    ·rw [if_neg b3] at H;exact absurd H (by simp)
   ·replace d9:=Bool.eq_false_iff.mpr d9;subst d9;rw [if_neg (show¬(false=true) by decide)] at H;have h6:=zqm H;clear H
    go_upto_region 3 with (fail)
    go_cut [21] (fun q9 wc=> ∃(kq:Nat) (b0:Bool),q9= .bool b0∧Aside0 (spec_DeedText.j1 kq b0 a0_0 a0_1 a0_2=some r)∧Aside0 (kq≤o7)∧Aside0 (wc.heap[a1]? =some (.cells #[.int .i64 a0_0,.int .i64 a0_1,.int .i64 a0_2] 25 (0,0)))∧Aside0 (Below w.heap.size w wc))
    case first=>
     have H:=h6.out;clear h6
     by_cases a9:a0_0=1
     ·rw [if_pos a9] at H;have a4:(a0_0==1)=true:=beq_iff_eq.mpr a9;have g8:(a0_0 !=1)=false:=bne_eq_false_iff_eq.mpr a9;clear a9;(first|rw [a4]|(simp only [i64_w,i32_w];rw [a4])|skip);replace H:=Option.bind_eq_some_iff.mp H;obtain⟨o9,m8,H⟩:=H;(try dsimp only at H);have o4:=zqm m8;clear m8
      by_cases e0:o9=true
      ·subst e0;rw [if_pos rfl] at H;have H':=zqm H;clear H;have e7:wc.cell? ⟨a1,0,none⟩=some (.int .i64 a0_0):=(blk_cell a0.out 0).trans rfl;have e8:wc.cell? ⟨a1,1,none⟩=some (.int .i64 a0_1):=(blk_cell a0.out 1).trans rfl;have e9:wc.cell? ⟨a1,2,none⟩=some (.int .i64 a0_2):=(blk_cell a0.out 2).trans rfl;have f9:=blk_frozen a0.out 0;have g0:=blk_frozen a0.out 1;have g1:=blk_frozen a0.out 2
       go_wp2_with (first|(go_at_call 30;(with_reducible refine(spec_l1In.calls a0_1 0 9 true _ o4.out).mono ?_);rintro e w' ⟨rfl,⟨nd,rfl⟩⟩))
       go_meet
       case rel=>exact⟨_,((a0_2==0)),zq15,H',⟨zq139⟩,⟨zqe a0.out⟩,⟨zq19⟩⟩
      ·replace e0:=Bool.eq_false_iff.mpr e0;subst e0;rw [if_neg (show¬(false=true) by decide)] at H;have H':=zqm H;clear H;have f0:wc.cell? ⟨a1,0,none⟩=some (.int .i64 a0_0):=(blk_cell a0.out 0).trans rfl;have f1:wc.cell? ⟨a1,1,none⟩=some (.int .i64 a0_1):=(blk_cell a0.out 1).trans rfl;have f2:wc.cell? ⟨a1,2,none⟩=some (.int .i64 a0_2):=(blk_cell a0.out 2).trans rfl;have g2:=blk_frozen a0.out 0;have g3:=blk_frozen a0.out 1;have g4:=blk_frozen a0.out 2
       go_wp2_with (first|(go_at_call 30;(with_reducible refine(spec_l1In.calls a0_1 0 9 false _ o4.out).mono ?_);rintro e w' ⟨rfl,⟨nd,rfl⟩⟩))
       go_meet
       case rel=>exact⟨_,(false),zq15,H',⟨zq139⟩,⟨zqe a0.out⟩,⟨zq19⟩⟩
     ·rw [if_neg a9] at H;have a4:(a0_0==1)=false:=beq_eq_false_iff_ne.mpr a9;have g8:(a0_0 !=1)=true:=bne_iff_ne.mpr a9;(first|rw [a4]|(simp only [i64_w,i32_w];rw [a4])|skip);have H':=zqm H;clear H;have f3:wc.cell? ⟨a1,0,none⟩=some (.int .i64 a0_0):=(blk_cell a0.out 0).trans rfl;have f4:wc.cell? ⟨a1,1,none⟩=some (.int .i64 a0_1):=(blk_cell a0.out 1).trans rfl;have f5:wc.cell? ⟨a1,2,none⟩=some (.int .i64 a0_2):=(blk_cell a0.out 2).trans rfl;have g5:=blk_frozen a0.out 0;have g6:=blk_frozen a0.out 1;have g7:=blk_frozen a0.out 2
      go_wp2
      go_meet
      case rel=>exact⟨_,(false),zq15,H',⟨zq139⟩,⟨zqe a0.out⟩,⟨zq19⟩⟩
    case rest=>
     clear h6;(try clear c1);(try clear p2);(try clear c3);(try clear c4);(try clear a7);(try clear g9);(try clear c6);(try clear d9);(try clear b3);(try clear i0);(try clear i1);(try clear i2);(try clear a9);(try clear a4);(try clear g8);(try clear e0);(try clear e4);(try clear e5);(try clear e6);(try clear e7);(try clear e8);(try clear e9);(try clear f0);(try clear f1);(try clear f2);(try clear f3);(try clear f4);(try clear f5);(try clear b4);(try clear b5);(try clear b6);(try clear b7);(try clear b8);(try clear b9);(try clear c0);(try clear c5);(try clear c7);(try clear f6);(try clear f7);(try clear f8);(try clear f9);(try clear g0);(try clear g1);(try clear g2);(try clear g3);(try clear g4);(try clear g5);(try clear g6);(try clear g7);(try clear c8);(try clear c9);(try clear d0);(try clear d1);(try clear d2);(try clear d3);(try clear d4);(try clear d5);(try clear d6);(try clear p2);obtain⟨kq,b0,rfl,HA,h8,a0,HB⟩:=hcut
     cases kq with
     |zero=>exact absurd HA.out (by simp [spec_DeedText.j1])
     |succ n5=>
      have H:=HA.out;clear HA;simp only [spec_DeedText.j1] at H
      by_cases h3:b0=true
      ·subst h3;rw [if_pos rfl] at H;replace H:=Option.bind_eq_some_iff.mp H;obtain⟨h1,m9,H⟩:=H;(try dsimp only at H);have q5:=zqm m9;clear m9
       by_cases e1:6+h1.size≤9223372036854775807
       ·rw [if_pos e1] at H;have n8:=eq_true e1;have n9:decide (6+h1.size≤9223372036854775807)=true:=decide_eq_true e1;(try have o0:(9223372036854775807<6+h1.size)=False:=eq_false (Nat.not_lt.2 e1));obtain rfl:=Option.some.inj H;have i8:wc.cell? ⟨a1,0,none⟩=some (.int .i64 a0_0):=(blk_cell a0.out 0).trans rfl;have i9:wc.cell? ⟨a1,1,none⟩=some (.int .i64 a0_1):=(blk_cell a0.out 1).trans rfl;have j3:wc.cell? ⟨a1,2,none⟩=some (.int .i64 a0_2):=(blk_cell a0.out 2).trans rfl;have k9:=blk_frozen a0.out 0;have l0:=blk_frozen a0.out 1;have l1:=blk_frozen a0.out 2
        go_wp2_with (first|((with_reducible refine gate_callee (f:=31) rfl ?_);refine goesL_ (some 37) rfl rfl Tryd.func31 zqk rfl #[.int .i64 a0_1] rfl zq2 ?_;(with_reducible refine(spec_l1Number.calls n5 a0_1 h1 _ q5.out).mono ?_);rintro e s5 ⟨rfl,hb⟩;refine⟨_,rfl,?_⟩;replace a0:=zqm (blk_below (g:=a1) (o:= .cells #[.int .i64 a0_0,.int .i64 a0_1,.int .i64 a0_2] 25 (0,0)) (zqe a0.out) hb);replace HB:=zqm (below_step zq19 hb);clear hb))
        go_ret
        exact⟨zq23,zq19⟩
       ·rw [if_neg e1] at H;exact absurd H (by simp)
      ·replace h3:=Bool.eq_false_iff.mpr h3;subst h3;rw [if_neg (show¬(false=true) by decide)] at H
       by_cases a5:(a0_0==2 && (a0_1==0 && (a0_2==0)))=true
       ·rw [if_pos a5] at H;have i3:(a0_0==2 && (a0_1==0 && (a0_2==0)))=true:=a5;(try(have i4:decide (a0_0=2 && (a0_1==0 && (a0_2==0)))=true:=by simpa using a5));(try(have i5:(a0_0==2 && (a0_1==0 && (a0_2==0)))=true:=by simpa using a5));clear a5;obtain rfl:=Option.some.inj H;have j4:wc.cell? ⟨a1,0,none⟩=some (.int .i64 a0_0):=(blk_cell a0.out 0).trans rfl;have j5:wc.cell? ⟨a1,1,none⟩=some (.int .i64 a0_1):=(blk_cell a0.out 1).trans rfl;have j6:wc.cell? ⟨a1,2,none⟩=some (.int .i64 a0_2):=(blk_cell a0.out 2).trans rfl;have l2:=blk_frozen a0.out 0;have l3:=blk_frozen a0.out 1;have l4:=blk_frozen a0.out 2
        go_wp2
        go_ret
        exact⟨zq23,zq19⟩
       ·rw [if_neg a5] at H;(have i3:(a0_0==2 && (a0_1==0 && (a0_2==0)))=false:=by simpa using a5);(try(have i4:decide (a0_0=2 && (a0_1==0 && (a0_2==0)))=false:=by simpa using a5));(try(have i5:(a0_0==2 && (a0_1==0 && (a0_2==0)))=false:=by simpa using a5));(try(have r2: ¬(a0_0=2 && (a0_1==0 && (a0_2==0))):=by simpa using a5));clear a5;have h7:=zqm H;clear H;have j7:wc.cell? ⟨a1,0,none⟩=some (.int .i64 a0_0):=(blk_cell a0.out 0).trans rfl;have j8:wc.cell? ⟨a1,1,none⟩=some (.int .i64 a0_1):=(blk_cell a0.out 1).trans rfl;have j9:wc.cell? ⟨a1,2,none⟩=some (.int .i64 a0_2):=(blk_cell a0.out 2).trans rfl;have l5:=blk_frozen a0.out 0;have l6:=blk_frozen a0.out 1;have l7:=blk_frozen a0.out 2
        go_upto_region 7 with (fail)
        go_cut [43] (fun r0 wc=> ∃(kq:Nat) (b1:Bool),r0= .bool b1∧Aside0 (spec_DeedText.j2 kq b1 a0_0 a0_1 a0_2=some r)∧Aside0 (kq≤n5)∧Aside0 (wc.heap[a1]? =some (.cells #[.int .i64 a0_0,.int .i64 a0_1,.int .i64 a0_2] 25 (0,0)))∧Aside0 (Below w.heap.size w wc))
        case first=>
         have H:=h7.out;clear h7
         by_cases b2:a0_0=3
         ·rw [if_pos b2] at H;have a8:(a0_0==3)=true:=beq_iff_eq.mpr b2;have i6:(a0_0 !=3)=false:=bne_eq_false_iff_eq.mpr b2;clear b2;(first|rw [a8]|(simp only [i64_w,i32_w];rw [a8])|skip);replace H:=Option.bind_eq_some_iff.mp H;obtain⟨p0,n0,H⟩:=H;(try dsimp only at H);have o5:=zqm n0;clear n0
          by_cases h4:p0=true
          ·subst h4;rw [if_pos rfl] at H;replace H:=Option.bind_eq_some_iff.mp H;obtain⟨n7,n1,H⟩:=H;(try dsimp only at H);have q6:=zqm n1;clear n1;have H':=zqm H;clear H;have k0:wc.cell? ⟨a1,0,none⟩=some (.int .i64 a0_0):=(blk_cell a0.out 0).trans rfl;have k1:wc.cell? ⟨a1,1,none⟩=some (.int .i64 a0_1):=(blk_cell a0.out 1).trans rfl;have k2:wc.cell? ⟨a1,2,none⟩=some (.int .i64 a0_2):=(blk_cell a0.out 2).trans rfl;have l8:=blk_frozen a0.out 0;have l9:=blk_frozen a0.out 1;have m0:=blk_frozen a0.out 2
           go_wp2_with (first|(go_at_call 30;(with_reducible refine(spec_l1In.calls a0_1 0 99 true _ o5.out).mono ?_);rintro e w' ⟨rfl,⟨nd,rfl⟩⟩)|(go_at_call 30;(with_reducible refine(spec_l1In.calls a0_2 0 99 n7 _ q6.out).mono ?_);rintro e w' ⟨rfl,⟨nd,rfl⟩⟩))
           go_meet
           case rel=>exact⟨_,(n7),zq15,H',⟨zq129⟩,⟨zqe a0.out⟩,⟨zq19⟩⟩
          ·replace h4:=Bool.eq_false_iff.mpr h4;subst h4;rw [if_neg (show¬(false=true) by decide)] at H;have H':=zqm H;clear H;have k3:wc.cell? ⟨a1,0,none⟩=some (.int .i64 a0_0):=(blk_cell a0.out 0).trans rfl;have k4:wc.cell? ⟨a1,1,none⟩=some (.int .i64 a0_1):=(blk_cell a0.out 1).trans rfl;have k5:wc.cell? ⟨a1,2,none⟩=some (.int .i64 a0_2):=(blk_cell a0.out 2).trans rfl;have m1:=blk_frozen a0.out 0;have m2:=blk_frozen a0.out 1;have m3:=blk_frozen a0.out 2
           go_wp2_with (first|(go_at_call 30;(with_reducible refine(spec_l1In.calls a0_1 0 99 false _ o5.out).mono ?_);rintro e w' ⟨rfl,⟨nd,rfl⟩⟩))
           go_meet
           case rel=>exact⟨_,(false),zq15,H',⟨zq129⟩,⟨zqe a0.out⟩,⟨zq19⟩⟩
         ·rw [if_neg b2] at H;have a8:(a0_0==3)=false:=beq_eq_false_iff_ne.mpr b2;have i6:(a0_0 !=3)=true:=bne_iff_ne.mpr b2;(first|rw [a8]|(simp only [i64_w,i32_w];rw [a8])|skip);have H':=zqm H;clear H;have k6:wc.cell? ⟨a1,0,none⟩=some (.int .i64 a0_0):=(blk_cell a0.out 0).trans rfl;have k7:wc.cell? ⟨a1,1,none⟩=some (.int .i64 a0_1):=(blk_cell a0.out 1).trans rfl;have k8:wc.cell? ⟨a1,2,none⟩=some (.int .i64 a0_2):=(blk_cell a0.out 2).trans rfl;have m4:=blk_frozen a0.out 0;have m5:=blk_frozen a0.out 1;have m6:=blk_frozen a0.out 2
          go_wp2
          go_meet
          case rel=>exact⟨_,(false),zq15,H',⟨zq129⟩,⟨zqe a0.out⟩,⟨zq19⟩⟩
        case rest=>
         clear h7;(try clear c1);(try clear c2);(try clear p2);(try clear c3);(try clear c4);(try clear a7);(try clear g9);(try clear c6);(try clear d9);(try clear b3);(try clear i0);(try clear i1);(try clear i2);(try clear a9);(try clear a4);(try clear g8);(try clear e0);(try clear h3);(try clear e1);(try clear n8);(try clear n9);(try clear o0);(try clear a5);(try clear i3);(try clear i4);(try clear i5);(try clear b2);(try clear a8);(try clear i6);(try clear h4);(try clear e4);(try clear e5);(try clear e6);(try clear e7);(try clear e8);(try clear e9);(try clear f0);(try clear f1);(try clear f2);(try clear f3);(try clear f4);(try clear f5);(try clear i8);(try clear i9);(try clear j3);(try clear j4);(try clear j5);(try clear j6);(try clear j7);(try clear j8);(try clear j9);(try clear k0);(try clear k1);(try clear k2);(try clear k3);(try clear k4);(try clear k5);(try clear k6);(try clear k7);(try clear k8);(try clear b4);(try clear b5);(try clear b6);(try clear b7);(try clear b8);(try clear b9);(try clear c0);(try clear c5);(try clear c7);(try clear f6);(try clear f7);(try clear f8);(try clear f9);(try clear g0);(try clear g1);(try clear g2);(try clear g3);(try clear g4);(try clear g5);(try clear g6);(try clear g7);(try clear k9);(try clear l0);(try clear l1);(try clear l2);(try clear l3);(try clear l4);(try clear l5);(try clear l6);(try clear l7);(try clear l8);(try clear l9);(try clear m0);(try clear m1);(try clear m2);(try clear m3);(try clear m4);(try clear m5);(try clear m6);(try clear c8);(try clear c9);(try clear d0);(try clear d1);(try clear d2);(try clear d3);(try clear d4);(try clear d5);(try clear d6);(try clear p2);obtain⟨kq,b1,rfl,HA,s3,a0,HB⟩:=hcut
         cases kq with
         |zero=>exact absurd HA.out (by simp [spec_DeedText.j2])
         |succ n6=>
          have H:=HA.out;clear HA;simp only [spec_DeedText.j2] at H
          by_cases i7:b1=true
          ·subst i7;rw [if_pos rfl] at H;replace H:=Option.bind_eq_some_iff.mp H;obtain⟨a3,n2,H⟩:=H;(try dsimp only at H);have q7:=zqm n2;clear n2
           by_cases h5:5+a3.size≤9223372036854775807
           ·rw [if_pos h5] at H;have r3:=eq_true h5;have r4:decide (5+a3.size≤9223372036854775807)=true:=decide_eq_true h5;try have r5:(9223372036854775807<5+a3.size)=False:=eq_false (Nat.not_lt.2 h5)
            by_cases e2:((⟨#[112,97,114,116,32]⟩:ByteArray) ++ a3).size+1≤9223372036854775807
            ·rw [if_pos e2] at H;have r6:=eq_true e2;have r7:decide (((⟨#[112,97,114,116,32]⟩:ByteArray) ++ a3).size+1≤9223372036854775807)=true:=decide_eq_true e2;(try have r8:(9223372036854775807<((⟨#[112,97,114,116,32]⟩:ByteArray) ++ a3).size+1)=False:=eq_false (Nat.not_lt.2 e2));(try have c41bs:(9223372036854775807<5+a3.size+1)=False:=eq_false (by have h_:=e2;have l0_:(⟨#[112,97,114,116,32]⟩:ByteArray).size=5:=rfl;rw [ByteArray.size_append,l0_] at h_;omega));replace H:=Option.bind_eq_some_iff.mp H;obtain⟨d7,n3,H⟩:=H;(try dsimp only at H);have q8:=zqm n3;clear n3
             by_cases e3:(((⟨#[112,97,114,116,32]⟩:ByteArray) ++ a3) ++ (⟨#[32]⟩:ByteArray)).size+d7.size≤9223372036854775807
             ·rw [if_pos e3] at H;have r9:=eq_true e3;have s0:decide ((((⟨#[112,97,114,116,32]⟩:ByteArray) ++ a3) ++ (⟨#[32]⟩:ByteArray)).size+d7.size≤9223372036854775807)=true:=decide_eq_true e3;(try have s1:(9223372036854775807<(((⟨#[112,97,114,116,32]⟩:ByteArray) ++ a3) ++ (⟨#[32]⟩:ByteArray)).size+d7.size)=False:=eq_false (Nat.not_lt.2 e3));(try have c43bs:(9223372036854775807<5+a3.size+1+d7.size)=False:=eq_false (by have h_:=e3;have l0_:(⟨#[112,97,114,116,32]⟩:ByteArray).size=5:=rfl;have l1_:(⟨#[32]⟩:ByteArray).size=1:=rfl;rw [ByteArray.size_append,ByteArray.size_append,l0_,l1_] at h_;omega));obtain rfl:=Option.some.inj H;(try go_wp2);replace a0:=zqm (blk_drew a0.out);replace HB:=zqm (below_drew1 HB.out);refine start_ (n:=10) (S:=fun w'=>w'.cell? ⟨a1,0,none⟩=some (.int .i64 a0_0)∧w'.cell? ⟨a1,1,none⟩=some (.int .i64 a0_1)∧w'.cell? ⟨a1,2,none⟩=some (.int .i64 a0_2)) (ds:= []) (zqb 10 0) zqk rfl rfl ⟨(blk_cell a0.out 0).trans rfl,(blk_cell a0.out 1).trans rfl,(blk_cell a0.out 2).trans rfl⟩ (fun hHeld=>?_);refine with_tabW spec_DeedText.tab8 spec_DeedText.bits8 (fun HT_ HW_=>?_);generalize wc.drew=s6 at a0 HB hHeld ⊢;refine zqp 0 57 (zqb 10 1) HT_ ?_;refine zqp 5 62 (zqb 10 33) HT_ ?_;refine zqw 1 58 (zqb 10 35) HT_ HW_ hHeld ?_;refine zqw 6 63 (zqb 10 99) HT_ HW_ hHeld ?_;refine one_ (i:=2) (N:=some 59) (zqb 10 103) rfl rfl (one_of HT_.out zqk) (by decide) (fun K hK=>?_);refine goes_ Tryd.func31 zqk rfl #[.int .i64 a0_1] (by rfl) rfl rfl zq2 ?_;(with_reducible refine(spec_l1Number.calls n6 a0_1 a3 _ q7.out).mono ?_);rintro e s7 ⟨rfl,hb⟩;refine⟨_,rfl,?_⟩;replace a0:=zqm (blk_below (g:=a1) (o:= .cells #[.int .i64 a0_0,.int .i64 a0_1,.int .i64 a0_2] 25 (0,0)) (zqe a0.out) hb);replace HB:=zqm (below_step zq19 hb);clear hb;refine hK.out _ _ ⟨(blk_cell a0.out 0).trans rfl,(blk_cell a0.out 1).trans rfl,(blk_cell a0.out 2).trans rfl⟩ (fun hHeld=>?_);clear hK K;refine norm_ (a':=?_) ?_ ?_;rotate_left
              ·show Act.put _ (some 59) _=_;exact zqs
              refine zqp 3 60 (zqb 10 111) HT_ ?_;refine zqp 4 61 (zqb 10 127) HT_ ?_;refine one_ (i:=7) (N:=some 64) (zqb 10 255) rfl rfl (one_of HT_.out zqk) (by decide) (fun K hK=>?_);refine goes_ Tryd.func31 zqk rfl #[.int .i64 a0_2] (by rfl) rfl rfl zq2 ?_;(with_reducible refine(spec_l1Number.calls n6 a0_2 d7 _ q8.out).mono ?_);rintro e s8 ⟨rfl,hb⟩;refine⟨_,rfl,?_⟩;replace a0:=zqm (blk_below (g:=a1) (o:= .cells #[.int .i64 a0_0,.int .i64 a0_1,.int .i64 a0_2] 25 (0,0)) (zqe a0.out) hb);replace HB:=zqm (below_step zq19 hb);clear hb;refine hK.out _ _ ⟨(blk_cell a0.out 0).trans rfl,(blk_cell a0.out 1).trans rfl,(blk_cell a0.out 2).trans rfl⟩ (fun hHeld=>?_);clear hK K;refine norm_ (a':=?_) ?_ ?_;rotate_left
              ·show Act.put _ (some 64) _=_;exact zqs
              refine zqp 8 65 (zqb 10 511) HT_ ?_;refine zqp 9 2 (zqb 10 1023) HT_ ?_;refine done_ (done_of HT_.out zqk) ?_;try go_wp2
              go_ret
              exact⟨zq23,zq19⟩
             ·rw [if_neg e3] at H;exact absurd H (by simp)
            ·rw [if_neg e2] at H;exact absurd H (by simp)
           ·rw [if_neg h5] at H;exact absurd H (by simp)
          ·replace i7:=Bool.eq_false_iff.mpr i7;subst i7;rw [if_neg (show¬(false=true) by decide)] at H
           by_cases a6:(a0_0==4 && (a0_1==0 && (a0_2==0)))=true
           ·rw [if_pos a6] at H;have o1:(a0_0==4 && (a0_1==0 && (a0_2==0)))=true:=a6;(try(have o2:decide (a0_0=4 && (a0_1==0 && (a0_2==0)))=true:=by simpa using a6));(try(have o3:(a0_0==4 && (a0_1==0 && (a0_2==0)))=true:=by simpa using a6));clear a6;obtain rfl:=Option.some.inj H;have p1:wc.cell? ⟨a1,0,none⟩=some (.int .i64 a0_0):=(blk_cell a0.out 0).trans rfl;have p3:wc.cell? ⟨a1,1,none⟩=some (.int .i64 a0_1):=(blk_cell a0.out 1).trans rfl;have p4:wc.cell? ⟨a1,2,none⟩=some (.int .i64 a0_2):=(blk_cell a0.out 2).trans rfl;have p8:=blk_frozen a0.out 0;have p9:=blk_frozen a0.out 1;have q0:=blk_frozen a0.out 2
            go_wp2
            go_ret
            exact⟨zq23,zq19⟩
           ·rw [if_neg a6] at H;(have o1:(a0_0==4 && (a0_1==0 && (a0_2==0)))=false:=by simpa using a6);(try(have o2:decide (a0_0=4 && (a0_1==0 && (a0_2==0)))=false:=by simpa using a6));(try(have o3:(a0_0==4 && (a0_1==0 && (a0_2==0)))=false:=by simpa using a6));(try(have s2: ¬(a0_0=4 && (a0_1==0 && (a0_2==0))):=by simpa using a6));clear a6;obtain rfl:=Option.some.inj H;have p5:wc.cell? ⟨a1,0,none⟩=some (.int .i64 a0_0):=(blk_cell a0.out 0).trans rfl;have p6:wc.cell? ⟨a1,1,none⟩=some (.int .i64 a0_1):=(blk_cell a0.out 1).trans rfl;have p7:wc.cell? ⟨a1,2,none⟩=some (.int .i64 a0_2):=(blk_cell a0.out 2).trans rfl;have q1:=blk_frozen a0.out 0;have q2:=blk_frozen a0.out 1;have q3:=blk_frozen a0.out 2
            go_wp2
            go_ret
            exact⟨zq23,zq19⟩
end
end Go.Proofs.YtddgcdpogpppgaaDoor.Print
end
